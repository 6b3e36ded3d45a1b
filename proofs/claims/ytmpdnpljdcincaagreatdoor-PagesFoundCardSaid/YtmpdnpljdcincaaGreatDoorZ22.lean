import Derived.Test.YtmpdnpljdcincaaGreatDoorZ21
import Derived.Test.YtmpdnpljdcincaaGreatDoorZ17
import Derived.Test.YtmpdnpljdcincaaGreatDoorZ14
import Derived.Test.YtmpdnpljdcincaaGreatDoorZ16
import Derived.Test.YtmpdnpljdcincaaGreatDoorZ5
set_option linter.unusedVariables false
set_option linter.unusedSimpArgs false
set_option linter.defProp false
namespace Go.Proofs.YtmpdnpljdcincaaGreatDoor
open Nat renaming reduceAdd→zd,reduceEqDiff→za,reduceLT→zf,reduceLeDiff→zb,reduceMul→ze,reduceSub→zx
open List renaming cons_append→zp,drop_eq_getElem_cons→yi,drop_eq_nil_of_le→zV,getD→zD,getElem?_eq_getElem→zh,getElem?_eq_some_iff→zt,length_cons→zj,length_nil→zr,map_cons→zo,map_nil→zw,mem_append→zI,mem_of_getElem?→zy,mem_singleton→zH,nil_append→zq,replicate_succ→zi,replicate_zero→zm,take_of_length_le→zG,take_succ_eq_append_getElem→zB
open Int renaming toNat_natCast→yf
open Go.RowKit
def qjo:IC:=(sR [qO 4 (.box 34 (.t 0)),qO 7 (.box 3 (.t 3)),qO 8 (.alc 83 [.str [],.str [],.int .i64 0,.int .i64 0,.int .i64 0,.nl 1,.int .i64 0]),qO 9 (.mov (cI 0)),qO 10 (.mov (.c (.bool false)))] (.seq (sR [qF 12 1 4,qL 13 12,qM 14 1,qT 15 .neq 13 14,qM 16 15,⟨some 17,.fla 2 (.t 4),(some (16,false))⟩,⟨some 18,.ld 1 false (.t 17),(some (16,false))⟩,⟨some 19,.mov (.t 2),(some (16,false))⟩,⟨some 20,.bin .neq (.t 18) (.t 19),(some (16,false))⟩,qO 21 (.pick (.t 16) (.c (.bool true)) (.t 20))] (.cond (.t 21) (sR [qO 22 (.bld [.str [],.str [],.int .i64 0,.int .i64 0,.int .i64 0,.nl 1,.int .i64 0] []),qS 7 8 22,qO 9 (.mov (cI 0)),qO 10 (.mov (.c (.bool false)))] .ret) .skip)) (sR [qF 23 3 4,qL 24 23,qO 25 (.mkf 142 [.t 7]),qO 26 (.call 47 [.t 24,.t 25]),qM 11 26] (.seq (sR [qM 27 11,qB 28 .lss 27 (cI 0)] (.cond (.t 28) (sR [qO 29 (.bld [.str [],.str [],.int .i64 0,.int .i64 0,.int .i64 0,.nl 1,.int .i64 0] []),qS 7 8 29,qO 9 (.mov (cI 0)),qO 10 (.mov (.c (.bool false)))] .ret) .skip)) (.seq (.drg [qF 30 3 4,qO 31 (.ldn 8 1 false (.t 30)),qM 32 11,qX 33 7 31 32,qO 34 (.ldn 8 7 true (.t 33)),qO 35 (.ldn 8 1 false (.t 7)),qF 36 3 4,qO 37 (.ldn 8 1 false (.t 36)),qM 38 11,qX 39 7 37 38,qF 40 3 39,qO 41 (.ldn 8 1 false (.t 40)),qT 42 .sub 35 41,⟨none,.stk 8 7 (.t 8) (.t 34),none⟩,qM 9 42,qO 10 (.mov (.c (.bool true)))]) .ret)))))
def qja:List IRes:=[.c 8 7 true,.t 9,.t 10]
theorem qnc:chkF Tryz.prog Tryz.f99 qjo qja 43=true:=by kernel_rfl
def qhX:IC:=(sR [qO 2 (.box 83 (.t 0)),qO 3 (.mov (.c (.bool false)))] (sR [qL 4 1,qF 5 3 2,qL 6 5,qF 7 4 2,qL 8 7,qO 9 (.call 71 [.t 4,.t 6,.t 8]),qM 3 9] .ret))
def qhP:List IRes:=[.t 3]
theorem qlF:chkF Tryz.prog Tryz.f142 qhX qhP 10=true:=by kernel_rfl
def qiP:IC:=(sR [qO 2 (.box 34 (.t 0)),qO 4 (.mov (.c (.nl 1))),qO 5 (.mov (cI 0))] (.seq (sR [qO 14 (.ld 4 true (.t 2)),qO 15 (.call 50 [.t 14]),qM 6 15] (sR [qM 16 6,qB 17 .neq 16 (cI 0)] (.cond (.t 17) (sR [qM 18 6,qO 4 (.mov (.c (.nl 1))),qM 5 18] .ret) .skip))) (sR [qM 20 1,qO 21 (.call 98 [.t 20]),qM 19 21,qO 22 (.ext 0 (.t 19)),qO 23 (.ext 1 (.t 19)),qO 24 (.ext 2 (.t 19)),qO 25 (.ext 3 (.t 19)),qM 7 22,qM 8 23,qM 9 24,qM 10 25] (.seq (sR [qM 26 10,qB 27 .neq 26 (cI 0)] (.cond (.t 27) (sR [qM 28 10,qO 4 (.mov (.c (.nl 1))),qM 5 28] .ret) .skip)) (sR [qO 30 (.ld 4 true (.t 2)),qM 31 7,qM 32 8,qM 33 9,qO 34 (.call 99 [.t 30,.t 31,.t 32,.t 33]),qM 29 34,qO 35 (.ext 0 (.t 29)),qO 36 (.ext 1 (.t 29)),qO 37 (.ext 2 (.t 29)),qO 11 (.alc 83 [.str [],.str [],.int .i64 0,.int .i64 0,.int .i64 0,.nl 1,.int .i64 0]),qS 7 11 35,qM 12 36,qM 13 37] (.seq (sR [qM 38 13,qO 39 (.not (.t 38))] (.cond (.t 39) (sR [qO 4 (.mov (.c (.nl 1))),qO 5 (.mov (cI 8))] .ret) .skip)) (.seq (sR [qF 40 6 11,qL 41 40,qB 42 .gtr 41 (cI 1)] (.cond (.t 42) (.reg [qM 43 1,qF 44 6 11,qL 45 44,qO 46 (.call 100 [.t 45]),qO 47 (.bin .add (.c (.str [46])) (.t 46)),qT 48 .add 43 47,qM 1 48]) .skip)) (.cut (sR [qF 49 5 11,qL 50 49,qM 51 12,qX 52 1 50 51,qL 53 52,qO 54 (.call 101 [.t 53]),qM 55 1,qO 56 (.bsl 1 [.t 55]),qO 57 (.app 9 1 16 (.t 54) (.t 56)),qM 4 57,qO 5 (.mov (cI 0))] .ret)))))))))
def qiH:List IRes:=[.t 4,.t 5]
theorem qma:chkF Tryz.prog Tryz.f34 qiP qiH 58=true:=by kernel_rfl
def qhl:IC:=(sR [qT 35 .lss 34 33] (.seq (.cond (.t 35) .skip (.exit 0)) (.seq (.block 1 (sR [qX 36 4 32 34,qO 37 (.ld 4 true (.t 36)),qO 13 (.alc 34 [.int .i64 0,.str [],.int .i64 0,.nl 7]),qS 4 13 37] (sR [qO 39 (.ld 4 true (.t 13)),qM 40 9,qM 41 10,qM 42 11,qO 43 (.call 99 [.t 39,.t 40,.t 41,.t 42]),qM 38 43,qO 44 (.ext 0 (.t 38)),qO 45 (.ext 1 (.t 38)),qO 46 (.ext 2 (.t 38)),qO 14 (.alc 83 [.str [],.str [],.int .i64 0,.int .i64 0,.int .i64 0,.nl 1,.int .i64 0]),qS 7 14 44,qM 15 45,qM 16 46] (sR [qM 47 16] (.cond (.t 47) (.seq (.drg [qF 48 0 13,qL 49 48,qF 50 0 14,qL 51 50,qM 52 15,qB 53 .add 52 (cI 1),qM 4 49,qM 5 51,qM 6 53,qO 7 (.mov (cI 0))]) .ret) .skip))))) (.reg [qB 54 .add 34 (cI 1),qM 34 54]))))
def qjp:IC:=(sR [qO 4 (.mov (cI 0)),qO 5 (.mov (.c (.str []))),qO 6 (.mov (cI 0)),qO 7 (.mov (cI 0))] (.seq (sR [qM 17 0,qO 18 (.call 64 [.t 17]),qM 8 18] (sR [qM 19 8,qB 20 .neq 19 (cI 0)] (.cond (.t 20) (sR [qM 21 8,qO 4 (.mov (cI 0)),qO 5 (.mov (.c (.str []))),qO 6 (.mov (cI 0)),qM 7 21] .ret) .skip))) (sR [qM 23 1,qO 24 (.call 98 [.t 23]),qM 22 24,qO 25 (.ext 0 (.t 22)),qO 26 (.ext 1 (.t 22)),qO 27 (.ext 2 (.t 22)),qO 28 (.ext 3 (.t 22)),qM 9 25,qM 10 26,qM 11 27,qM 7 28] (.seq (sR [qM 29 7,qB 30 .neq 29 (cI 0)] (.cond (.t 30) (sR [qM 31 7,qO 4 (.mov (cI 0)),qO 5 (.mov (.c (.str []))),qO 6 (.mov (cI 0)),qM 7 31] .ret) .skip)) (.seq (sR [qM 32 0,qN 33 32,qO 34 (.mov (cI 0))] (.block 0 (.loop qhl))) (sR [qO 4 (.mov (cI 0)),qO 5 (.mov (.c (.str []))),qO 6 (.mov (cI 0)),qO 7 (.mov (cI 8))] .ret))))))
def qjb:List IRes:=[.t 4,.t 5,.t 6,.t 7]
theorem qnd:chkF Tryz.prog Tryz.f36 qjp qjb 55=true:=by kernel_rfl
def qgM:IC:=(sR [qT 12 .lss 11 10] (.seq (.cond (.t 12) .skip (.exit 0)) (.seq (.block 1 (sR [qM 13 11,qX 14 4 9 11,qO 15 (.ld 4 true (.t 14)),qO 7 (.alc 34 [.int .i64 0,.str [],.int .i64 0,.nl 7]),qM 6 13,qS 4 7 15] (sR [qF 16 3 7,qL 17 16,qO 18 (.mkf 122 [.t 3]),qO 19 (.call 47 [.t 17,.t 18]),qM 8 19] (sR [qM 20 8,qB 21 .geq 20 (cI 0)] (.cond (.t 21) (sR [qM 22 6,qM 23 8,qM 4 22,qM 5 23] .ret) .skip))))) (.reg [qB 24 .add 11 (cI 1),qM 11 24]))))
def qiO:IC:=(sR [qO 3 (.box 9 (.t 1)),qO 4 (.mov (cI 0)),qO 5 (.mov (cI 0))] (.seq (sR [qM 9 0,qN 10 9,qO 11 (.mov (cI 0))] (.block 0 (.loop qgM))) (sR [qO 4 (.mov (cI (-1))),qO 5 (.mov (cI (-1)))] .ret)))
def qiG:List IRes:=[.t 4,.t 5]
theorem ql9:chkF Tryz.prog Tryz.f63 qiO qiG 25=true:=by kernel_rfl
def qhj:IC:=(sR [qO 2 (.box 83 (.t 0)),qO 3 (.mov (.c (.bool false)))] (sR [qF 4 0 2,qL 5 4,qL 6 1,qT 7 .eql 5 6,qM 3 7] .ret))
def qg7:List IRes:=[.t 3]
theorem qk9:chkF Tryz.prog Tryz.f122 qhj qg7 8=true:=by kernel_rfl
def qiQ:IC:=(sR [qO 4 (.mov (.c (.str []))),qO 5 (.mov (.c (.str []))),qO 6 (.mov (cI 0))] (sR [qM 12 0,qM 13 1,qO 14 (.call 63 [.t 12,.t 13]),qM 11 14,qO 15 (.ext 0 (.t 11)),qO 16 (.ext 1 (.t 11)),qM 7 15,qM 8 16] (.seq (sR [qM 17 0,qO 18 (.call 64 [.t 17]),qM 19 1,qO 20 (.call 65 [.t 19]),qO 21 (.not (.t 20)),qO 22 (.call 51 [.t 21,.c (.int .i64 5)]),qM 23 7,qB 24 .lss 23 (cI 0),qO 25 (.call 51 [.t 24,.c (.int .i64 8)]),qO 26 (.bsl 1 [.t 18,.t 22,.t 25]),qO 27 (.call 49 [.t 26]),qM 9 27] (sR [qM 28 9,qB 29 .neq 28 (cI 0)] (.cond (.t 29) (sR [qM 30 9,qO 4 (.mov (.c (.str []))),qO 5 (.mov (.c (.str []))),qM 6 30] .ret) .skip))) (sR [qM 31 0,qM 32 7,qX 33 4 31 32,qO 34 (.ld 4 true (.t 33)),qO 10 (.alc 34 [.int .i64 0,.str [],.int .i64 0,.nl 7]),qS 4 10 34] (.seq (.drg [qF 35 1 10,qL 36 35,qF 37 2 10,qL 38 37,qF 39 3 10,qL 40 39,qM 41 8,qX 42 7 40 41,qF 43 3 42,qL 44 43,qO 45 (.pcall 0 66 [.t 36,.t 38,.t 44]),qF 46 1 10,qL 47 46,qF 48 2 10,qL 49 48,qF 50 3 10,qL 51 50,qM 52 8,qX 53 7 51 52,qF 54 4 53,qL 55 54,qO 56 (.pcall 1 66 [.t 47,.t 49,.t 55]),qM 4 45,qM 5 56,qO 6 (.mov (cI 0))]) .ret)))))
def qiI:List IRes:=[.t 4,.t 5,.t 6]
theorem qmb:chkF Tryz.prog Tryz.f38 qiQ qiI 57=true:=by kernel_rfl
def qeT:IC:=(sR [qT 26 .lss 25 24] (.seq (.cond (.t 26) .skip (.exit 2)) (.seq (.block 3 (sR [qX 27 7 23 25,qO 28 (.ld 7 true (.t 27)),qO 10 (.alc 83 [.str [],.str [],.int .i64 0,.int .i64 0,.int .i64 0,.nl 1,.int .i64 0]),qS 7 10 28] (.reg [qM 29 8,qF 30 0 10,qL 31 30,qO 32 (.bsl 1 [.t 31]),qO 33 (.app 9 1 16 (.t 29) (.t 32)),qM 8 33]))) (.reg [qB 34 .add 25 (cI 1),qM 25 34]))))
def qeU:IC:=(sR [qT 20 .lss 19 18] (.seq (.cond (.t 20) .skip (.exit 0)) (.seq (.block 1 (sR [qX 21 1 17 19,qL 22 21,qM 7 22] (sR [qO 8 (.nilr 9 1)] (.seq (sR [qM 23 7,qN 24 23,qO 25 (.mov (cI 0))] (.block 2 (.loop qeT))) (.reg [qM 35 5,qM 36 8,⟨none,.fz (.t 36),none⟩,qO 37 (.bsl 1 [.t 36]),qO 38 (.app 41 1 24 (.t 35) (.t 37)),qM 5 38]))))) (.reg [qB 39 .add 19 (cI 1),qM 19 39]))))
def qgP:IC:=(sR [qO 1 (.box 34 (.t 0)),qO 2 (.mov (.c (.nl 1))),qO 3 (.mov (cI 0))] (.seq (sR [qO 11 (.ld 4 true (.t 1)),qO 12 (.call 50 [.t 11]),qM 4 12] (sR [qM 13 4,qB 14 .neq 13 (cI 0)] (.cond (.t 14) (sR [qM 15 4,qO 2 (.mov (.c (.nl 1))),qM 3 15] .ret) .skip))) (sR [qO 5 (.nilr 41 1)] (.seq (sR [qO 16 (.ld 4 true (.t 1)),qO 17 (.call 72 [.t 16]),qN 18 17,qO 19 (.mov (cI 0))] (.block 0 (.loop qeU))) (sR [qM 40 5,qM 2 40,qO 3 (.mov (cI 0))] .ret)))))
def qgw:List IRes:=[.t 2,.t 3]
theorem qkt:chkF Tryz.prog Tryz.f40 qgP qgw 41=true:=by kernel_rfl
def qeu:IC:=(sR [qT 39 .lss 38 37] (.seq (.cond (.t 39) .skip (.exit 0)) (.seq (.block 1 (sR [qX 40 7 36 38,qO 41 (.ld 7 true (.t 40)),qO 12 (.alc 83 [.str [],.str [],.int .i64 0,.int .i64 0,.int .i64 0,.nl 1,.int .i64 0]),qS 7 12 41] (sR [qM 42 9,qF 43 3 12,qL 44 43,qT 45 .geq 42 44,qM 46 45,⟨some 47,.mov (.t 9),(some (46,true))⟩,⟨some 48,.fla 4 (.t 12),(some (46,true))⟩,⟨some 49,.ld 1 false (.t 48),(some (46,true))⟩,⟨some 50,.bin .leq (.t 47) (.t 49),(some (46,true))⟩,qO 51 (.pick (.t 46) (.t 50) (.c (.bool false)))] (.cond (.t 51) (.seq (.drg [qO 52 (.ldn 4 7 true (.t 12)),qM 53 9,qF 54 3 12,qO 55 (.ldn 4 1 false (.t 54)),qT 56 .sub 53 55,⟨none,.stk 4 7 (.t 4) (.t 52),none⟩,qM 5 56,qO 6 (.mov (.c (.bool true)))]) .ret) .skip)))) (.reg [qB 57 .add 38 (cI 1),qM 38 57]))))
def qgg:IC:=(sR [qO 2 (.box 34 (.t 0)),qO 4 (.alc 83 [.str [],.str [],.int .i64 0,.int .i64 0,.int .i64 0,.nl 1,.int .i64 0]),qO 5 (.mov (cI 0)),qO 6 (.mov (.c (.bool false)))] (sR [qM 14 1,qO 15 (.call 102 [.t 14]),qM 13 15,qO 16 (.ext 0 (.t 13)),qO 17 (.ext 1 (.t 13)),qO 18 (.ext 2 (.t 13)),qO 19 (.ext 3 (.t 13)),qM 7 16,qM 8 17,qM 9 18,qM 10 19] (.seq (sR [qM 20 10,qB 21 .neq 20 (cI 0),qM 22 21,⟨some 23,.mov (.t 7),(some (22,false))⟩,⟨some 24,.fla 1 (.t 2),(some (22,false))⟩,⟨some 25,.ld 1 false (.t 24),(some (22,false))⟩,⟨some 26,.bin .neq (.t 23) (.t 25),(some (22,false))⟩,qO 27 (.pick (.t 22) (.c (.bool true)) (.t 26)),qM 28 27,⟨some 29,.mov (.t 8),(some (28,false))⟩,⟨some 30,.fla 2 (.t 2),(some (28,false))⟩,⟨some 31,.ld 1 false (.t 30),(some (28,false))⟩,⟨some 32,.bin .neq (.t 29) (.t 31),(some (28,false))⟩,qO 33 (.pick (.t 28) (.c (.bool true)) (.t 32))] (.cond (.t 33) (sR [qO 34 (.bld [.str [],.str [],.int .i64 0,.int .i64 0,.int .i64 0,.nl 1,.int .i64 0] []),qS 7 4 34,qO 5 (.mov (cI 0)),qO 6 (.mov (.c (.bool false)))] .ret) .skip)) (.seq (sR [qF 35 3 2,qL 36 35,qN 37 36,qO 38 (.mov (cI 0))] (.block 0 (.loop qeu))) (sR [qO 58 (.bld [.str [],.str [],.int .i64 0,.int .i64 0,.int .i64 0,.nl 1,.int .i64 0] []),qS 7 4 58,qO 5 (.mov (cI 0)),qO 6 (.mov (.c (.bool false)))] .ret)))))
def qf5:List IRes:=[.c 4 7 true,.t 5,.t 6]
theorem qj5:chkF Tryz.prog Tryz.f103 qgg qf5 59=true:=by kernel_rfl
def qgX:IC:=(sR [qO 2 (.box 34 (.t 0)),qO 4 (.mov (.c (.nl 1))),qO 5 (.mov (cI 0))] (.seq (sR [qO 14 (.ld 4 true (.t 2)),qO 15 (.call 22 [.t 14]),qM 6 15] (sR [qM 16 6,qB 17 .neq 16 (cI 0)] (.cond (.t 17) (sR [qM 18 6,qO 4 (.mov (.c (.nl 1))),qM 5 18] .ret) .skip))) (.seq (sR [qM 20 1,qO 21 (.call 102 [.t 20]),qM 19 21,qO 22 (.ext 0 (.t 19)),qO 23 (.ext 1 (.t 19)),qO 24 (.ext 2 (.t 19)),qO 25 (.ext 3 (.t 19)),qM 7 22,qM 8 23,qM 9 24,qM 10 25] (sR [qM 26 10,qB 27 .neq 26 (cI 0)] (.cond (.t 27) (sR [qM 28 10,qO 4 (.mov (.c (.nl 1))),qM 5 28] .ret) .skip))) (sR [qO 30 (.ld 4 true (.t 2)),qM 31 1,qO 32 (.call 103 [.t 30,.t 31]),qM 29 32,qO 33 (.ext 0 (.t 29)),qO 34 (.ext 1 (.t 29)),qO 35 (.ext 2 (.t 29)),qO 11 (.alc 83 [.str [],.str [],.int .i64 0,.int .i64 0,.int .i64 0,.nl 1,.int .i64 0]),qS 7 11 33,qM 12 34,qM 13 35] (.seq (sR [qM 36 13,qO 37 (.not (.t 36))] (.cond (.t 37) (sR [qO 4 (.mov (.c (.nl 1))),qO 5 (.mov (cI 8))] .ret) .skip)) (.seq (sR [qF 38 6 11,qL 39 38,qB 40 .gtr 39 (cI 1)] (.cond (.t 40) (.reg [qM 41 1,qF 42 6 11,qL 43 42,qO 44 (.call 100 [.t 43]),qO 45 (.bin .add (.c (.str [46])) (.t 44)),qT 46 .add 41 45,qM 1 46]) .skip)) (.cut (sR [qF 47 5 11,qL 48 47,qM 49 12,qX 50 1 48 49,qL 51 50,qO 52 (.call 101 [.t 51]),qM 53 1,qO 54 (.bsl 1 [.t 53]),qO 55 (.app 9 1 16 (.t 52) (.t 54)),qM 4 55,qO 5 (.mov (cI 0))] .ret))))))))
def qgD:List IRes:=[.t 4,.t 5]
theorem qkA:chkF Tryz.prog Tryz.f35 qgX qgD 56=true:=by kernel_rfl
def qcL:IC:=(sR [qT 36 .lss 35 34] (.seq (.cond (.t 36) .skip (.exit 0)) (.seq (.block 1 (sR [qX 37 4 33 35,qO 38 (.ld 4 true (.t 37)),qO 14 (.alc 34 [.int .i64 0,.str [],.int .i64 0,.nl 7]),qS 4 14 38] (sR [qO 40 (.ld 4 true (.t 14)),qM 41 1,qO 42 (.call 103 [.t 40,.t 41]),qM 39 42,qO 43 (.ext 0 (.t 39)),qO 44 (.ext 1 (.t 39)),qO 45 (.ext 2 (.t 39)),qO 15 (.alc 83 [.str [],.str [],.int .i64 0,.int .i64 0,.int .i64 0,.nl 1,.int .i64 0]),qS 7 15 43,qM 16 44,qM 17 45] (sR [qM 46 17] (.cond (.t 46) (.seq (.drg [qF 47 0 14,qL 48 47,qF 49 0 15,qL 50 49,qM 51 16,qB 52 .add 51 (cI 1),qM 4 48,qM 5 50,qM 6 52,qO 7 (.mov (cI 0))]) .ret) .skip))))) (.reg [qB 53 .add 35 (cI 1),qM 35 53]))))
def qdI:IC:=(sR [qO 4 (.mov (cI 0)),qO 5 (.mov (.c (.str []))),qO 6 (.mov (cI 0)),qO 7 (.mov (cI 0))] (.seq (sR [qM 18 0,qO 19 (.call 26 [.t 18]),qM 8 19] (sR [qM 20 8,qB 21 .neq 20 (cI 0)] (.cond (.t 21) (sR [qM 22 8,qO 4 (.mov (cI 0)),qO 5 (.mov (.c (.str []))),qO 6 (.mov (cI 0)),qM 7 22] .ret) .skip))) (.seq (sR [qM 24 1,qO 25 (.call 102 [.t 24]),qM 23 25,qO 26 (.ext 0 (.t 23)),qO 27 (.ext 1 (.t 23)),qO 28 (.ext 2 (.t 23)),qO 29 (.ext 3 (.t 23)),qM 9 26,qM 10 27,qM 11 28,qM 12 29] (sR [qM 30 12,qB 31 .neq 30 (cI 0)] (.cond (.t 31) (sR [qM 32 12,qO 4 (.mov (cI 0)),qO 5 (.mov (.c (.str []))),qO 6 (.mov (cI 0)),qM 7 32] .ret) .skip))) (.seq (sR [qM 33 0,qN 34 33,qO 35 (.mov (cI 0))] (.block 0 (.loop qcL))) (sR [qO 4 (.mov (cI 0)),qO 5 (.mov (.c (.str []))),qO 6 (.mov (cI 0)),qO 7 (.mov (cI 8))] .ret)))))
def qdu:List IRes:=[.t 4,.t 5,.t 6,.t 7]
theorem qhE:chkF Tryz.prog Tryz.f37 qdI qdu 54=true:=by kernel_rfl
def qez:IC:=(sR [qT 34 .lss 33 32] (.seq (.cond (.t 34) .skip (.exit 2)) (.seq (.block 3 (sR [qX 35 7 31 33,qO 36 (.ld 7 true (.t 35)),qO 11 (.alc 83 [.str [],.str [],.int .i64 0,.int .i64 0,.int .i64 0,.nl 1,.int .i64 0]),qS 7 11 36] (sR [qF 37 0 11,qL 38 37,qM 39 1,qT 40 .eql 38 39] (.cond (.t 40) (sR [qF 42 1 9,qL 43 42,qF 44 2 9,qL 45 44,qF 46 3 11,qL 47 46,qO 48 (.call 68 [.t 43,.t 45,.t 47]),qM 41 48,qO 49 (.ext 0 (.t 41)),qO 50 (.ext 1 (.t 41)),qM 12 49,qM 13 50] (sR [qF 52 1 9,qL 53 52,qF 54 2 9,qL 55 54,qF 56 4 11,qL 57 56,qO 58 (.call 68 [.t 53,.t 55,.t 57]),qM 51 58,qO 59 (.ext 0 (.t 51)),qO 60 (.ext 1 (.t 51)),qM 14 59,qM 15 60] (sR [qM 61 12,qM 62 14,qM 4 61,qM 5 62,qO 6 (.mov (cI 0))] .ret))) .skip)))) (.reg [qB 63 .add 33 (cI 1),qM 33 63]))))
def qeA:IC:=(sR [qT 27 .lss 26 25] (.seq (.cond (.t 27) .skip (.exit 0)) (.seq (.block 1 (sR [qX 28 4 24 26,qO 29 (.ld 4 true (.t 28)),qO 9 (.alc 34 [.int .i64 0,.str [],.int .i64 0,.nl 7]),qS 4 9 29] (sR [qF 30 3 9,qL 31 30,qN 32 31,qO 33 (.mov (cI 0))] (.block 2 (.loop qez))))) (.reg [qB 64 .add 26 (cI 1),qM 26 64]))))
def qgj:IC:=(sR [qO 4 (.mov (.c (.str []))),qO 5 (.mov (.c (.str []))),qO 6 (.mov (cI 0))] (.seq (sR [qM 16 0,qO 17 (.call 26 [.t 16]),qM 7 17] (sR [qM 18 7,qB 19 .neq 18 (cI 0)] (.cond (.t 19) (sR [qM 20 7,qO 4 (.mov (.c (.str []))),qO 5 (.mov (.c (.str []))),qM 6 20] .ret) .skip))) (.seq (sR [qM 21 1,qO 22 (.call 67 [.t 21]),qO 23 (.not (.t 22))] (.cond (.t 23) (sR [qO 4 (.mov (.c (.str []))),qO 5 (.mov (.c (.str []))),qO 6 (.mov (cI 5))] .ret) .skip)) (.seq (sR [qM 24 0,qN 25 24,qO 26 (.mov (cI 0))] (.block 0 (.loop qeA))) (sR [qO 4 (.mov (.c (.str []))),qO 5 (.mov (.c (.str []))),qO 6 (.mov (cI 8))] .ret)))))
def qf8:List IRes:=[.t 4,.t 5,.t 6]
theorem qj8:chkF Tryz.prog Tryz.f39 qgj qf8 65=true:=by kernel_rfl
def qfI:IC:=(sR [qT 9 .lss 8 7] (.seq (.cond (.t 9) .skip (.exit 0)) (.seq (.block 1 (sR [qX 10 7 6 8,qO 11 (.ld 7 true (.t 10)),qO 5 (.alc 83 [.str [],.str [],.int .i64 0,.int .i64 0,.int .i64 0,.nl 1,.int .i64 0]),qS 7 5 11] (.reg [qM 12 3,qF 13 0 5,qL 14 13,qO 15 (.bsl 1 [.t 14]),qO 16 (.app 9 1 16 (.t 12) (.t 15)),qM 3 16]))) (.reg [qB 17 .add 8 (cI 1),qM 8 17]))))
def qhr:IC:=(sR [qO 2 (.mov (.c (.nl 1)))] (sR [qO 3 (.nilr 9 1)] (.seq (sR [qM 6 0,qN 7 6,qO 8 (.mov (cI 0))] (.block 0 (.loop qfI))) (sR [qM 18 3,qM 2 18] .ret))))
def qhe:List IRes:=[.t 2]
theorem qlg:chkF Tryz.prog Tryz.f57 qhr qhe 19=true:=by kernel_rfl
def qcT:IC:=(sR [qT 10 .lss 9 8] (.seq (.cond (.t 10) .skip (.exit 0)) (.seq (.block 1 (sR [qX 11 1 7 9,qL 12 11,qM 5 12] (.reg [qM 13 3,qM 14 5,qO 15 (.call 57 [.t 14]),qO 16 (.bsl 1 [.t 15]),qO 17 (.app 41 1 24 (.t 13) (.t 16)),qM 3 17]))) (.reg [qB 18 .add 9 (cI 1),qM 9 18]))))
def qd3:IC:=(sR [qO 1 (.box 34 (.t 0)),qO 2 (.mov (.c (.nl 1)))] (sR [qO 3 (.nilr 41 1)] (.seq (sR [qO 6 (.ld 4 true (.t 1)),qO 7 (.call 80 [.t 6]),qN 8 7,qO 9 (.mov (cI 0))] (.block 0 (.loop qcT))) (sR [qM 19 3,qM 2 19] .ret))))
def qdV:List IRes:=[.t 2]
theorem qia:chkF Tryz.prog Tryz.f41 qd3 qdV 20=true:=by kernel_rfl
def qiV:IC:=(sR [qO 2 (.alc 34 [.int .i64 0,.str [],.int .i64 0,.nl 7])] (.seq (sR [qM 3 0,qN 4 3,qB 5 .eql 4 (cI 0)] (.cond (.t 5) (sR [qO 6 (.bld [.int .i64 0,.str [],.int .i64 0,.nl 7] []),qS 4 2 6] .ret) .skip)) (sR [qM 7 0,qO 8 (.ixa 4 (.t 7) (cI 0)),qO 9 (.ld 4 true (.t 8)),qS 4 2 9] .ret)))
def qiM:List IRes:=[.c 2 4 true]
theorem qmf:chkF Tryz.prog Tryz.f8 qiV qiM 10=true:=by kernel_rfl
def qfd (p:Prd) (pre:List UInt8) (dig n:Int):Sht×Int×Bool:=
 if (!decide (p.pre=pre) || !decide (p.dig=dig))=true then (sh0,0,false) else
 match p.shs.findIdx? (fun s=>inE n s.fr_ s.to_) with
 |none=>(sh0,0,false)
 |some i=>(p.shs.getD i sh0,n - (p.shs.getD i sh0).fr_,true)
def spP (r:Sht×Int×Bool):PV:=.tup [.agg (shV r.1),int r.2.1,.bool r.2.2]
theorem qBv {n a b:Int}:inE n a b=(decide (a≤n) && decide (n≤b)):=rfl
section
variable {E:Envt}
theorem qwe (x:Sht) (n:Int):PCall Tryz.prog E 142 [.agg (shV x),.ptr [int n]] (·=.bool (inE n x.fr_ x.to_)):=by
 refine qag mixed Tryz.func142 qlF ?_
 simp only [a0,l0,OS.ao,zo,zw,zj,zr,zp,zq,zx,zd,zi,zm,qhX,qhP,ZZ,WW,Ze,reduceCtorEq,zd,ze,zb,zf,za]
 simp only [shV,ZZ,WW,Ze,reduceCtorEq,zd,ze,zb,zf,za]
 refine use1 (qr0 n x.fr_ x.to_) rfl (.inl rfl) ?_
 refine zS ?_
 trivial
theorem qk2 {α:Type} (q:α→Bool) (l:List α):(l.findIdx? q=none∧idxF q l=-1)∨∃ i,l.findIdx? q=some i∧idxF q l=(i:Nat)∧i < l.length:=by
 cases h:l.findIdx? q with
 |none=>exact .inl ⟨rfl,by simp [idxF,h]⟩
 |some i=>exact .inr ⟨i,rfl,by simp [idxF,h],(List.findIdx?_eq_some_iff_getElem.1 h).1⟩
theorem qt4 (p:Prd) (hp:PdB p) (pre:List UInt8) (dig n:Int) (hn:-1000000000000≤n∧n≤1000000000000):PCall Tryz.prog E 99 [.agg (pdV p),.str pre,int dig,int n] (·=spP (qfd p pre dig n)):=by
 obtain ⟨no,ppre,pdig,shs⟩:=p
 have hsl:=hp.shs
 have hall:=hp.all
 simp only at hsl hall
 have hs:qfd ⟨no,ppre,pdig,shs⟩ pre dig n=if (!decide (ppre=pre) || !decide (pdig=dig))=true then (sh0,0,false) else match shs.findIdx? (fun s=>inE n s.fr_ s.to_) with
  |none=>(sh0,0,false)
  |some i=>(shs.getD i sh0,n - (shs.getD i sh0).fr_,true):=rfl
 rw [hs]
 clear hs hp
 refine qag mixed Tryz.func99 qnc ?_
 simp only [a0,l0,OS.ao,zo,zw,zj,zr,zp,zq,zx,zd,zi,zm,qjo,qja,ZZ,WW,Ze,reduceCtorEq,zd,ze,zb,zf,za]
 simp only [pdV,ZZ,WW,Ze,reduceCtorEq,zd,ze,zb,zf,za]
 ((with_reducible and_intros)<;>try exact sc_)
 refine br ?_ ?_
 ·intro h
  rw [if_pos h]
  refine zS ?_
  rfl
 intro h
 rw [if_neg (by rw [h];simp)]
 refine zS ?_
 refine use1 (qhH shs 142 [.ptr [int n]] (fun y=>inE n y.fr_ y.to_) (by omega) (fun _=>by kernel_rfl) rfl (fun y _=>qwe y n) (fun _=>rfl) (fun _=>rfl)) rfl (.inr rfl) ?_
 rcases qk2 (fun y:Sht=>inE n y.fr_ y.to_) shs with ⟨h1,h2⟩|⟨i,h1,h2,h3⟩
 ·rw [h1,h2]
  simp only [ZZ,WW,Ze,reduceCtorEq,zd,ze,zb,zf,za,show decide ((-1:Int) < 0)=true from rfl]
  rfl
 ·rw [h1,h2]
  obtain ⟨x,hx⟩:∃ x,shs[i]?=some x:=⟨_,zh h3⟩
  have hg:=qbY hx
  have hxD:shs.getD i sh0=x:=by simp [zD,hx]
  have hxB:=hall x (zy hx)
  have hb:=hxB.fr_
  simp only [shV] at hg
  have h0:decide ((i:Int) < 0)=false:=by rw [decide_eq_false_iff_not];omega
  simp only [hxD]
  simp only [ZZ,WW,Ze,reduceCtorEq,zd,ze,zb,zf,za,h0]
  refine drg0 ?_
  simp only [ZZ,WW,Ze,reduceCtorEq,zd,ze,zb,zf,za,hg,qae]
  ((with_reducible and_intros)<;>try exact sc_)
  try rfl
def qpI (p:Prd) (q:Four):Sht×Int×Bool:=if q.2.2.2=0 then qfd p q.1 q.2.1 q.2.2.1 else (sh0,0,false)
theorem qnI (p:Prd) (hp:PdB p) (t:List UInt8) (q:Four) (hq:-1000000000000≤q.2.2.1∧q.2.2.1≤1000000000000) (hN:PCall Tryz.prog E 102 [.str t] (·=qk5 q)):PCall Tryz.prog E 103 [.agg (pdV p),.str t] (·=spP (qpI p q)):=by
 obtain ⟨no,ppre,pdig,shs⟩:=p
 obtain ⟨pre,dig,nu,er⟩:=q
 have hsl:=hp.shs
 have hall:=hp.all
 simp only at hsl hall hq
 have hs:qpI ⟨no,ppre,pdig,shs⟩ (pre,dig,nu,er)=if ((!decide (er=0) || !decide (pre=ppre)) || !decide (dig=pdig))=true then (sh0,0,false) else match shs.findIdx? (fun s=>inE nu s.fr_ s.to_) with
  |none=>(sh0,0,false)
  |some i=>(shs.getD i sh0,nu - (shs.getD i sh0).fr_,true):=by
  have e1:decide (ppre=pre)=decide (pre=ppre):=decide_eq_decide.2 ⟨Eq.symm,Eq.symm⟩
  have e2:decide (pdig=dig)=decide (dig=pdig):=decide_eq_decide.2 ⟨Eq.symm,Eq.symm⟩
  simp only [qpI,qfd,e1,e2]
  by_cases h0:er=0
  ·rw [if_pos h0,decide_eq_true h0]
   rfl
  ·rw [if_neg h0,decide_eq_false h0]
   rfl
 rw [hs]
 clear hs hp
 refine qag mixed Tryz.func103 qj5 ?_
 simp only [a0,l0,OS.ao,zo,zw,zj,zr,zp,zq,zx,zd,zi,zm,qgg,qf5,ZZ,WW,Ze,reduceCtorEq,zd,ze,zb,zf,za]
 simp only [pdV,ZZ,WW,Ze,reduceCtorEq,zd,ze,zb,zf,za]
 refine use1 hN rfl (.inl rfl) ?_
 simp only [ZZ,WW,Ze,reduceCtorEq,zd,ze,zb,zf,za,qk5]
 ((with_reducible and_intros)<;>try exact sc_)
 refine br ?_ ?_
 ·intro h
  rw [if_pos h]
  refine zS ?_
  rfl
 intro h
 rw [if_neg (by rw [h];simp)]
 simp only [ZZ,WW,Ze,reduceCtorEq,zd,ze,zb,zf,za,qae]
 refine qad (fun n fr L=>∃ (k:Nat),k≤shs.length∧n=shs.length - k∧(∀ y∈shs.take k,inE nu y.fr_ y.to_=false)∧fr=(oo::oo::oo::oo::.adr (.l 4) 0::oo::oo::oo::oo::.p (int nu)::oE (oD (oB (.p (.sl 7 (shE shs))::.p (int (shs.length:Nat))::.p (int (k:Nat))::oE (oC [])))))∧L=[(.l 4,.box [.p (.str []),.p (.str []),.p (int 0),.p (int 0),.p (int 0),.p (.nl 1),.p (int 0)] qcg)]) (shs.length) _ _ (by simp only [ZZ,WW,Ze,reduceCtorEq,zd,ze,zb,zf,za,qae];try trivial) (by (simp only [ZZ,WW,Ze,reduceCtorEq,zd,ze,zb,zf,za];try trivial)) ⟨0,by omega,by omega,by simp,rfl,rfl⟩ ?_
 rintro n fr L ⟨k,hk,rfl,hno,rfl,rfl⟩
 simp only [qeu,ZZ,WW,Ze,reduceCtorEq,zd,ze,zb,zf,za]
 refine br ?_ ?_
 ·intro h2
  have hlt:k < shs.length:=by have:=of_decide_eq_true h2;omega
  obtain ⟨x,hx⟩:∃ x,shs[k]?=some x:=⟨_,zh hlt⟩
  have hg:=qbY hx
  have hxD:shs.getD k sh0=x:=by simp [zD,hx]
  have hb:=(hall x (zy hx)).fr_
  simp only [shV] at hg
  simp only [ZZ,WW,Ze,reduceCtorEq,zd,ze,zb,zf,za,hg,qae]
  ((with_reducible and_intros)<;>try exact sc_)
  rw [← qBv]
  refine br ?_ ?_
  ·intro h3
   have h4:shs.findIdx? (fun s=>inE nu s.fr_ s.to_)=some k:=by
    have:=qhv (q:=fun s:Sht=>inE nu s.fr_ s.to_) hx h3 hno
    rcases qk2 (fun y:Sht=>inE nu y.fr_ y.to_) shs with ⟨h1,h2⟩|⟨i,h1,h2,_⟩
    ·omega
    ·rw [h1];congr 1;omega
   rw [h4]
   simp only [hxD]
   refine zS ?_
   refine drg0 ?_
   refine zS ?_
   ((with_reducible and_intros)<;>try exact sc_)
   try rfl
  ·intro h3
   refine zS ?_
   ((with_reducible and_intros)<;>try exact sc_)
   refine qac (shs.length - (k+1)) _ _ (by omega) (by (simp only [ZZ,WW,Ze,reduceCtorEq,zd,ze,zb,zf,za];try trivial)) (by (simp only [ZZ,WW,Ze,reduceCtorEq,zd,ze,zb,zf,za];try trivial)) ⟨k+1,by omega,rfl,by rw [zB hlt];intro y hy;rcases zI.1 hy with hy|hy;exact hno y hy;rw [zH] at hy;rw [hy,(zt.1 hx).2];exact h3,rfl,rfl⟩
 intro h2
 have hge:shs.length≤k:=by have:=of_decide_eq_false h2;omega
 rw [zG hge] at hno
 have h4:shs.findIdx? (fun s=>inE nu s.fr_ s.to_)=none:=List.findIdx?_eq_none_iff.2 hno
 rw [h4]
 refine zS ?_
 rfl
end
def qoF (p:Prd) (q:Four) (t:List UInt8):List (List UInt8)×Int:=
 if prdF p=0 then (if q.2.2.2=0 then (if (qfd p q.1 q.2.1 q.2.2.1).2.2=true then
  ((qfd p q.1 q.2.1 q.2.2.1).1.pages.getD (qfd p q.1 q.2.1 q.2.2.1).2.1.toNat []++[if decide (1 < (qfd p q.1 q.2.1 q.2.2.1).1.ver)=true then t++46 :: Lib.itoa (qfd p q.1 q.2.1 q.2.2.1).1.ver else t],0) else ([],8)) else ([],q.2.2.2)) else ([],prdF p)
theorem qmF {p:Prd} (h0:prdF p=0) {pre:List UInt8} {dig n:Int} (h:(qfd p pre dig n).2.2=true):∃ x∈p.shs,∃ k:Nat,(qfd p pre dig n)=(x,(k:Int),true)∧k < x.pages.length:=by
 unfold qfd at h ⊢
 split at h
 ·cases h
 rename_i hc
 rw [if_neg hc]
 rcases qk2 (fun y:Sht=>inE n y.fr_ y.to_) p.shs with ⟨h1,_⟩|⟨i,h1,_,h3⟩
 ·rw [h1] at h;cases h
 rw [h1]
 obtain ⟨_,_,_,h4⟩:=qjj h0
 have h5:=qkM (h4 i h3)
 have h6:=(List.findIdx?_eq_some_iff_getElem.1 h1).2.1
 obtain ⟨x,hx⟩:∃ x,p.shs[i]?=some x:=⟨_,zh h3⟩
 have hxD:p.shs.getD i sh0=x:=by simp [zD,hx]
 have hxe:p.shs[i]=x:=(zt.1 hx).2
 rw [hxe,qBv,Bool.and_eq_true,decide_eq_true_eq,decide_eq_true_eq] at h6
 rw [hxD] at h5
 have h7:(x.pages.length:Int)=x.to_ - x.fr_+1:=by
  have:=h5.2
  unfold pgsE at this
  by_cases hc:((x.pages.length:Int)=x.to_ - x.fr_+1)
  ·exact hc
  ·rw [if_pos hc] at this;cases this
 refine ⟨x,zy hx,(n - x.fr_).toNat,?_,by omega⟩
 simp only [hxD,Int.toNat_of_nonneg (show 0≤n - x.fr_ by omega)]
section
variable {E:Envt}
theorem qxP (p:Prd) (hp:PdB p) (t:List UInt8) (ht:t.length≤1000) (q:Four) (hq:-1000000000000≤q.2.2.1∧q.2.2.1≤1000000000000) (hC:PCall Tryz.prog E 50 [.agg (pdV p)] (·=int (prdF p)))
  (hR:PCall Tryz.prog E 98 [.str t] (·=qk5 q)) (hI:∀ n:Int,-1000000≤n→n≤1000000→PCall Tryz.prog E 100 [int n] (·=.str (Lib.itoa n))) :
  PCall Tryz.prog E 34 [.agg (pdV p),.str t] (·=.tup [.sl 1 (strE (qoF p q t).1),int (qoF p q t).2]):=by
 have hsp:=qt4 (E:=E) p hp q.1 q.2.1 q.2.2.1 hq
 unfold qoF
 obtain ⟨pre,dig,n,er⟩:=q
 simp only at hq hsp ⊢
 have htr:=fun h0=>@qmF p h0 pre dig n
 generalize hr:qfd p pre dig n=r at *
 obtain ⟨x0,k0,b0⟩:=r
 have hall:=hp.all
 generalize hF:prdF p=F at *
 simp only [pdV] at hC hsp
 refine qag mixed Tryz.func34 qma ?_
 simp only [a0,l0,OS.ao,zo,zw,zj,zr,zp,zq,zx,zd,zi,zm,qiP,qiH,ZZ,WW,Ze,reduceCtorEq,zd,ze,zb,zf,za]
 simp only [pdV,ZZ,WW,Ze,reduceCtorEq,zd,ze,zb,zf,za]
 refine use1 hC rfl (.inl rfl) ?_
 refine zS ?_
 refine br ?_ ?_
 ·intro h
  have h:¬ F=0:=by simpa using h
  rw [if_neg h]
  refine zS ?_
  rfl
 intro h
 have h:F=0:=by simpa using h
 subst h
 rw [if_pos rfl]
 refine zS ?_
 refine use1 hR rfl (.inl rfl) ?_
 simp only [ZZ,WW,Ze,reduceCtorEq,zd,ze,zb,zf,za,qk5]
 refine br ?_ ?_
 ·intro h
  have h:¬ er=0:=by simpa using h
  rw [if_neg h]
  refine zS ?_
  rfl
 intro h
 have h:er=0:=by simpa using h
 subst h
 rw [if_pos rfl]
 refine zS ?_
 refine use1 hsp rfl (.inl rfl) ?_
 simp only [ZZ,WW,Ze,reduceCtorEq,zd,ze,zb,zf,za,spP,shV]
 refine br ?_ ?_
 ·intro h
  have h:b0=false:=by simpa using h
  subst h
  refine zS ?_
  rfl
 intro h
 have h:b0=true:=by simpa using h
 subst h
 obtain ⟨x,hx,k,he,hk⟩:=htr rfl rfl
 obtain ⟨rfl,rfl,_⟩:x0=x∧k0=(k:Int)∧True:=by simpa using he
 have hxB:=hall x0 hx
 obtain ⟨pg,hpg⟩:∃ pg,x0.pages[k]?=some pg:=⟨_,zh hk⟩
 have hg:=qi7 hpg
 have hgD:x0.pages.getD k []=pg:=by simp [zD,hpg]
 have hpl:=(hxB.page pg (zy hpg)).1
 have hv:=hxB.ver
 have hpgl:=hxB.pages
 simp only [yf,hgD,if_true]
 refine zS ?_
 refine br ?_ ?_
 ·intro h2
  rw [h2,if_pos rfl]
  refine zS ?_
  refine use1 (hI x0.ver (by omega) (by omega)) rfl (.inl rfl) ?_
  have hil:(Lib.itoa x0.ver).length≤20:=qmn (by have:=of_decide_eq_true h2;omega) (by omega)
  refine zS ?_
  ((with_reducible and_intros)<;>try exact sc_)
  refine qbh _ _ ReOk.refl ?_
  simp only [ZZ,WW,Ze,reduceCtorEq,zd,ze,zb,zf,za,hg,qax]
  ((with_reducible and_intros)<;>try exact sc_)
  refine useF (qjM (strE pg) (by rw [qai];omega)) rfl rfl ?_
  rintro es rfl
  simp only [ZZ,WW,Ze,reduceCtorEq,zd,ze,zb,zf,za,qai]
  ((with_reducible and_intros)<;>try exact sc_)
  rw [qjR]
  rfl
 ·intro h2
  rw [h2,if_neg (by simp)]
  refine zS ?_
  refine qbh _ _ ReOk.refl ?_
  simp only [ZZ,WW,Ze,reduceCtorEq,zd,ze,zb,zf,za,hg,qax]
  ((with_reducible and_intros)<;>try exact sc_)
  refine useF (qjM (strE pg) (by rw [qai];omega)) rfl rfl ?_
  rintro es rfl
  simp only [ZZ,WW,Ze,reduceCtorEq,zd,ze,zb,zf,za,qai]
  ((with_reducible and_intros)<;>try exact sc_)
  rw [qjR]
  rfl
theorem qvW (p:Prd) (hp:PdB p) (t:List UInt8) (ht:t.length≤1000) (q:Four) (hq:-1000000000000≤q.2.2.1∧q.2.2.1≤1000000000000) (hC:PCall Tryz.prog E 22 [.agg (pdV p)] (·=int (prdF p)))
  (hR:PCall Tryz.prog E 102 [.str t] (·=qk5 q)) (hI:∀ n:Int,-1000000≤n→n≤1000000→PCall Tryz.prog E 100 [int n] (·=.str (Lib.itoa n))) :
  PCall Tryz.prog E 35 [.agg (pdV p),.str t] (·=.tup [.sl 1 (strE (qoF p q t).1),int (qoF p q t).2]):=by
 have hsp:=qnI (E:=E) p hp t q hq hR
 unfold qoF
 obtain ⟨pre,dig,n,er⟩:=q
 simp only [qpI] at hq hsp ⊢
 have htr:=fun h0=>@qmF p h0 pre dig n
 generalize hr:qfd p pre dig n=r at *
 obtain ⟨x0,k0,b0⟩:=r
 have hall:=hp.all
 generalize hF:prdF p=F at *
 simp only [pdV] at hC hsp
 refine qag mixed Tryz.func35 qkA ?_
 simp only [a0,l0,OS.ao,zo,zw,zj,zr,zp,zq,zx,zd,zi,zm,qgX,qgD,ZZ,WW,Ze,reduceCtorEq,zd,ze,zb,zf,za]
 simp only [pdV,ZZ,WW,Ze,reduceCtorEq,zd,ze,zb,zf,za]
 refine use1 hC rfl (.inl rfl) ?_
 refine zS ?_
 refine br ?_ ?_
 ·intro h
  have h:¬ F=0:=by simpa using h
  rw [if_neg h]
  refine zS ?_
  rfl
 intro h
 have h:F=0:=by simpa using h
 subst h
 rw [if_pos rfl]
 refine zS ?_
 refine use1 hR rfl (.inl rfl) ?_
 simp only [ZZ,WW,Ze,reduceCtorEq,zd,ze,zb,zf,za,qk5]
 refine br ?_ ?_
 ·intro h
  have h:¬ er=0:=by simpa using h
  rw [if_neg h]
  refine zS ?_
  rfl
 intro h
 have h:er=0:=by simpa using h
 subst h
 rw [if_pos rfl]
 rw [if_pos rfl] at hsp
 refine zS ?_
 refine use1 hsp rfl (.inl rfl) ?_
 simp only [ZZ,WW,Ze,reduceCtorEq,zd,ze,zb,zf,za,spP,shV]
 refine br ?_ ?_
 ·intro h
  have h:b0=false:=by simpa using h
  subst h
  refine zS ?_
  rfl
 intro h
 have h:b0=true:=by simpa using h
 subst h
 obtain ⟨x,hx,k,he,hk⟩:=htr rfl rfl
 obtain ⟨rfl,rfl,_⟩:x0=x∧k0=(k:Int)∧True:=by simpa using he
 have hxB:=hall x0 hx
 obtain ⟨pg,hpg⟩:∃ pg,x0.pages[k]?=some pg:=⟨_,zh hk⟩
 have hg:=qi7 hpg
 have hgD:x0.pages.getD k []=pg:=by simp [zD,hpg]
 have hpl:=(hxB.page pg (zy hpg)).1
 have hv:=hxB.ver
 have hpgl:=hxB.pages
 simp only [yf,hgD,if_true]
 refine zS ?_
 refine br ?_ ?_
 ·intro h2
  rw [h2,if_pos rfl]
  refine zS ?_
  refine use1 (hI x0.ver (by omega) (by omega)) rfl (.inl rfl) ?_
  have hil:(Lib.itoa x0.ver).length≤20:=qmn (by have:=of_decide_eq_true h2;omega) (by omega)
  refine zS ?_
  ((with_reducible and_intros)<;>try exact sc_)
  refine qbh _ _ ReOk.refl ?_
  simp only [ZZ,WW,Ze,reduceCtorEq,zd,ze,zb,zf,za,hg,qax]
  ((with_reducible and_intros)<;>try exact sc_)
  refine useF (qjM (strE pg) (by rw [qai];omega)) rfl rfl ?_
  rintro es rfl
  simp only [ZZ,WW,Ze,reduceCtorEq,zd,ze,zb,zf,za,qai]
  ((with_reducible and_intros)<;>try exact sc_)
  rw [qjR]
  rfl
 ·intro h2
  rw [h2,if_neg (by simp)]
  refine zS ?_
  refine qbh _ _ ReOk.refl ?_
  simp only [ZZ,WW,Ze,reduceCtorEq,zd,ze,zb,zf,za,hg,qax]
  ((with_reducible and_intros)<;>try exact sc_)
  refine useF (qjM (strE pg) (by rw [qai];omega)) rfl rfl ?_
  rintro es rfl
  simp only [ZZ,WW,Ze,reduceCtorEq,zd,ze,zb,zf,za,qai]
  ((with_reducible and_intros)<;>try exact sc_)
  rw [qjR]
  rfl
end
def qqu (q:Four):List Prd→Int×List UInt8×Int
 |[]=>(0,[],0)
 |p :: r=>if (qfd p q.1 q.2.1 q.2.2.1).2.2=true then (p.no,(qfd p q.1 q.2.1 q.2.2.1).1.id,(qfd p q.1 q.2.1 q.2.2.1).2.1+1) else qqu q r
def qty (q:Four):List Prd→Int
 |[]=>8
 |p :: r=>if (qfd p q.1 q.2.1 q.2.2.1).2.2=true then 0 else qty q r
theorem qn2 (q:Four) {l:List Prd} {k:Nat} {p:Prd} (h:l[k]?=some p):qqu q (l.drop k)=(if (qfd p q.1 q.2.1 q.2.2.1).2.2=true then (p.no,(qfd p q.1 q.2.1 q.2.2.1).1.id,(qfd p q.1 q.2.1 q.2.2.1).2.1+1) else qqu q (l.drop (k+1)))∧
  qty q (l.drop k)=if (qfd p q.1 q.2.1 q.2.2.1).2.2=true then 0 else qty q (l.drop (k+1)):=by
 obtain ⟨hk,he⟩:=zt.1 h
 rw [yi hk,he]
 exact ⟨rfl,rfl⟩
def fndP (l:List Prd) (q:Four):PV:=
 if pdsF l=0 then (if q.2.2.2=0 then .tup [int (qqu q l).1,.str (qqu q l).2.1,int (qqu q l).2.2,int (qty q l)] else .tup [int 0,.str [],int 0,int q.2.2.2]) else .tup [int 0,.str [],int 0,int (pdsF l)]
section
variable {E:Envt}
theorem qt5 {p:Prd} (hp:PdB p) (pre:List UInt8) (dig n:Int) (hn:-1000000000000≤n∧n≤1000000000000):-10000000000000≤(qfd p pre dig n).2.1∧(qfd p pre dig n).2.1≤10000000000000:=by
 unfold qfd
 split
 ·exact ⟨by decide,by decide⟩
 split
 ·exact ⟨by decide,by decide⟩
 ·rename_i i h
  have h3:=(List.findIdx?_eq_some_iff_getElem.1 h).1
  obtain ⟨x,hx⟩:∃ x,p.shs[i]?=some x:=⟨_,zh h3⟩
  have hb:=(hp.all x (zy hx)).fr_
  rw [show p.shs.getD i sh0=x from by simp [zD,hx]]
  simp only
  omega
set_option maxHeartbeats 1000000 in
theorem qwJ (l:List Prd) (hl:l.length≤100000) (hB:∀ p∈l,PdB p) (t:List UInt8) (q:Four) (hq:-1000000000000≤q.2.2.1∧q.2.2.1≤1000000000000) (hC:PCall Tryz.prog E 64 [.sl 4 (pdE l)] (·=int (pdsF l)))
  (hR:PCall Tryz.prog E 98 [.str t] (·=qk5 q)):PCall Tryz.prog E 36 [.sl 4 (pdE l),.str t] (·=fndP l q):=by
 unfold fndP
 generalize hF:pdsF l=F at *
 have hfd:=fun {k:Nat} {p:Prd}=>@qn2 q l k p
 have hsb:=fun {p:Prd} (h:PdB p)=>qt5 h q.1 q.2.1 q.2.2.1 hq
 have hso:=fun {p:Prd} (h:PdB p)=>qt4 (E:=E) p h q.1 q.2.1 q.2.2.1 hq
 generalize hG:qqu q=G at *
 generalize hH:qty q=H at *
 obtain ⟨pre,dig,nu,er⟩:=q
 simp only at hq hfd hsb hso ⊢
 refine qag mixed Tryz.func36 qnd ?_
 simp only [a0,l0,OS.ao,zo,zw,zj,zr,zp,zq,zx,zd,zi,zm,qjp,qjb,ZZ,WW,Ze,reduceCtorEq,zd,ze,zb,zf,za]
 refine use1 hC rfl (.inl rfl) ?_
 refine zS ?_
 refine br ?_ ?_
 ·intro h
  have h:¬ F=0:=by simpa using h
  rw [if_neg h]
  refine zS ?_
  rfl
 intro h
 have h:F=0:=by simpa using h
 rw [if_pos h]
 refine zS ?_
 refine use1 hR rfl (.inl rfl) ?_
 simp only [ZZ,WW,Ze,reduceCtorEq,zd,ze,zb,zf,za,qk5]
 refine br ?_ ?_
 ·intro h
  have h:¬ er=0:=by simpa using h
  rw [if_neg h]
  refine zS ?_
  rfl
 intro h
 have h:er=0:=by simpa using h
 subst h
 rw [if_pos rfl]
 have g1:G []=(0,[],0):=by rw [← hG];rfl
 have g2:H []=8:=by rw [← hH];rfl
 simp only [ZZ,WW,Ze,reduceCtorEq,zd,ze,zb,zf,za,qau]
 refine qad (fun n fr L=>∃ (k:Nat),k≤l.length∧n=l.length - k∧(G l=G (l.drop k))∧(H l=H (l.drop k))∧fr=(oD (oo::(.p (.str pre)::.p (int dig)::.p (int nu)::oE (oC (.p (.sl 4 (pdE l))::.p (int (l.length:Nat))::.p (int (k:Nat))::oE (oC []))))))∧L=[]) (l.length) _ [] (by simp only [ZZ,WW,Ze,reduceCtorEq,zd,ze,zb,zf,za,qau];try trivial) (by (simp only [ZZ,WW,Ze,reduceCtorEq,zd,ze,zb,zf,za];try trivial)) ⟨0,by omega,by omega,rfl,rfl,rfl,rfl⟩ ?_
 rintro n fr L ⟨k,hk,rfl,hg,hh,rfl,rfl⟩
 simp only [qhl,ZZ,WW,Ze,reduceCtorEq,zd,ze,zb,zf,za]
 refine br ?_ ?_
 rotate_left
 ·intro h2
  have hge:l.length≤k:=by have:=of_decide_eq_false h2;omega
  rw [zV hge] at hg hh
  rw [hg,hh,g1,g2]
  refine zS ?_
  rfl
 intro h2
 have hlt:k < l.length:=by have:=of_decide_eq_true h2;omega
 obtain ⟨p,hp⟩:∃ p,l[k]?=some p:=⟨_,zh hlt⟩
 have hgp:=qgH hp
 have hpB:=hB p (zy hp)
 have hs:=hso hpB
 have hb:=hsb hpB
 obtain ⟨f1,f2⟩:=hfd hp
 rw [f1] at hg
 rw [f2] at hh
 clear f1 f2
 simp only [pdV] at hgp hs
 generalize qfd p pre dig nu=r at *
 obtain ⟨x,kk,b⟩:=r
 simp only [spP,shV] at hs hb hg hh
 simp only [ZZ,WW,Ze,reduceCtorEq,zd,ze,zb,zf,za,hgp,qau]
 ((with_reducible and_intros)<;>try exact sc_)
 refine use1 hs rfl (.inl rfl) ?_
 refine zS ?_
 refine br ?_ ?_
 ·intro h3
  rw [if_pos h3] at hg hh
  rw [hg,hh]
  refine zS ?_
  refine drg0 ?_
  refine zS ?_
  ((with_reducible and_intros)<;>try exact sc_)
  try rfl
 ·intro h3
  rw [if_neg (by rw [h3];simp)] at hg hh
  refine zS ?_
  ((with_reducible and_intros)<;>try exact sc_)
  refine qac (l.length - (k+1)) _ [] (by omega) (by (simp only [ZZ,WW,Ze,reduceCtorEq,zd,ze,zb,zf,za];try trivial)) (by (simp only [ZZ,WW,Ze,reduceCtorEq,zd,ze,zb,zf,za];try trivial)) ⟨k+1,by omega,rfl,hg,hh,rfl,rfl⟩
set_option maxHeartbeats 1000000 in
theorem qno (l:List Prd) (hl:l.length≤100000) (hB:∀ p∈l,PdB p) (t:List UInt8) (q:Four) (hq:-1000000000000≤q.2.2.1∧q.2.2.1≤1000000000000) (hC:PCall Tryz.prog E 26 [.sl 4 (pdE l)] (·=int (pdsF l)))
  (hR:PCall Tryz.prog E 102 [.str t] (·=qk5 q)):PCall Tryz.prog E 37 [.sl 4 (pdE l),.str t] (·=fndP l q):=by
 unfold fndP
 generalize hF:pdsF l=F at *
 have hfd:=fun {k:Nat} {p:Prd}=>@qn2 q l k p
 have hsb:=fun {p:Prd} (h:PdB p)=>qt5 h q.1 q.2.1 q.2.2.1 hq
 have hso:=fun {p:Prd} (h:PdB p)=>qnI (E:=E) p h t q hq hR
 generalize hG:qqu q=G at *
 generalize hH:qty q=H at *
 have g1:G []=(0,[],0):=by rw [← hG];rfl
 have g2:H []=8:=by rw [← hH];rfl
 obtain ⟨pre,dig,nu,er⟩:=q
 simp only [qpI] at hq hfd hsb hso ⊢
 refine qag mixed Tryz.func37 qhE ?_
 simp only [a0,l0,OS.ao,zo,zw,zj,zr,zp,zq,zx,zd,zi,zm,qdI,qdu,ZZ,WW,Ze,reduceCtorEq,zd,ze,zb,zf,za]
 refine use1 hC rfl (.inl rfl) ?_
 refine zS ?_
 refine br ?_ ?_
 ·intro h
  have h:¬ F=0:=by simpa using h
  rw [if_neg h]
  refine zS ?_
  rfl
 intro h
 have h:F=0:=by simpa using h
 rw [if_pos h]
 refine zS ?_
 refine use1 hR rfl (.inl rfl) ?_
 simp only [ZZ,WW,Ze,reduceCtorEq,zd,ze,zb,zf,za,qk5]
 refine br ?_ ?_
 ·intro h
  have h:¬ er=0:=by simpa using h
  rw [if_neg h]
  refine zS ?_
  rfl
 intro h
 have h:er=0:=by simpa using h
 subst h
 rw [if_pos rfl]
 simp only [ZZ,WW,Ze,reduceCtorEq,zd,ze,zb,zf,za,qau]
 refine qad (fun n fr L=>∃ (k:Nat),k≤l.length∧n=l.length - k∧(G l=G (l.drop k))∧(H l=H (l.drop k))∧fr=(oo::.p (.str t)::oE (oD (oC (oB (oo::(.p (.sl 4 (pdE l))::.p (int (l.length:Nat))::.p (int (k:Nat))::oE (oB [])))))))∧L=[]) (l.length) _ [] (by simp only [ZZ,WW,Ze,reduceCtorEq,zd,ze,zb,zf,za,qau];try trivial) (by (simp only [ZZ,WW,Ze,reduceCtorEq,zd,ze,zb,zf,za];try trivial)) ⟨0,by omega,by omega,rfl,rfl,rfl,rfl⟩ ?_
 rintro n fr L ⟨k,hk,rfl,hg,hh,rfl,rfl⟩
 simp only [qcL,ZZ,WW,Ze,reduceCtorEq,zd,ze,zb,zf,za]
 refine br ?_ ?_
 rotate_left
 ·intro h2
  have hge:l.length≤k:=by have:=of_decide_eq_false h2;omega
  rw [zV hge] at hg hh
  rw [hg,hh,g1,g2]
  refine zS ?_
  rfl
 intro h2
 have hlt:k < l.length:=by have:=of_decide_eq_true h2;omega
 obtain ⟨p,hp⟩:∃ p,l[k]?=some p:=⟨_,zh hlt⟩
 have hgp:=qgH hp
 have hpB:=hB p (zy hp)
 have hs:=hso hpB
 have hb:=hsb hpB
 simp only [eq_self,if_true] at hs
 obtain ⟨f1,f2⟩:=hfd hp
 rw [f1] at hg
 rw [f2] at hh
 clear f1 f2
 simp only [pdV] at hgp hs
 generalize qfd p pre dig nu=r at *
 obtain ⟨x,kk,b⟩:=r
 simp only [spP,shV] at hs hb hg hh
 simp only [ZZ,WW,Ze,reduceCtorEq,zd,ze,zb,zf,za,hgp,qau]
 ((with_reducible and_intros)<;>try exact sc_)
 refine use1 hs rfl (.inl rfl) ?_
 refine zS ?_
 refine br ?_ ?_
 ·intro h3
  rw [if_pos h3] at hg hh
  rw [hg,hh]
  refine zS ?_
  refine drg0 ?_
  refine zS ?_
  ((with_reducible and_intros)<;>try exact sc_)
  try rfl
 ·intro h3
  rw [if_neg (by rw [h3];simp)] at hg hh
  refine zS ?_
  ((with_reducible and_intros)<;>try exact sc_)
  refine qac (l.length - (k+1)) _ [] (by omega) (by (simp only [ZZ,WW,Ze,reduceCtorEq,zd,ze,zb,zf,za];try trivial)) (by (simp only [ZZ,WW,Ze,reduceCtorEq,zd,ze,zb,zf,za];try trivial)) ⟨k+1,by omega,rfl,hg,hh,rfl,rfl⟩
end
def qhT (s:List UInt8):Nat→List Prd→Int×Int
 |_,[]=>(-1,-1)
 |k,p :: r=>if decide (idxF (fun x:Sht=>decide (x.id=s)) p.shs≥0)=true then ((k:Int),idxF (fun x:Sht=>decide (x.id=s)) p.shs) else qhT s (k+1) r
def qlt (s:List UInt8):List Prd→Option (Prd×Sht)
 |[]=>none
 |p :: r=>match p.shs.find? (fun x=>decide (x.id=s)) with
  |some x=>some (p,x)
  |none=>qlt s r
theorem qnN (s:List UInt8):∀ (l:List Prd) (k:Nat),(qhT s k l=(-1,-1)∧qlt s l=none)∨∃ (i j:Nat) (p:Prd) (x:Sht),qhT s k l=(((k+i:Nat):Int),(j:Int))∧l[i]?=some p∧p.shs[j]?=some x∧qlt s l=some (p,x)
 |[],k=>.inl ⟨rfl,rfl⟩
 |p :: r,k=>by
  rcases qk2 (fun x:Sht=>decide (x.id=s)) p.shs with ⟨h1,h2⟩|⟨j,h1,h2,h3⟩
  ·have hn:p.shs.find? (fun x=>decide (x.id=s))=none:=by
    rw [List.find?_eq_none]
    rw [List.findIdx?_eq_none_iff] at h1
    intro x hx
    rw [h1 x hx]
    simp
   rw [qhT,qlt,h2,hn]
   simp only [show decide ((-1:Int)≥0)=false from rfl,if_false,Bool.false_eq_true]
   rcases qnN s r (k+1) with ⟨a,b⟩|⟨i,j,p',x,a,b,c,d⟩
   ·exact .inl ⟨a,b⟩
   ·exact .inr ⟨i+1,j,p',x,by rw [a];congr 2;omega,by simpa using b,c,d⟩
  ·obtain ⟨x,hx⟩:∃ x,p.shs[j]?=some x:=⟨_,zh h3⟩
   have hn:p.shs.find? (fun x=>decide (x.id=s))=some x:=by
    have h4:=(List.findIdx?_eq_some_iff_getElem.1 h1)
    obtain ⟨_,h5,h6⟩:=h4
    rw [List.find?_eq_some_iff_getElem]
    refine ⟨by rw [← (zt.1 hx).2];exact h5,j,h3,(zt.1 hx).2,fun i hi=>by have:=h6 i hi;simpa using this⟩
   have hj:decide ((j:Int)≥0)=true:=by rw [decide_eq_true_eq];omega
   rw [qhT,qlt,h2,hn,hj,if_pos rfl]
   exact .inr ⟨0,j,p,x,rfl,rfl,hx,rfl⟩
theorem qrf (s:List UInt8) {l:List Prd} {k:Nat} {p:Prd} (h:l[k]?=some p):qhT s k (l.drop k)=if decide (idxF (fun x:Sht=>decide (x.id=s)) p.shs≥0)=true then ((k:Int),idxF (fun x:Sht=>decide (x.id=s)) p.shs) else qhT s (k+1) (l.drop (k+1)):=by
 obtain ⟨hk,he⟩:=zt.1 h
 rw [yi hk,he]
 rfl
theorem qti (s:List UInt8) {l:List Prd} {k:Nat} {p:Prd} (h:l[k]?=some p):qlt s (l.drop k)=match p.shs.find? (fun x=>decide (x.id=s)) with
  |some x=>some (p,x)
  |none=>qlt s (l.drop (k+1)):=by
 obtain ⟨hk,he⟩:=zt.1 h
 rw [yi hk,he]
 rfl
def rngP (l:List Prd) (s:List UInt8):PV:=
 if pdsF l=0 then (if keyB s=true then (match qlt s l with
  |some (p,x)=>.tup [.str (qmB Lib.itoa p.pre p.dig x.fr_),.str (qmB Lib.itoa p.pre p.dig x.to_),int 0]
  |none=>.tup [.str [],.str [],int 8]) else .tup [.str [],.str [],int 5]) else .tup [.str [],.str [],int (pdsF l)]
theorem qst {s:List UInt8}:∀ {l:List Prd} {p:Prd} {x:Sht},qlt s l=some (p,x)→p∈l∧x∈p.shs
 |[],p,x,h=>by cases h
 |q :: r,p,x,h=>by
  rw [qlt] at h
  split at h
  ·rename_i y hy
   simp only [Option.some.injEq,Prod.mk.injEq] at h
   obtain ⟨rfl,rfl⟩:=h
   exact ⟨by simp,List.mem_of_find?_eq_some hy⟩
  ·obtain ⟨a,b⟩:=qst h
   exact ⟨List.mem_cons_of_mem _ a,b⟩
section
variable {E:Envt}
theorem qzk (x:Sht) (s:List UInt8):PCall Tryz.prog E 122 [.agg (shV x),.ptr [.str s]] (·=.bool (decide (x.id=s))):=by
 refine qag mixed Tryz.func122 qk9 ?_
 simp only [a0,l0,OS.ao,zo,zw,zj,zr,zp,zq,zx,zd,zi,zm,qhj,qg7,ZZ,WW,Ze,reduceCtorEq,zd,ze,zb,zf,za]
 simp only [shV,ZZ,WW,Ze,reduceCtorEq,zd,ze,zb,zf,za]
 try rfl
theorem qA4 (l:List Prd) (hl:l.length≤100000) (hB:∀ p∈l,PdB p) (s:List UInt8):PCall Tryz.prog E 63 [.sl 4 (pdE l),.str s] (·=.tup [int (qhT s 0 l).1,int (qhT s 0 l).2]):=by
 have hfd:=fun {k:Nat} {p:Prd}=>@qrf s l k p
 have hx:=fun (p:Prd) (hp:PdB p)=>qhH (E:=E) p.shs 122 [.ptr [.str s]] (fun x=>decide (x.id=s)) (by have:=hp.shs;omega) (fun _=>by kernel_rfl) rfl (fun y _=>qzk y s) (fun _=>rfl) (fun _=>rfl)
 have hnil:∀ k,qhT s k []=(-1,-1):=fun k=>rfl
 refine qag mixed Tryz.func63 ql9 ?_
 simp only [a0,l0,OS.ao,zo,zw,zj,zr,zp,zq,zx,zd,zi,zm,qiO,qiG,ZZ,WW,Ze,reduceCtorEq,zd,ze,zb,zf,za]
 simp only [ZZ,WW,Ze,reduceCtorEq,zd,ze,zb,zf,za,qau]
 refine qad (fun n fr L=>∃ (k:Nat),k≤l.length∧n=l.length - k∧(qhT s 0 l=qhT s k (l.drop k))∧fr=(oo::oo::oo::.adr (.l 3) 0::oC (oo::(.p (.sl 4 (pdE l))::.p (int (l.length:Nat))::.p (int (k:Nat))::oD (oC (oo::[])))))∧L=[(.l 3,.box [.p (.str s)] 9)]) (l.length) _ _ (by simp only [ZZ,WW,Ze,reduceCtorEq,zd,ze,zb,zf,za,qau];try trivial) (by (simp only [ZZ,WW,Ze,reduceCtorEq,zd,ze,zb,zf,za];try trivial)) ⟨0,by omega,by omega,rfl,rfl,rfl⟩ ?_
 rintro n fr L ⟨k,hk,rfl,hg,rfl,rfl⟩
 simp only [qgM,ZZ,WW,Ze,reduceCtorEq,zd,ze,zb,zf,za]
 refine br ?_ ?_
 rotate_left
 ·intro h2
  have hge:l.length≤k:=by have:=of_decide_eq_false h2;omega
  rw [zV hge,hnil] at hg
  rw [hg]
  refine zS ?_
  try first|trivial|rfl
 intro h2
 have hlt:k < l.length:=by have:=of_decide_eq_true h2;omega
 obtain ⟨p,hp⟩:∃ p,l[k]?=some p:=⟨_,zh hlt⟩
 have hgp:=qgH hp
 have hpB:=hB p (zy hp)
 have hi:=hx p hpB
 rw [hfd hp] at hg
 simp only [pdV] at hgp
 simp only [ZZ,WW,Ze,reduceCtorEq,zd,ze,zb,zf,za,hgp,qau]
 ((with_reducible and_intros)<;>try exact sc_)
 refine use1 hi rfl (.inr rfl) ?_
 generalize idxF (fun x:Sht=>decide (x.id=s)) p.shs=j at *
 refine zS ?_
 refine br ?_ ?_
 ·intro h3
  rw [if_pos h3] at hg
  rw [hg]
  refine zS ?_
  try first|trivial|rfl
 ·intro h3
  rw [if_neg (by rw [h3];simp)] at hg
  refine zS ?_
  ((with_reducible and_intros)<;>try exact sc_)
  refine qac (l.length - (k+1)) _ _ (by omega) (by (simp only [ZZ,WW,Ze,reduceCtorEq,zd,ze,zb,zf,za];try trivial)) (by (simp only [ZZ,WW,Ze,reduceCtorEq,zd,ze,zb,zf,za];try trivial)) ⟨k+1,by omega,rfl,hg,rfl,rfl⟩
set_option maxHeartbeats 1000000 in
theorem quK (l:List Prd) (hl:l.length≤100000) (hB:∀ p∈l,PdB p) (s:List UInt8) (hs:s.length≤1000) (hC:PCall Tryz.prog E 64 [.sl 4 (pdE l)] (·=int (pdsF l)))
  (hW:∀ (p:List UInt8) (d n:Int),p.length≤8→4≤d→d≤9→0≤n→n≤1000000000→PCall Tryz.prog E 66 [.str p,int d,int n] (·=.str (qmB Lib.itoa p d n))):PCall Tryz.prog E 38 [.sl 4 (pdE l),.str s] (·=rngP l s):=by
 have hall:=fun h=>@quF l h
 have hto:=fun h=>@qnQ l h
 unfold rngP
 generalize hF:pdsF l=F at *
 have hpr:=qnN s l 0
 refine qag mixed Tryz.func38 qmb ?_
 simp only [a0,l0,OS.ao,zo,zw,zj,zr,zp,zq,zx,zd,zi,zm,qiQ,qiI,ZZ,WW,Ze,reduceCtorEq,zd,ze,zb,zf,za]
 refine use1 (qA4 l hl hB s) rfl (.inl rfl) ?_
 generalize qhT s 0 l=pf at *
 generalize hR:qlt s l=R at *
 obtain ⟨pi,pj⟩:=pf
 refine zS ?_
 refine use1 hC rfl (.inl rfl) ?_
 refine zS ?_
 refine use1 (qv1 s (by omega)) rfl (.inl rfl) ?_
 refine zS ?_
 refine use1 (qeI _ 5) rfl (.inl rfl) ?_
 refine zS ?_
 refine use1 (qeI _ 8) rfl (.inl rfl) ?_
 refine zS ?_
 refine use1 (qiC [F,qak (!keyB s) 5,qak (decide (pi < 0)) 8] (by simp)) rfl (.inl rfl) ?_
 refine zS ?_
 have h3e:qah [F,qak (!keyB s) 5,qak (decide (pi < 0)) 8]=if F=0 then (if keyB s=true then qak (decide (pi < 0)) 8 else 5) else F:=by
  simp only [qah]
  by_cases h1:F=0
  ·rw [if_pos h1,if_pos h1]
   cases keyB s<;>cases decide (pi < 0)<;>rfl
  ·rw [if_neg h1,if_neg h1]
 rw [h3e]
 by_cases hF0:F=0
 rotate_left
 ·rw [if_neg hF0,if_neg hF0]
  have e1:(!decide (F=0))=true:=by simpa using hF0
  simp only [ZZ,WW,Ze,reduceCtorEq,zd,ze,zb,zf,za,e1]
  done
 rw [if_pos hF0,if_pos hF0]
 cases hk:keyB s
 ·simp only [ZZ,WW,Ze,reduceCtorEq,zd,ze,zb,zf,za,show (!decide ((5:Int)=0))=true from rfl,hk]
  try rfl
 rcases hpr with ⟨a,b⟩|⟨i,j,p,x,a,b,c,d⟩
 ·obtain ⟨rfl,rfl⟩:pi=-1∧pj=-1:=by simpa using a
  subst b
  simp only [ZZ,WW,Ze,reduceCtorEq,zd,ze,zb,zf,za,show qak (decide ((-1:Int) < 0)) 8=8 from rfl,show (!decide ((8:Int)=0))=true from rfl]
  try rfl
 ·obtain ⟨rfl,rfl⟩:pi=((0+i:Nat):Int)∧pj=(j:Int):=by simpa using a
  subst d
  have hil:=(zt.1 b).1
  have hjl:=(zt.1 c).1
  have hw0:qak (decide (((0+i:Nat):Int) < 0)) 8=0:=by rw [show decide (((0+i:Nat):Int) < 0)=false from by rw [decide_eq_false_iff_not];omega];rfl
  have hpm:=zy b
  have hxm:=zy c
  have hpB:=hB p hpm
  obtain ⟨_,_,hhd,_⟩:=qjj (hall hF0 p hpm)
  obtain ⟨g1,g2,g3⟩:=qh1 hhd
  have hrn:=hto hF0 p hpm x hxm
  have hg:=qgH b
  have hgx:=qbY c
  have hsl:=hpB.shs
  simp only [pdV] at hg
  simp only [shV] at hgx
  rw [Nat.zero_add] at *
  simp only [ZZ,WW,Ze,reduceCtorEq,zd,ze,zb,zf,za,hw0,decide_true,Bool.not_true,hg,qau]
  ((with_reducible and_intros)<;>try exact sc_)
  refine drg2 (x1:=.str (qmB Lib.itoa p.pre p.dig x.fr_)) (x2:=.str (qmB Lib.itoa p.pre p.dig x.to_)) ?_
  simp only [ZZ,WW,Ze,reduceCtorEq,zd,ze,zb,zf,za,hgx,qae]
  ((with_reducible and_intros)<;>try exact sc_)
  all_goals first|exact usep (hW p.pre p.dig x.fr_ g3 g1 g2 (by omega) (by omega)) rfl (.inl rfl)|exact usep (hW p.pre p.dig x.to_ g3 g1 g2 (by omega) (by omega)) rfl (.inl rfl)|rfl
set_option maxHeartbeats 1000000 in
theorem qrj (l:List Prd) (hl:l.length≤100000) (hB:∀ p∈l,PdB p) (s:List UInt8) (hs:s.length≤1000) (hC:PCall Tryz.prog E 26 [.sl 4 (pdE l)] (·=int (pdsF l)))
  (hW:∀ (p:List UInt8) (d n:Int),p.length≤1000→-1000000000≤n→PCall Tryz.prog E 68 [.str p,int d,int n] (·=.tup [.str (nofG Lib.itoa p d n).1,int (nofG Lib.itoa p d n).2])):PCall Tryz.prog E 39 [.sl 4 (pdE l),.str s] (·=rngP l s):=by
 have hall:=fun h=>@quF l h
 have hto:=fun h=>@qnQ l h
 have hrm:=fun {p:Prd} {x:Sht}=>@qst s l p x
 have hfd:=fun {k:Nat} {p:Prd}=>@qti s l k p
 unfold rngP
 generalize hF:pdsF l=F at *
 refine qag mixed Tryz.func39 qj8 ?_
 simp only [a0,l0,OS.ao,zo,zw,zj,zr,zp,zq,zx,zd,zi,zm,qgj,qf8,ZZ,WW,Ze,reduceCtorEq,zd,ze,zb,zf,za]
 refine use1 hC rfl (.inl rfl) ?_
 refine zS ?_
 refine br ?_ ?_
 ·intro h
  have h:¬ F=0:=by simpa using h
  rw [if_neg h]
  refine zS ?_
  try first|trivial|rfl
 intro h
 have h:F=0:=by simpa using h
 subst h
 rw [if_pos rfl]
 refine zS ?_
 refine use1 (qpu s (by omega)) rfl (.inl rfl) ?_
 refine zS ?_
 refine br ?_ ?_
 ·intro h
  have h:keyB s=false:=by simpa using h
  rw [h]
  refine zS ?_
  try first|trivial|rfl
 intro h
 have h:keyB s=true:=by simpa using h
 rw [if_pos h]
 simp only [ZZ,WW,Ze,reduceCtorEq,zd,ze,zb,zf,za,qau]
 refine qad (fun n fr L=>∃ (k:Nat),k≤l.length∧n=l.length - k∧(qlt s l=qlt s (l.drop k))∧fr=(oo::.p (.str s)::oE (oC (oB (.p (.sl 4 (pdE l))::.p (int (l.length:Nat))::.p (int (k:Nat))::oF (oC (oB []))))))∧L=[]) (l.length) _ [] (by simp only [ZZ,WW,Ze,reduceCtorEq,zd,ze,zb,zf,za,qau];try trivial) (by (simp only [ZZ,WW,Ze,reduceCtorEq,zd,ze,zb,zf,za];try trivial)) ⟨0,by omega,by omega,rfl,rfl,rfl⟩ ?_
 rintro n fr L ⟨k,hk,rfl,hg,rfl,rfl⟩
 simp only [qeA,ZZ,WW,Ze,reduceCtorEq,zd,ze,zb,zf,za]
 refine br ?_ ?_
 rotate_left
 ·intro h2
  have hge:l.length≤k:=by have:=of_decide_eq_false h2;omega
  rw [zV hge] at hg
  rw [hg]
  refine zS ?_
  try first|trivial|rfl
 intro h2
 have hlt:k < l.length:=by have:=of_decide_eq_true h2;omega
 obtain ⟨p,hp⟩:∃ p,l[k]?=some p:=⟨_,zh hlt⟩
 have hgp:=qgH hp
 have hpm:=zy hp
 have hpB:=hB p hpm
 have hsl:=hpB.shs
 rw [hfd hp] at hg
 simp only [pdV] at hgp
 simp only [ZZ,WW,Ze,reduceCtorEq,zd,ze,zb,zf,za,hgp,qau]
 ((with_reducible and_intros)<;>try exact sc_)
 simp only [ZZ,WW,Ze,reduceCtorEq,zd,ze,zb,zf,za,qae]
 refine qad (fun n fr L=>∃ (j:Nat),j≤p.shs.length∧n=p.shs.length - j∧(∀ y∈p.shs.take j,decide (y.id=s)=false)∧fr=(oo::.p (.str s)::oC (oB (oo::(.adr (.l 9) 0::oD (oC (oB (.p (.sl 4 (pdE l))::.p (int (l.length:Nat))::.p (int (k:Nat))::oo::oo::oo::oo::.p (.sl 7 (shE p.shs))::.p (int (p.shs.length:Nat))::.p (int (j:Nat))::oE (oD (oC (oB (oo::[])))))))))))∧L=[(.l 9,.box [.p (int p.no),.p (.str p.pre),.p (int p.dig),.p (.sl 7 (shE p.shs))] tPrd)]) (p.shs.length) _ _ (by simp only [ZZ,WW,Ze,reduceCtorEq,zd,ze,zb,zf,za,qae];try trivial) (by (simp only [ZZ,WW,Ze,reduceCtorEq,zd,ze,zb,zf,za];try trivial)) ⟨0,by omega,by omega,by simp,rfl,rfl⟩ ?_
 rintro n fr L ⟨j,hj,rfl,hno,rfl,rfl⟩
 simp only [qez,ZZ,WW,Ze,reduceCtorEq,zd,ze,zb,zf,za]
 refine br ?_ ?_
 ·intro h4
  have hjl:j < p.shs.length:=by have:=of_decide_eq_true h4;omega
  obtain ⟨x,hx⟩:∃ x,p.shs[j]?=some x:=⟨_,zh hjl⟩
  have hgx:=qbY hx
  have hxe:=(zt.1 hx).2
  simp only [shV] at hgx
  simp only [ZZ,WW,Ze,reduceCtorEq,zd,ze,zb,zf,za,hgx,qae]
  ((with_reducible and_intros)<;>try exact sc_)
  refine br ?_ ?_
  ·intro h5
   have hn:p.shs.find? (fun x=>decide (x.id=s))=some x:=by
    rw [List.find?_eq_some_iff_getElem]
    refine ⟨h5,j,hjl,hxe,fun i hi=>?_⟩
    have:=hno p.shs[i] (List.mem_take_iff_getElem.2 ⟨i,by omega,rfl⟩)
    rw [this]
    rfl
   rw [hn] at hg
   simp only at hg
   rw [hg]
   obtain ⟨_,hxm⟩:=hrm hg
   obtain ⟨_,_,hhd,hch⟩:=qjj (hall rfl p hpm)
   have hrn:=hto rfl p hpm x hxm
   have hc:=qig hch j hjl
   rw [show p.shs.getD j sh0=x from by simp [zD,hx]] at hc
   have n1:=qx1 hhd hrn.1 (by omega)
   have n2:=qx1 (n:=x.to_) hhd (by omega) hc.2.2.1
   have w1:=hW p.pre p.dig x.fr_ hpB.pre (by omega)
   have w2:=hW p.pre p.dig x.to_ hpB.pre (by omega)
   rw [n1] at w1
   rw [n2] at w2
   refine zS ?_
   refine use1 w1 rfl (.inl rfl) ?_
   refine zS ?_
   refine use1 w2 rfl (.inl rfl) ?_
   refine zS ?_
   try first|trivial|rfl
  ·intro h5
   refine zS ?_
   ((with_reducible and_intros)<;>try exact sc_)
   refine qac (p.shs.length - (j+1)) _ _ (by omega) (by (simp only [ZZ,WW,Ze,reduceCtorEq,zd,ze,zb,zf,za];try trivial)) (by (simp only [ZZ,WW,Ze,reduceCtorEq,zd,ze,zb,zf,za];try trivial)) ⟨j+1,by omega,rfl,by rw [zB hjl];intro y hy;rcases zI.1 hy with hy|hy;exact hno y hy;rw [zH] at hy;rw [hy,hxe];exact h5,rfl,rfl⟩
 intro h4
 have hjl:p.shs.length≤j:=by have:=of_decide_eq_false h4;omega
 rw [zG hjl] at hno
 have hn:p.shs.find? (fun x=>decide (x.id=s))=none:=List.find?_eq_none.2 fun y hy=>by rw [hno y hy];simp
 rw [hn] at hg
 simp only at hg
 refine zS ?_
 ((with_reducible and_intros)<;>try exact sc_)
 refine qac (l.length - (k+1)) _ [] (by omega) (by (simp only [ZZ,WW,Ze,reduceCtorEq,zd,ze,zb,zf,za];try trivial)) (by (simp only [ZZ,WW,Ze,reduceCtorEq,zd,ze,zb,zf,za];try trivial)) ⟨k+1,by omega,rfl,hg,rfl,rfl⟩
end
end Go.Proofs.YtmpdnpljdcincaaGreatDoor
