import Derived.Test.YtjgdjinhkgjpeaaGreatDoorZ8
import Derived.Test.YtjgdjinhkgjpeaaGreatDoorZ7
set_option linter.unusedVariables false
set_option linter.unusedSimpArgs false
set_option linter.defProp false
namespace Go.Proofs.YtjgdjinhkgjpeaaGreatDoor
open Nat renaming lt_or_ge→yg,reduceAdd→zd,reduceEqDiff→zb,reduceLT→zf,reduceLeDiff→za,reduceMul→ze,reduceSub→zu
open List renaming cons_append→zo,getElem?_eq_getElem→zr,length_cons→zk,length_nil→zp,map_cons→zl,map_nil→zt,nil_append→zq,replicate_succ→zj,replicate_zero→zm
open Bool renaming false_eq_true→z7,true_and→yk
open Go.RowKit
def qge:IC:=(.seq (.reg [qO 1 (.box 44 (.t 0)),qO 2 (.mov (.c (.bool false)))]) (.seq (.reg [qO 5 (.fla 3 (.t 1)),qO 6 (.ld 1 false (.t 5)),qO 7 (.bin .neq (.t 6) (.c (.int .i64 3))),qM 8 7,⟨some 9,.fla 3 (.t 1),(some (8,true))⟩,⟨some 10,.ld 1 false (.t 9),(some (8,true))⟩,⟨some 11,.bin .neq (.t 10) (.c (.int .i64 6)),(some (8,true))⟩,qO 12 (.pick (.t 8) (.t 11) (.c (.bool false))),qM 3 12]) (.seq (.reg [qO 13 (.fla 3 (.t 1)),qO 14 (.ld 1 false (.t 13)),qO 15 (.bin .eql (.t 14) (.c (.int .i64 1))),qM 16 15,⟨some 17,.fla 3 (.t 1),(some (16,false))⟩,⟨some 18,.ld 1 false (.t 17),(some (16,false))⟩,⟨some 19,.bin .eql (.t 18) (.c (.int .i64 2)),(some (16,false))⟩,qO 20 (.pick (.t 16) (.c (.bool true)) (.t 19)),qM 21 20,⟨some 22,.fla 3 (.t 1),(some (21,false))⟩,⟨some 23,.ld 1 false (.t 22),(some (21,false))⟩,⟨some 24,.bin .eql (.t 23) (.c (.int .i64 5)),(some (21,false))⟩,qO 25 (.pick (.t 21) (.c (.bool true)) (.t 24)),qM 4 25]) (.seq (.reg [qM 26 3,qO 27 (.not (.t 26)),qM 28 27,⟨some 29,.fla 4 (.t 1),(some (28,true))⟩,⟨some 30,.ld 1 false (.t 29),(some (28,true))⟩,⟨some 31,.bin .neq (.t 30) (.c (.str [])),(some (28,true))⟩,qO 32 (.pick (.t 28) (.t 31) (.c (.bool false))),qM 33 32,⟨some 34,.fla 3 (.t 1),(some (33,false))⟩,⟨some 35,.ld 1 false (.t 34),(some (33,false))⟩,⟨some 36,.bin .neq (.t 35) (.c (.int .i64 1)),(some (33,false))⟩,⟨some 37,.mov (.t 36),(some (33,false))⟩,⟨some 38,.fla 5 (.t 1),(some (37,true))⟩,⟨some 39,.ld 1 false (.t 38),(some (37,true))⟩,⟨some 40,.bin .neq (.t 39) (.c (.str [])),(some (37,true))⟩,⟨some 41,.pick (.t 37) (.t 40) (.c (.bool false)),(some (33,false))⟩,qO 42 (.pick (.t 33) (.c (.bool true)) (.t 41)),qM 43 42,⟨some 44,.mov (.t 4),(some (43,false))⟩,⟨some 45,.not (.t 44),(some (43,false))⟩,⟨some 46,.mov (.t 45),(some (43,false))⟩,⟨some 47,.fla 6 (.t 1),(some (46,true))⟩,⟨some 48,.ld 1 false (.t 47),(some (46,true))⟩,⟨some 49,.bin .neq (.t 48) (.c (.str [])),(some (46,true))⟩,⟨some 50,.pick (.t 46) (.t 49) (.c (.bool false)),(some (43,false))⟩,qO 51 (.pick (.t 43) (.c (.bool true)) (.t 50)),qM 52 51,⟨some 53,.fla 3 (.t 1),(some (52,false))⟩,⟨some 54,.ld 1 false (.t 53),(some (52,false))⟩,⟨some 55,.bin .neq (.t 54) (.c (.int .i64 4)),(some (52,false))⟩,⟨some 56,.mov (.t 55),(some (52,false))⟩,⟨some 57,.fla 7 (.t 1),(some (56,true))⟩,⟨some 58,.ld 2 true (.t 57),(some (56,true))⟩,⟨some 59,.bld [.int .i64 0,.int .i64 0] [],(some (56,true))⟩,⟨some 60,.eqa true [.i,.i] (.t 58) (.t 59),(some (56,true))⟩,⟨some 61,.pick (.t 56) (.t 60) (.c (.bool false)),(some (52,false))⟩,qO 62 (.pick (.t 52) (.c (.bool true)) (.t 61)),qM 63 62,⟨some 64,.mov (.t 3),(some (63,false))⟩,⟨some 65,.mov (.t 64),(some (63,false))⟩,⟨some 66,.fla 9 (.t 1),(some (65,true))⟩,⟨some 67,.ld 2 true (.t 66),(some (65,true))⟩,⟨some 68,.bld [.str [],.int .i64 0] [],(some (65,true))⟩,⟨some 69,.eqa true [.s,.i] (.t 67) (.t 68),(some (65,true))⟩,⟨some 70,.pick (.t 65) (.t 69) (.c (.bool false)),(some (63,false))⟩,qO 71 (.pick (.t 63) (.c (.bool true)) (.t 70)),qM 2 71]) .ret))))
def qf9:List IRes:=[.t 2]
theorem qjK:chkF Tryz.prog Tryz.f116 qge qf9 72=true:=by kernel_rfl
def qeI:IC:=(.seq (.reg [qO 1 (.box 44 (.t 0)),qO 2 (.mov (.c (.int .i64 0)))]) (.seq (.seq (.reg [qO 4 (.ld 12 true (.t 1)),qO 5 (.call 116 [.t 4])]) (.cond (.t 5) (.seq (.reg [qO 2 (.mov (.c (.int .i64 3)))]) .ret) .skip)) (.seq (.reg [qO 3 (.mov (.c (.bool true)))]) (.seq (.seq (.reg [qO 6 (.fla 3 (.t 1)),qO 7 (.ld 1 false (.t 6))]) (.block 0 (.seq (.seq (.reg [qO 9 (.bin .eql (.t 7) (.c (.int .i64 3))),qM 8 9]) (.cond (.t 8) .skip (.reg [qO 10 (.bin .eql (.t 7) (.c (.int .i64 6))),qM 8 10]))) (.cut (.cond (.t 8) (.seq (.reg [qO 2 (.mov (.c (.int .i64 0)))]) .ret) (.seq (.reg [qO 12 (.bin .eql (.t 7) (.c (.int .i64 1))),qM 11 12]) (.cond (.t 11) (.reg [qO 13 (.fla 6 (.t 1)),qO 14 (.ld 1 false (.t 13)),qO 15 (.sln (.t 14)),qO 16 (.bin .leq (.t 15) (.c (.int .i64 60))),qM 17 16,⟨some 18,.fla 6 (.t 1),(some (17,true))⟩,⟨some 19,.ld 1 false (.t 18),(some (17,true))⟩,⟨some 20,.call 117 [.t 19],(some (17,true))⟩,qO 21 (.pick (.t 17) (.t 20) (.c (.bool false))),qM 3 21]) (.seq (.reg [qO 23 (.bin .eql (.t 7) (.c (.int .i64 2))),qM 22 23]) (.cond (.t 22) (.reg [qO 24 (.fla 6 (.t 1)),qO 25 (.ld 1 false (.t 24)),qO 26 (.call 87 [.t 25]),qM 3 26]) (.seq (.reg [qO 28 (.bin .eql (.t 7) (.c (.int .i64 5))),qM 27 28]) (.cond (.t 27) (.reg [qO 29 (.fla 6 (.t 1)),qO 30 (.ld 1 false (.t 29)),qO 31 (.sln (.t 30)),qO 32 (.call 75 [.t 31,.c (.int .i64 1),.c (.int .i64 200)]),qM 33 32,⟨some 34,.fla 6 (.t 1),(some (33,true))⟩,⟨some 35,.ld 1 false (.t 34),(some (33,true))⟩,⟨some 36,.call 117 [.t 35],(some (33,true))⟩,qO 37 (.pick (.t 33) (.t 36) (.c (.bool false))),qM 3 37]) (.seq (.reg [qO 39 (.bin .eql (.t 7) (.c (.int .i64 4))),qM 38 39]) (.cond (.t 38) (.reg [qO 40 (.fla 7 (.t 1)),qO 41 (.fla 0 (.t 40)),qO 42 (.ld 1 false (.t 41)),qO 43 (.bin .geq (.t 42) (.c (.int .i64 0))),qM 44 43,⟨some 45,.fla 7 (.t 1),(some (44,true))⟩,⟨some 46,.fla 0 (.t 45),(some (44,true))⟩,⟨some 47,.ld 1 false (.t 46),(some (44,true))⟩,⟨some 48,.fla 7 (.t 1),(some (44,true))⟩,⟨some 49,.fla 1 (.t 48),(some (44,true))⟩,⟨some 50,.ld 1 false (.t 49),(some (44,true))⟩,⟨some 51,.bin .lss (.t 47) (.t 50),(some (44,true))⟩,qO 52 (.pick (.t 44) (.t 51) (.c (.bool false))),qM 53 52,⟨some 54,.fla 7 (.t 1),(some (53,true))⟩,⟨some 55,.fla 1 (.t 54),(some (53,true))⟩,⟨some 56,.ld 1 false (.t 55),(some (53,true))⟩,⟨some 57,.bin .leq (.t 56) (.c (.int .i64 20000)),(some (53,true))⟩,qO 58 (.pick (.t 53) (.t 57) (.c (.bool false))),qM 3 58]) .skip))))))))))))) (.cut (.seq (.reg [qO 59 (.fla 4 (.t 1)),qO 60 (.ld 1 false (.t 59)),qO 61 (.call 87 [.t 60]),qO 62 (.not (.t 61)),qM 63 62,⟨some 64,.fla 3 (.t 1),(some (63,false))⟩,⟨some 65,.ld 1 false (.t 64),(some (63,false))⟩,⟨some 66,.bin .eql (.t 65) (.c (.int .i64 1)),(some (63,false))⟩,⟨some 67,.mov (.t 66),(some (63,false))⟩,⟨some 68,.fla 5 (.t 1),(some (67,true))⟩,⟨some 69,.ld 1 false (.t 68),(some (67,true))⟩,⟨some 70,.call 87 [.t 69],(some (67,true))⟩,⟨some 71,.not (.t 70),(some (67,true))⟩,⟨some 72,.pick (.t 67) (.t 71) (.c (.bool false)),(some (63,false))⟩,qO 73 (.pick (.t 63) (.c (.bool true)) (.t 72)),qO 74 (.call 78 [.t 73,.c (.int .i64 5)]),qM 75 3,qO 76 (.not (.t 75)),qO 77 (.call 78 [.t 76,.c (.int .i64 3)]),qO 78 (.bsl 1 [.t 74,.t 77]),qO 79 (.call 76 [.t 78]),qM 2 79]) .ret))))))
def qew:List IRes:=[.t 2]
theorem qhN:chkF Tryz.prog Tryz.f79 qeI qew 80=true:=by kernel_rfl
def qdw:IC:=(.seq (.reg [qO 1 (.box 44 (.t 0)),qO 2 (.mov (.c (.int .i64 0)))]) (.seq (.seq (.reg [qO 6 (.fla 2 (.t 1)),qO 7 (.ld 1 false (.t 6)),qO 8 (.call 62 [.t 7]),qO 9 (.not (.t 8))]) (.cond (.t 9) (.seq (.reg [qO 2 (.mov (.c (.int .i64 1)))]) .ret) .skip)) (.seq (.seq (.reg [qO 10 (.fla 3 (.t 1)),qO 11 (.ld 1 false (.t 10)),qO 12 (.bin .lss (.t 11) (.c (.int .i64 1))),qM 13 12,⟨some 14,.fla 3 (.t 1),(some (13,false))⟩,⟨some 15,.ld 1 false (.t 14),(some (13,false))⟩,⟨some 16,.bin .gtr (.t 15) (.c (.int .i64 6)),(some (13,false))⟩,qO 17 (.pick (.t 13) (.c (.bool true)) (.t 16))]) (.cond (.t 17) (.seq (.reg [qO 2 (.mov (.c (.int .i64 4)))]) .ret) .skip)) (.seq (.reg [qO 18 (.fla 3 (.t 1)),qO 19 (.ld 1 false (.t 18)),qO 20 (.bin .eql (.t 19) (.c (.int .i64 3))),qM 21 20,⟨some 22,.fla 3 (.t 1),(some (21,false))⟩,⟨some 23,.ld 1 false (.t 22),(some (21,false))⟩,⟨some 24,.bin .eql (.t 23) (.c (.int .i64 6)),(some (21,false))⟩,qO 25 (.pick (.t 21) (.c (.bool true)) (.t 24)),qM 3 25]) (.seq (.reg [qO 26 (.fla 3 (.t 1)),qO 27 (.ld 1 false (.t 26)),qO 28 (.bin .eql (.t 27) (.c (.int .i64 1))),qM 29 28,⟨some 30,.fla 3 (.t 1),(some (29,false))⟩,⟨some 31,.ld 1 false (.t 30),(some (29,false))⟩,⟨some 32,.bin .eql (.t 31) (.c (.int .i64 2)),(some (29,false))⟩,qO 33 (.pick (.t 29) (.c (.bool true)) (.t 32)),qM 34 33,⟨some 35,.fla 3 (.t 1),(some (34,false))⟩,⟨some 36,.ld 1 false (.t 35),(some (34,false))⟩,⟨some 37,.bin .eql (.t 36) (.c (.int .i64 5)),(some (34,false))⟩,qO 38 (.pick (.t 34) (.c (.bool true)) (.t 37)),qM 4 38]) (.seq (.reg [qM 39 3,qM 40 39,⟨some 41,.fla 4 (.t 1),(some (40,true))⟩,⟨some 42,.ld 1 false (.t 41),(some (40,true))⟩,⟨some 43,.bin .neq (.t 42) (.c (.str [])),(some (40,true))⟩,qO 44 (.pick (.t 40) (.t 43) (.c (.bool false))),qM 45 44,⟨some 46,.fla 3 (.t 1),(some (45,false))⟩,⟨some 47,.ld 1 false (.t 46),(some (45,false))⟩,⟨some 48,.bin .neq (.t 47) (.c (.int .i64 1)),(some (45,false))⟩,⟨some 49,.mov (.t 48),(some (45,false))⟩,⟨some 50,.fla 5 (.t 1),(some (49,true))⟩,⟨some 51,.ld 1 false (.t 50),(some (49,true))⟩,⟨some 52,.bin .neq (.t 51) (.c (.str [])),(some (49,true))⟩,⟨some 53,.pick (.t 49) (.t 52) (.c (.bool false)),(some (45,false))⟩,qO 54 (.pick (.t 45) (.c (.bool true)) (.t 53)),qM 55 54,⟨some 56,.mov (.t 4),(some (55,false))⟩,⟨some 57,.not (.t 56),(some (55,false))⟩,⟨some 58,.mov (.t 57),(some (55,false))⟩,⟨some 59,.fla 6 (.t 1),(some (58,true))⟩,⟨some 60,.ld 1 false (.t 59),(some (58,true))⟩,⟨some 61,.bin .neq (.t 60) (.c (.str [])),(some (58,true))⟩,⟨some 62,.pick (.t 58) (.t 61) (.c (.bool false)),(some (55,false))⟩,qO 63 (.pick (.t 55) (.c (.bool true)) (.t 62)),qM 64 63,⟨some 65,.fla 3 (.t 1),(some (64,false))⟩,⟨some 66,.ld 1 false (.t 65),(some (64,false))⟩,⟨some 67,.bin .neq (.t 66) (.c (.int .i64 4)),(some (64,false))⟩,⟨some 68,.mov (.t 67),(some (64,false))⟩,⟨some 69,.fla 7 (.t 1),(some (68,true))⟩,⟨some 70,.ld 2 true (.t 69),(some (68,true))⟩,⟨some 71,.bld [.int .i64 0,.int .i64 0] [],(some (68,true))⟩,⟨some 72,.eqa true [.i,.i] (.t 70) (.t 71),(some (68,true))⟩,⟨some 73,.pick (.t 68) (.t 72) (.c (.bool false)),(some (64,false))⟩,qO 74 (.pick (.t 64) (.c (.bool true)) (.t 73)),qM 75 74,⟨some 76,.mov (.t 3),(some (75,false))⟩,⟨some 77,.not (.t 76),(some (75,false))⟩,⟨some 78,.mov (.t 77),(some (75,false))⟩,⟨some 79,.fla 9 (.t 1),(some (78,true))⟩,⟨some 80,.ld 2 true (.t 79),(some (78,true))⟩,⟨some 81,.bld [.str [],.int .i64 0] [],(some (78,true))⟩,⟨some 82,.eqa true [.s,.i] (.t 80) (.t 81),(some (78,true))⟩,⟨some 83,.pick (.t 78) (.t 82) (.c (.bool false)),(some (75,false))⟩,qO 84 (.pick (.t 75) (.c (.bool true)) (.t 83)),qM 5 84]) (.seq (.block 0 (.seq (.reg [qM 86 5,qM 85 86]) (.cond (.t 85) (.seq (.reg [qO 2 (.mov (.c (.int .i64 3)))]) .ret) (.seq (.seq (.reg [qM 88 3,qO 89 (.not (.t 88)),qM 90 89,⟨some 91,.fla 4 (.t 1),(some (90,true))⟩,⟨some 92,.ld 1 false (.t 91),(some (90,true))⟩,⟨some 93,.call 24 [.t 92],(some (90,true))⟩,⟨some 94,.not (.t 93),(some (90,true))⟩,qO 95 (.pick (.t 90) (.t 94) (.c (.bool false))),qM 87 95]) (.cond (.t 87) .skip (.reg [qO 96 (.fla 3 (.t 1)),qO 97 (.ld 1 false (.t 96)),qO 98 (.bin .eql (.t 97) (.c (.int .i64 1))),qM 99 98,⟨some 100,.fla 5 (.t 1),(some (99,true))⟩,⟨some 101,.ld 1 false (.t 100),(some (99,true))⟩,⟨some 102,.call 24 [.t 101],(some (99,true))⟩,⟨some 103,.not (.t 102),(some (99,true))⟩,qO 104 (.pick (.t 99) (.t 103) (.c (.bool false))),qM 87 104]))) (.cut (.cond (.t 87) (.seq (.reg [qO 2 (.mov (.c (.int .i64 5)))]) .ret) (.seq (.seq (.reg [qO 106 (.fla 3 (.t 1)),qO 107 (.ld 1 false (.t 106)),qO 108 (.bin .eql (.t 107) (.c (.int .i64 1))),qM 109 108,⟨some 110,.fla 6 (.t 1),(some (109,true))⟩,⟨some 111,.ld 1 false (.t 110),(some (109,true))⟩,⟨some 112,.call 63 [.t 111],(some (109,true))⟩,⟨some 113,.not (.t 112),(some (109,true))⟩,⟨some 114,.mov (.t 113),(some (109,true))⟩,⟨some 115,.fla 6 (.t 1),(some (114,false))⟩,⟨some 116,.ld 1 false (.t 115),(some (114,false))⟩,⟨some 117,.sln (.t 116),(some (114,false))⟩,⟨some 118,.bin .gtr (.t 117) (.c (.int .i64 60)),(some (114,false))⟩,⟨some 119,.pick (.t 114) (.c (.bool true)) (.t 118),(some (109,true))⟩,qO 120 (.pick (.t 109) (.t 119) (.c (.bool false))),qM 105 120]) (.cond (.t 105) .skip (.seq (.reg [qO 121 (.fla 3 (.t 1)),qO 122 (.ld 1 false (.t 121)),qO 123 (.bin .eql (.t 122) (.c (.int .i64 2))),qM 124 123,⟨some 125,.fla 6 (.t 1),(some (124,true))⟩,⟨some 126,.ld 1 false (.t 125),(some (124,true))⟩,⟨some 127,.call 24 [.t 126],(some (124,true))⟩,⟨some 128,.not (.t 127),(some (124,true))⟩,qO 129 (.pick (.t 124) (.t 128) (.c (.bool false))),qM 105 129]) (.cond (.t 105) .skip (.reg [qO 130 (.fla 3 (.t 1)),qO 131 (.ld 1 false (.t 130)),qO 132 (.bin .eql (.t 131) (.c (.int .i64 5))),qM 133 132,⟨some 134,.fla 6 (.t 1),(some (133,true))⟩,⟨some 135,.ld 1 false (.t 134),(some (133,true))⟩,⟨some 136,.call 63 [.t 135],(some (133,true))⟩,⟨some 137,.not (.t 136),(some (133,true))⟩,⟨some 138,.mov (.t 137),(some (133,true))⟩,⟨some 139,.fla 6 (.t 1),(some (138,false))⟩,⟨some 140,.ld 1 false (.t 139),(some (138,false))⟩,⟨some 141,.sln (.t 140),(some (138,false))⟩,⟨some 142,.bin .lss (.t 141) (.c (.int .i64 1)),(some (138,false))⟩,⟨some 143,.pick (.t 138) (.c (.bool true)) (.t 142),(some (133,true))⟩,⟨some 144,.mov (.t 143),(some (133,true))⟩,⟨some 145,.fla 6 (.t 1),(some (144,false))⟩,⟨some 146,.ld 1 false (.t 145),(some (144,false))⟩,⟨some 147,.sln (.t 146),(some (144,false))⟩,⟨some 148,.bin .gtr (.t 147) (.c (.int .i64 200)),(some (144,false))⟩,⟨some 149,.pick (.t 144) (.c (.bool true)) (.t 148),(some (133,true))⟩,qO 150 (.pick (.t 133) (.t 149) (.c (.bool false))),qM 105 150]))))) (.cut (.cond (.t 105) (.seq (.reg [qO 2 (.mov (.c (.int .i64 3)))]) .ret) (.seq (.reg [qO 152 (.fla 3 (.t 1)),qO 153 (.ld 1 false (.t 152)),qO 154 (.bin .eql (.t 153) (.c (.int .i64 4))),qM 155 154,⟨some 156,.fla 7 (.t 1),(some (155,true))⟩,⟨some 157,.fla 0 (.t 156),(some (155,true))⟩,⟨some 158,.ld 1 false (.t 157),(some (155,true))⟩,⟨some 159,.bin .lss (.t 158) (.c (.int .i64 0)),(some (155,true))⟩,⟨some 160,.mov (.t 159),(some (155,true))⟩,⟨some 161,.fla 7 (.t 1),(some (160,false))⟩,⟨some 162,.fla 0 (.t 161),(some (160,false))⟩,⟨some 163,.ld 1 false (.t 162),(some (160,false))⟩,⟨some 164,.fla 7 (.t 1),(some (160,false))⟩,⟨some 165,.fla 1 (.t 164),(some (160,false))⟩,⟨some 166,.ld 1 false (.t 165),(some (160,false))⟩,⟨some 167,.bin .geq (.t 163) (.t 166),(some (160,false))⟩,⟨some 168,.pick (.t 160) (.c (.bool true)) (.t 167),(some (155,true))⟩,⟨some 169,.mov (.t 168),(some (155,true))⟩,⟨some 170,.fla 7 (.t 1),(some (169,false))⟩,⟨some 171,.fla 1 (.t 170),(some (169,false))⟩,⟨some 172,.ld 1 false (.t 171),(some (169,false))⟩,⟨some 173,.bin .gtr (.t 172) (.c (.int .i64 20000)),(some (169,false))⟩,⟨some 174,.pick (.t 169) (.c (.bool true)) (.t 173),(some (155,true))⟩,qO 175 (.pick (.t 155) (.t 174) (.c (.bool false))),qM 151 175]) (.cond (.t 151) (.seq (.reg [qO 2 (.mov (.c (.int .i64 3)))]) .ret) .skip))))))))))) (.seq (.reg [qO 2 (.mov (.c (.int .i64 0)))]) .ret))))))))
def qdp:List IRes:=[.t 2]
theorem qgr:chkF Tryz.prog Tryz.f26 qdw qdp 176=true:=by kernel_rfl
theorem qjY {P:Program} {E:Envt} {fr:List AV} {L:Objs} {Q:AQ} {b:Bool} {x y r:IC} {i:Nat} (M:List AV→Objs→Prop) (h1:b=true→awp P E x fr L (qb3 i (midQ E M Q))) (h2:b=false→awp P E y fr L (qb3 i (midQ E M Q))) (hM:∀ fr L,M fr L→awp P E r fr L Q):BrC P E b x y fr L (qb3 i (qj4 P E (.cut r) Q)):=by
 have hn:∀ fr L,midQ E M Q .normal fr L→qj4 P E (.cut r) Q .normal fr L:=by
  intro fr L h
  obtain ⟨fr',L',a1,a3⟩:=h
  exact ⟨fr',L',a1,hM fr' L' a3⟩
 have hq:∀ e fr L,qb3 i (midQ E M Q) e fr L→qb3 i (qj4 P E (.cut r) Q) e fr L:=by
  intro e fr L h
  cases e with
  |normal=>exact hn fr L h
  |exit j=>
   simp only [qb3] at h ⊢
   split
   ·rename_i hj;rw [if_pos hj] at h;exact hn fr L h
   ·rename_i hj;rw [if_neg hj] at h;exact h
  |_=>exact h
 exact ⟨fun e=>qhh x fr L _ _ hq (h1 e),fun e=>qhh y fr L _ _ hq (h2 e)⟩
section
variable {E:Envt}
set_option maxRecDepth 100000 in
set_option maxHeartbeats 4000000 in
theorem qqS (d:Dd):PCall Tryz.prog E 116 [.agg (ddC d)] (·=.bool (qhG d)):=by
 refine qaf mixed Tryz.func116 qjK ?_
 simp only [a0,l0,OS.ao,zl,zt,zk,zp,zo,zq,zu,zd,zj,zm,qge,qf9,ZZ,WW,Ze,reduceCtorEq,zd,ze,za,zf,zb]
 simp only [ddC,ZZ,WW,Ze,reduceCtorEq,zd,ze,za,zf,zb]
 simp only [qhG,qdA,valB]
 generalize decide (d.kind=1)=k1
 generalize decide (d.kind=2)=k2
 generalize decide (d.kind=3)=k3
 generalize decide (d.kind=4)=k4
 generalize decide (d.kind=5)=k5
 generalize decide (d.kind=6)=k6
 generalize decide (d.id=[])=a1
 generalize decide (d.field=[])=a2
 generalize decide (d.value=[])=a3
 generalize decide (d.frm=0)=a4
 generalize decide (d.upto=0)=a5
 generalize decide (d.osite=[])=a6
 generalize decide (d.ono=0)=a7
 repeat' (with_reducible apply And.intro)
 all_goals first|(intro h;rw [h];rfl)|(intro h;exact ⟨h,fun h2=>by rw [h,h2];rfl⟩)|(cases k3<;>cases k6<;>simp;done)
end
set_option maxRecDepth 100000 in
set_option maxHeartbeats 4000000 in
theorem qjq (d:Dd) (h:DdB d):PCall Tryz.prog E0 79 [.agg (ddC d)] (·=int (qjJ d)):=by
 have b2:=h.b2
 have b3:=h.b3
 have b4:=h.b4
 refine qaf mixed Tryz.func79 qhN ?_
 simp only [a0,l0,OS.ao,zl,zt,zk,zp,zo,zq,zu,zd,zj,zm,qeI,qew,ZZ,WW,Ze,reduceCtorEq,zd,ze,za,zf,zb]
 simp only [ddC,ZZ,WW,Ze,reduceCtorEq,zd,ze,za,zf,zb]
 refine use1 (qqS d) rfl (.inl rfl) ?_
 simp only [ZZ,WW,Ze,reduceCtorEq,zd,ze,za,zf,zb]
 unfold qjJ
 refine br ?_ ?_
 ·intro hu
  simp only [ZZ,WW,Ze,reduceCtorEq,zd,ze,za,zf,zb]
  rw [if_pos hu]
 intro hu
 rw [if_neg (by rw [hu];simp)]
 simp only [ZZ,WW,Ze,reduceCtorEq,zd,ze,za,zf,zb]
 by_cases hk:d.kind=3∨d.kind=6
 ·have hb:qdA d=true:=by simpa [qdA] using hk
  rw [if_pos hb]
  refine br ?_ ?_
  ·intro h3
   simp only [ZZ,WW,Ze,reduceCtorEq,zd,ze,za,zf,zb,h3]
   refine qai zE_ ?_
   simp only [ZZ,WW,Ze,reduceCtorEq,zd,ze,za,zf,zb,h3]
  ·intro h3
   have h6:d.kind=6:=hk.resolve_left (of_decide_eq_false h3)
   have e6:decide (d.kind=6)=true:=by simp [h6]
   simp only [ZZ,WW,Ze,reduceCtorEq,zd,ze,za,zf,zb,e6]
   refine qai zE_ ?_
   simp only [ZZ,WW,Ze,reduceCtorEq,zd,ze,za,zf,zb]
 have hb:qdA d=false:=by
  simp only [qdA,Bool.or_eq_false_iff,decide_eq_false_iff_not]
  exact ⟨fun e=>hk (.inl e),fun e=>hk (.inr e)⟩
 rw [if_neg (by rw [hb];simp)]
 have e3:decide (d.kind=3)=false:=by simpa using fun e=>hk (.inl e)
 have e6:decide (d.kind=6)=false:=by simpa using fun e=>hk (.inr e)
 simp only [ZZ,WW,Ze,reduceCtorEq,zd,ze,za,zf,zb,e3,e6]
 refine qai zE_ ?_
 simp only [ZZ,WW,Ze,reduceCtorEq,zd,ze,za,zf,zb]
 refine qjY (fun fr L=>fr=[oo,.adr (.l 1) 0,.p (int 0),.p (.bool (qed d)),oo,oo,oo,oo,oo,oo,oo,oo,oo,oo,oo,oo,oo,oo,oo,oo,oo,oo,oo,oo,oo,oo,oo,oo,oo,oo,oo,oo,oo,oo,oo,oo,oo,oo,oo,oo,oo,oo,oo,oo,oo,oo,oo,oo,oo,oo,oo,oo,oo,oo,oo,oo,oo,oo,oo,oo,oo,oo,oo,oo,oo,oo,oo,oo,oo,oo,oo,oo,oo,oo,oo,oo,oo,oo,oo,oo]∧L=[(.l 1,.box [.p (.str d.site),.p (int d.no),.p (int d.tm),.p (int d.kind),.p (.str d.id),.p (.str d.field),.p (.str d.value),.p (int d.frm),.p (int d.upto),.p (.str d.osite),.p (int d.ono),.p (.str d.sum)] tDd)]) ?_ ?_ ?_
 ·intro h1
  have h1':d.kind=1:=of_decide_eq_true h1
  have hr:qed d=(decide ((d.value.length:Int)≤60) && qcD d.value):=by rw [qed,if_pos h1']
  simp only [ZZ,WW,Ze,reduceCtorEq,zd,ze,za,zf,zb]
  refine useG (fun _=>qqc d.value (by omega)) rfl (.inl rfl) ?_
  simp only [ZZ,WW,Ze,reduceCtorEq,zd,ze,za,zf,zb]
  ((repeat' (with_reducible apply And.intro))<;>try ((exact sc_)))
  exact qao _ _ (by rw [hr];(simp only [ZZ,WW,Ze,reduceCtorEq,zd,ze,za,zf,zb];try trivial)) zE_ ⟨rfl,rfl⟩
 ·intro h1
  have h1':¬ d.kind=1:=of_decide_eq_false h1
  simp only [ZZ,WW,Ze,reduceCtorEq,zd,ze,za,zf,zb]
  refine br ?_ ?_
  ·intro h2
   have h2':d.kind=2:=of_decide_eq_true h2
   have hr:qed d=keyB d.value:=by rw [qed,if_neg h1',if_pos h2']
   simp only [ZZ,WW,Ze,reduceCtorEq,zd,ze,za,zf,zb]
   refine use1 (qn8 d.value (by omega)) rfl (.inl rfl) ?_
   simp only [ZZ,WW,Ze,reduceCtorEq,zd,ze,za,zf,zb]
   exact qao _ _ (by rw [hr];(simp only [ZZ,WW,Ze,reduceCtorEq,zd,ze,za,zf,zb];try trivial)) zE_ ⟨rfl,rfl⟩
  intro h2
  have h2':¬ d.kind=2:=of_decide_eq_false h2
  simp only [ZZ,WW,Ze,reduceCtorEq,zd,ze,za,zf,zb]
  refine br ?_ ?_
  ·intro h5
   have h5':d.kind=5:=of_decide_eq_true h5
   have hr:qed d=(inE d.value.length 1 200 && qcD d.value):=by rw [qed,if_neg h1',if_neg h2',if_pos h5']
   simp only [ZZ,WW,Ze,reduceCtorEq,zd,ze,za,zf,zb]
   refine use1 (qqO _ 1 200) rfl (.inl rfl) ?_
   simp only [ZZ,WW,Ze,reduceCtorEq,zd,ze,za,zf,zb]
   refine useG (fun _=>qqc d.value (by omega)) rfl (.inl rfl) ?_
   simp only [ZZ,WW,Ze,reduceCtorEq,zd,ze,za,zf,zb]
   ((repeat' (with_reducible apply And.intro))<;>try ((exact sc_)))
   exact qao _ _ (by rw [hr];(simp only [ZZ,WW,Ze,reduceCtorEq,zd,ze,za,zf,zb];try trivial)) zE_ ⟨rfl,rfl⟩
  intro h5
  have h5':¬ d.kind=5:=of_decide_eq_false h5
  simp only [ZZ,WW,Ze,reduceCtorEq,zd,ze,za,zf,zb]
  refine br ?_ ?_
  ·intro h4
   have h4':d.kind=4:=of_decide_eq_true h4
   have hr:qed d=((decide (0≤d.frm) && decide (d.frm < d.upto)) && decide (d.upto≤20000)):=by rw [qed,if_neg h1',if_neg h2',if_neg h5',if_pos h4']
   simp only [ZZ,WW,Ze,reduceCtorEq,zd,ze,za,zf,zb]
   ((repeat' (with_reducible apply And.intro))<;>try ((exact sc_)))
   exact qao _ _ (by rw [hr];(simp only [ZZ,WW,Ze,reduceCtorEq,zd,ze,za,zf,zb];try trivial)) zE_ ⟨rfl,rfl⟩
  ·intro h4
   have h4':¬ d.kind=4:=of_decide_eq_false h4
   have hr:qed d=true:=by rw [qed,if_neg h1',if_neg h2',if_neg h5',if_neg h4']
   simp only [ZZ,WW,Ze,reduceCtorEq,zd,ze,za,zf,zb]
   exact qao _ _ (by rw [hr];(simp only [ZZ,WW,Ze,reduceCtorEq,zd,ze,za,zf,zb];try trivial)) zE_ ⟨rfl,rfl⟩
 ·rintro fr L ⟨rfl,rfl⟩
  simp only [ZZ,WW,Ze,reduceCtorEq,zd,ze,za,zf,zb]
  refine use1 (qn8 d.id (by omega)) rfl (.inl rfl) ?_
  simp only [ZZ,WW,Ze,reduceCtorEq,zd,ze,za,zf,zb]
  refine useG (fun _=>qn8 d.field (by omega)) rfl (.inl rfl) ?_
  simp only [ZZ,WW,Ze,reduceCtorEq,zd,ze,za,zf,zb]
  refine ⟨fun h=>⟨h,fun h2=>by rw [h,h2];rfl⟩,fun h=>by rw [h];rfl,?_⟩
  refine use1 (qdB (!keyB d.id || decide (d.kind=1) && !keyB d.field) 5) rfl (.inl rfl) ?_
  simp only [ZZ,WW,Ze,reduceCtorEq,zd,ze,za,zf,zb]
  refine use1 (qdB (!qed d) 3) rfl (.inl rfl) ?_
  simp only [ZZ,WW,Ze,reduceCtorEq,zd,ze,za,zf,zb]
  refine use1 (qj2 [qbR (!keyB d.id || decide (d.kind=1) && !keyB d.field) 5,qbR (!qed d) 3] (by simp)) rfl (.inl rfl) ?_
  simp only [ZZ,WW,Ze,reduceCtorEq,zd,ze,za,zf,zb]
  cases (!keyB d.id || decide (d.kind=1) && !keyB d.field)<;>cases qed d<;>simp [qbR,qbw]
def refF (d:Dd):Int:=
 if inE d.tm 0 5761439=false then 1 else if (decide (d.kind < 1) || decide (6 < d.kind))=true then 4
 else if qhG d=true then 3
 else if ((!qdA d && !keyB d.id) || (decide (d.kind=1) && !keyB d.field))=true then 5
 else if (((decide (d.kind=1) && (!qcD d.value || decide (60 < (d.value.length:Int)))) || (decide (d.kind=2) && !keyB d.value)) || (decide (d.kind=5) && ((!qcD d.value || decide ((d.value.length:Int) < 1)) || decide (200 < (d.value.length:Int)))))=true then 3
 else if (decide (d.kind=4) && ((decide (d.frm < 0) || decide (d.upto≤d.frm)) || decide (20000 < d.upto)))=true then 3 else 0
theorem qrg (d:Dd):refF d=oneF d:=by
 unfold refF oneF
 by_cases h0:inE d.tm 0 5761439=false
 ·rw [if_pos h0,if_pos h0]
 rw [if_neg h0,if_neg h0]
 by_cases hr:1≤d.kind∧d.kind≤6
 ·have e1:(decide (d.kind < 1) || decide (6 < d.kind))=false:=by simp;omega
  have e2:inE d.kind 1 6=true:=by simp [inE,hr.1,hr.2]
  rw [e1,e2]
  simp only [z7,if_false,Bool.true_eq_false]
  unfold qjJ
  by_cases hu:qhG d=true
  ·rw [if_pos hu,if_pos hu]
  rw [if_neg hu,if_neg hu]
  obtain ⟨k,hk⟩:∃ k,d.kind=k:=⟨_,rfl⟩
  have hk6:k=1∨k=2∨k=3∨k=4∨k=5∨k=6:=by omega
  unfold qed qdA inE
  rcases hk6 with rfl|rfl|rfl|rfl|rfl|rfl
  all_goals
   simp only [hk]
   simp (config:={ decide:=true }) only [Bool.false_and,Bool.false_or,yk,Bool.or_false,Bool.not_false,Bool.not_true,if_true,if_false,z7,decide_true,decide_false]
  all_goals (cases keyB d.id<;>cases keyB d.field<;>cases qcD d.value<;>cases keyB d.value<;>simp<;>(try split)<;>(try split)<;>first|rfl|omega)
 ·have e1:(decide (d.kind < 1) || decide (6 < d.kind))=true:=by simp;omega
  have e2:inE d.kind 1 6=false:=by
   simp only [inE,Bool.and_eq_false_iff,decide_eq_false_iff_not]
   omega
  rw [e1,e2]
  simp
set_option maxRecDepth 100000 in
set_option maxHeartbeats 4000000 in
theorem qju (d:Dd) (h:DdB d):PCall Tryz.prog E0 26 [.agg (ddC d)] (·=int (refF d)):=by
 have b2:=h.b2
 have b3:=h.b3
 have b4:=h.b4
 refine qaf mixed Tryz.func26 qgr ?_
 simp only [a0,l0,OS.ao,zl,zt,zk,zp,zo,zq,zu,zd,zj,zm,qdw,qdp,ZZ,WW,Ze,reduceCtorEq,zd,ze,za,zf,zb]
 simp only [ddC,ZZ,WW,Ze,reduceCtorEq,zd,ze,za,zf,zb]
 refine use1 (qlF d.tm) rfl (.inl rfl) ?_
 simp only [ZZ,WW,Ze,reduceCtorEq,zd,ze,za,zf,zb]
 unfold refF
 refine br ?_ ?_
 ·intro hm
  have hm:inE d.tm 0 5761439=false:=by simpa using hm
  simp only [ZZ,WW,Ze,reduceCtorEq,zd,ze,za,zf,zb]
  rw [if_pos hm]
 intro hm
 have hm:inE d.tm 0 5761439=true:=by simpa using hm
 rw [if_neg (by rw [hm];simp)]
 simp only [ZZ,WW,Ze,reduceCtorEq,zd,ze,za,zf,zb]
 ((repeat' (with_reducible apply And.intro))<;>try ((exact sc_)))
 refine br ?_ ?_
 ·intro hk
  simp only [ZZ,WW,Ze,reduceCtorEq,zd,ze,za,zf,zb]
  rw [if_pos hk]
 intro hk
 rw [if_neg (by rw [hk];simp)]
 simp only [ZZ,WW,Ze,reduceCtorEq,zd,ze,za,zf,zb]
 repeat first|refine ⟨fun h=>by rw [h];rfl,?_⟩|refine ⟨fun h=>⟨h,fun h2=>by rw [h,h2];rfl⟩,?_⟩
 refine br ?_ ?_
 ·intro hu
  have hu:qhG d=true:=hu
  simp only [ZZ,WW,Ze,reduceCtorEq,zd,ze,za,zf,zb]
  rw [if_pos hu]
 intro hu
 have hu:qhG d=false:=hu
 rw [if_neg (by rw [hu];simp)]
 have hb:(decide (d.kind=3) || decide (d.kind=6))=qdA d:=rfl
 simp only [ZZ,WW,Ze,reduceCtorEq,zd,ze,za,zf,zb,hb]
 refine useG (fun _=>qiU d.id (by omega)) rfl (.inl rfl) ?_
 simp only [ZZ,WW,Ze,reduceCtorEq,zd,ze,za,zf,zb]
 refine qeU (fun fr L=>fr=[oo,.adr (.l 1) 0,.p (int 0),.p (.bool (qdA d)),oo,oo,oo,oo,oo,oo,oo,oo,oo,oo,oo,oo,oo,oo,oo,oo,oo,oo,oo,oo,oo,oo,oo,oo,oo,oo,oo,oo,oo,oo,oo,oo,oo,oo,oo,oo,oo,oo,oo,oo,oo,oo,oo,oo,oo,oo,oo,oo,oo,oo,oo,oo,oo,oo,oo,oo,oo,oo,oo,oo,oo,oo,oo,oo,oo,oo,oo,oo,oo,oo,oo,oo,oo,oo,oo,oo,oo,oo,oo,oo,oo,oo,oo,.p (.bool ((!qdA d && !keyB d.id) || (decide (d.kind=1) && !keyB d.field))),oo,oo,oo,oo,oo,oo,oo,oo,oo,oo,oo,oo,oo,oo,oo,oo,oo,oo,oo,oo,oo,oo,oo,oo,oo,oo,oo,oo,oo,oo,oo,oo,oo,oo,oo,oo,oo,oo,oo,oo,oo,oo,oo,oo,oo,oo,oo,oo,oo,oo,oo,oo,oo,oo,oo,oo,oo,oo,oo,oo,oo,oo,oo,oo,oo,oo,oo,oo,oo,oo,oo,oo,oo,oo,oo,oo,oo,oo,oo,oo,oo,oo,oo,oo,oo,oo,oo,oo]∧L=[(.l 1,.box [.p (.str d.site),.p (int d.no),.p (int d.tm),.p (int d.kind),.p (.str d.id),.p (.str d.field),.p (.str d.value),.p (int d.frm),.p (int d.upto),.p (.str d.osite),.p (int d.ono),.p (.str d.sum)] tDd)]) ?_ ?_ ?_
 ·intro h1
  have e:((!qdA d && !keyB d.id) || (decide (d.kind=1) && !keyB d.field))=(!qdA d && !keyB d.id):=by rw [h1];rfl
  simp only [ZZ,WW,Ze,reduceCtorEq,zd,ze,za,zf,zb]
  exact qao _ _ (by rw [e];(simp only [ZZ,WW,Ze,reduceCtorEq,zd,ze,za,zf,zb];try trivial)) zE_ ⟨rfl,rfl⟩
 ·intro h1
  have e:((!qdA d && !keyB d.id) || (decide (d.kind=1) && !keyB d.field))=(decide (d.kind=1) && !keyB d.field):=by rw [h1];rfl
  simp only [ZZ,WW,Ze,reduceCtorEq,zd,ze,za,zf,zb]
  refine useG (fun _=>qiU d.field (by omega)) rfl (.inl rfl) ?_
  simp only [ZZ,WW,Ze,reduceCtorEq,zd,ze,za,zf,zb]
  exact qao _ _ (by rw [e];(simp only [ZZ,WW,Ze,reduceCtorEq,zd,ze,za,zf,zb];try trivial)) zE_ ⟨rfl,rfl⟩
 rintro fr L ⟨rfl,rfl⟩
 simp only [ZZ,WW,Ze,reduceCtorEq,zd,ze,za,zf,zb]
 refine br ?_ ?_
 ·intro h2
  simp only [ZZ,WW,Ze,reduceCtorEq,zd,ze,za,zf,zb]
  rw [if_pos h2]
 intro h2
 rw [if_neg (by rw [h2];simp)]
 simp only [ZZ,WW,Ze,reduceCtorEq,zd,ze,za,zf,zb]
 refine useG (fun _=>qlD d.value (by omega)) rfl (.inl rfl) ?_
 simp only [ZZ,WW,Ze,reduceCtorEq,zd,ze,za,zf,zb]
 repeat first|refine ⟨fun h=>by rw [h];rfl,?_⟩|refine ⟨fun h=>⟨h,fun h2=>by rw [h,h2];rfl⟩,?_⟩
 refine qeU (fun fr L=>fr=[oo,.adr (.l 1) 0,.p (int 0),oo,oo,oo,oo,oo,oo,oo,oo,oo,oo,oo,oo,oo,oo,oo,oo,oo,oo,oo,oo,oo,oo,oo,oo,oo,oo,oo,oo,oo,oo,oo,oo,oo,oo,oo,oo,oo,oo,oo,oo,oo,oo,oo,oo,oo,oo,oo,oo,oo,oo,oo,oo,oo,oo,oo,oo,oo,oo,oo,oo,oo,oo,oo,oo,oo,oo,oo,oo,oo,oo,oo,oo,oo,oo,oo,oo,oo,oo,oo,oo,oo,oo,oo,oo,oo,oo,oo,oo,oo,oo,oo,oo,oo,oo,oo,oo,oo,oo,oo,oo,oo,oo,.p (.bool (((decide (d.kind=1) && (!qcD d.value || decide (60 < (d.value.length:Int)))) || (decide (d.kind=2) && !keyB d.value)) || (decide (d.kind=5) && ((!qcD d.value || decide ((d.value.length:Int) < 1)) || decide (200 < (d.value.length:Int)))))),oo,oo,oo,oo,oo,oo,oo,oo,oo,oo,oo,oo,oo,oo,oo,oo,oo,oo,oo,oo,oo,oo,oo,oo,oo,oo,oo,oo,oo,oo,oo,oo,oo,oo,oo,oo,oo,oo,oo,oo,oo,oo,oo,oo,oo,oo,oo,oo,oo,oo,oo,oo,oo,oo,oo,oo,oo,oo,oo,oo,oo,oo,oo,oo,oo,oo,oo,oo,oo,oo]∧L=[(.l 1,.box [.p (.str d.site),.p (int d.no),.p (int d.tm),.p (int d.kind),.p (.str d.id),.p (.str d.field),.p (.str d.value),.p (int d.frm),.p (int d.upto),.p (.str d.osite),.p (int d.ono),.p (.str d.sum)] tDd)]) ?_ ?_ ?_
 ·intro h3
  have e:(((decide (d.kind=1) && (!qcD d.value || decide (60 < (d.value.length:Int)))) || (decide (d.kind=2) && !keyB d.value)) || (decide (d.kind=5) && ((!qcD d.value || decide ((d.value.length:Int) < 1)) || decide (200 < (d.value.length:Int)))))=(decide (d.kind=1) && (!qcD d.value || decide (60 < (d.value.length:Int)))):=by rw [h3];rfl
  simp only [ZZ,WW,Ze,reduceCtorEq,zd,ze,za,zf,zb]
  exact qao _ _ (by rw [e];(simp only [ZZ,WW,Ze,reduceCtorEq,zd,ze,za,zf,zb];try trivial)) zE_ ⟨rfl,rfl⟩
 ·intro h3
  simp only [ZZ,WW,Ze,reduceCtorEq,zd,ze,za,zf,zb]
  refine useG (fun _=>qiU d.value (by omega)) rfl (.inl rfl) ?_
  simp only [ZZ,WW,Ze,reduceCtorEq,zd,ze,za,zf,zb]
  refine br ?_ ?_
  ·intro h4
   have e:(((decide (d.kind=1) && (!qcD d.value || decide (60 < (d.value.length:Int)))) || (decide (d.kind=2) && !keyB d.value)) || (decide (d.kind=5) && ((!qcD d.value || decide ((d.value.length:Int) < 1)) || decide (200 < (d.value.length:Int)))))=(decide (d.kind=2) && !keyB d.value):=by rw [h3,h4];rfl
   simp only [ZZ,WW,Ze,reduceCtorEq,zd,ze,za,zf,zb]
   exact qao _ _ (by rw [e];(simp only [ZZ,WW,Ze,reduceCtorEq,zd,ze,za,zf,zb];try trivial)) zE_ ⟨rfl,rfl⟩
  ·intro h4
   have e:(((decide (d.kind=1) && (!qcD d.value || decide (60 < (d.value.length:Int)))) || (decide (d.kind=2) && !keyB d.value)) || (decide (d.kind=5) && ((!qcD d.value || decide ((d.value.length:Int) < 1)) || decide (200 < (d.value.length:Int)))))=(decide (d.kind=5) && ((!qcD d.value || decide ((d.value.length:Int) < 1)) || decide (200 < (d.value.length:Int)))):=by rw [h3,h4];rfl
   simp only [ZZ,WW,Ze,reduceCtorEq,zd,ze,za,zf,zb]
   refine useG (fun _=>qlD d.value (by omega)) rfl (.inl rfl) ?_
   simp only [ZZ,WW,Ze,reduceCtorEq,zd,ze,za,zf,zb]
   repeat first|refine ⟨fun h=>by rw [h];rfl,?_⟩|refine ⟨fun h=>⟨h,fun h2=>by rw [h,h2];rfl⟩,?_⟩
   exact qao _ _ (by rw [e];(simp only [ZZ,WW,Ze,reduceCtorEq,zd,ze,za,zf,zb];try trivial)) zE_ ⟨rfl,rfl⟩
 rintro fr L ⟨rfl,rfl⟩
 simp only [ZZ,WW,Ze,reduceCtorEq,zd,ze,za,zf,zb]
 refine br ?_ ?_
 ·intro h5
  simp only [ZZ,WW,Ze,reduceCtorEq,zd,ze,za,zf,zb]
  rw [if_pos h5]
 intro h5
 rw [if_neg (by rw [h5];simp)]
 simp only [ZZ,WW,Ze,reduceCtorEq,zd,ze,za,zf,zb]
 refine ⟨fun h=>⟨h,fun h2=>by rw [h,h2];rfl⟩,fun h=>⟨h,fun h2=>by rw [h,h2];rfl⟩,?_⟩
 refine br ?_ ?_
 ·intro h6
  simp only [ZZ,WW,Ze,reduceCtorEq,zd,ze,za,zf,zb]
  rw [if_pos h6]
 ·intro h6
  simp only [ZZ,WW,Ze,reduceCtorEq,zd,ze,za,zf,zb]
  rw [if_neg (by rw [h6];simp)]
def qcb:IC:=(.seq (.reg [qO 97 (.bin .lss (.t 96) (.t 95))]) (.seq (.cond (.t 97) .skip (.exit 3)) (.seq (.block 4 (.seq (.reg [qM 98 96,qO 99 (.ixa 12 (.t 94) (.t 96)),qO 100 (.ld 12 true (.t 99)),qO 10 (.alc 44 [.str [],.int .i64 0,.int .i64 0,.int .i64 0,.str [],.str [],.str [],.int .i64 0,.int .i64 0,.str [],.int .i64 0,.str []]),qM 9 98,⟨none,.st 12 (.t 10) (.t 100),none⟩]) (.seq (.seq (.reg [qO 101 (.fla 3 (.t 10)),qO 102 (.ld 1 false (.t 101)),qO 103 (.bin .neq (.t 102) (.c (.int .i64 3))),qM 104 103,⟨some 105,.fla 3 (.t 10),(some (104,true))⟩,⟨some 106,.ld 1 false (.t 105),(some (104,true))⟩,⟨some 107,.bin .neq (.t 106) (.c (.int .i64 6)),(some (104,true))⟩,qO 108 (.pick (.t 104) (.t 107) (.c (.bool false)))]) (.cond (.t 108) (.exit 4) .skip)) (.seq (.reg [qM 110 0,qO 111 (.fla 9 (.t 10)),qO 112 (.ld 2 true (.t 111)),qO 113 (.call 28 [.t 110,.t 112]),qM 109 113,qO 114 (.ext 0 (.t 109)),qO 115 (.ext 1 (.t 109)),qO 11 (.alc 44 [.str [],.int .i64 0,.int .i64 0,.int .i64 0,.str [],.str [],.str [],.int .i64 0,.int .i64 0,.str [],.int .i64 0,.str []]),⟨none,.st 12 (.t 11) (.t 114),none⟩,qM 12 115]) (.seq (.seq (.reg [qM 116 12,qO 117 (.not (.t 116))]) (.cond (.t 117) (.seq (.reg [qM 118 9,qM 2 118,qO 3 (.mov (.c (.int .i64 8)))]) .ret) .skip)) (.seq (.reg [qO 119 (.ld 12 true (.t 10)),qO 120 (.ld 12 true (.t 11)),qO 121 (.call 29 [.t 119,.t 120]),qO 122 (.not (.t 121))]) (.cond (.t 122) (.seq (.reg [qM 123 9,qM 2 123,qO 3 (.mov (.c (.int .i64 16)))]) .ret) .skip))))))) (.cut (.reg [qO 124 (.bin .add (.t 96) (.c (.int .i64 1))),qM 96 124])))))
def qcc:IC:=(.seq (.reg [qO 19 (.bin .lss (.t 18) (.t 17))]) (.seq (.cond (.t 19) .skip (.exit 0)) (.seq (.block 1 (.seq (.reg [qM 20 18,qO 21 (.ixa 12 (.t 16) (.t 18)),qO 22 (.ld 12 true (.t 21)),qO 5 (.alc 44 [.str [],.int .i64 0,.int .i64 0,.int .i64 0,.str [],.str [],.str [],.int .i64 0,.int .i64 0,.str [],.int .i64 0,.str []]),qM 4 20,⟨none,.st 12 (.t 5) (.t 22),none⟩]) (.seq (.reg [qO 6 (.mov (.c (.int .i64 1))),qO 7 (.mov (.c (.str [])))]) (.seq (.seq (.drg [qM 23 4,qO 24 (.bin .gtr (.t 23) (.c (.int .i64 0))),qM 25 24,⟨some 26,.mov (.t 0),(some (25,true))⟩,⟨some 27,.mov (.t 4),(some (25,true))⟩,⟨some 28,.bin .sub (.t 27) (.c (.int .i64 1)),(some (25,true))⟩,⟨some 29,.ixa 12 (.t 26) (.t 28),(some (25,true))⟩,⟨some 30,.fla 0 (.t 29),(some (25,true))⟩,⟨some 31,.fla 0 (.t 30),(some (25,true))⟩,⟨some 32,.ld 1 false (.t 31),(some (25,true))⟩,⟨some 33,.fla 0 (.t 5),(some (25,true))⟩,⟨some 34,.fla 0 (.t 33),(some (25,true))⟩,⟨some 35,.ld 1 false (.t 34),(some (25,true))⟩,⟨some 36,.bin .eql (.t 32) (.t 35),(some (25,true))⟩,qO 37 (.pick (.t 25) (.t 36) (.c (.bool false)))]) (.cond (.t 37) (.drg [qM 38 0,qM 39 4,qO 40 (.bin .sub (.t 39) (.c (.int .i64 1))),qO 41 (.ixa 12 (.t 38) (.t 40)),qO 42 (.fla 0 (.t 41)),qO 43 (.fla 1 (.t 42)),qO 44 (.ld 1 false (.t 43)),qO 45 (.bin .add (.t 44) (.c (.int .i64 1))),qM 46 0,qM 47 4,qO 48 (.bin .sub (.t 47) (.c (.int .i64 1))),qO 49 (.ixa 12 (.t 46) (.t 48)),qO 50 (.fla 11 (.t 49)),qO 51 (.ld 1 false (.t 50)),qM 6 45,qM 7 51]) .skip)) (.cut (.seq (.reg [qO 8 (.mov (.c (.int .i64 0)))]) (.seq (.block 2 (.seq (.reg [qO 65 (.fla 0 (.t 5)),qO 66 (.fla 0 (.t 65)),qO 67 (.ld 1 false (.t 66)),qO 68 (.call 24 [.t 67]),qO 69 (.not (.t 68)),qM 64 69]) (.cond (.t 64) (.reg [qO 8 (.mov (.c (.int .i64 5)))]) (.seq (.drg [qM 71 4,qO 72 (.bin .gtr (.t 71) (.c (.int .i64 0))),qM 73 72,⟨some 74,.mov (.t 0),(some (73,true))⟩,⟨some 75,.mov (.t 4),(some (73,true))⟩,⟨some 76,.bin .sub (.t 75) (.c (.int .i64 1)),(some (73,true))⟩,⟨some 77,.ixa 12 (.t 74) (.t 76),(some (73,true))⟩,⟨some 78,.ld 12 true (.t 77),(some (73,true))⟩,⟨some 79,.ld 12 true (.t 5),(some (73,true))⟩,⟨some 80,.pcall 0 25 [.t 78,.t 79],(some (73,true))⟩,⟨some 81,.bin .geq (.t 80) (.c (.int .i64 0)),(some (73,true))⟩,qO 82 (.pick (.t 73) (.t 81) (.c (.bool false))),qM 70 82]) (.cond (.t 70) (.reg [qO 8 (.mov (.c (.int .i64 7)))]) (.seq (.reg [qO 84 (.fla 0 (.t 5)),qO 85 (.fla 1 (.t 84)),qO 86 (.ld 1 false (.t 85)),qM 87 6,qO 88 (.bin .neq (.t 86) (.t 87)),qM 83 88]) (.cond (.t 83) (.reg [qO 8 (.mov (.c (.int .i64 1)))]) (.seq (.reg [qO 52 (.ld 12 true (.t 5)),qO 53 (.call 26 [.t 52]),qM 8 53]) (.seq (.drg [qM 54 8,qO 55 (.bin .eql (.t 54) (.c (.int .i64 0))),qM 56 55,⟨some 57,.fla 11 (.t 5),(some (56,true))⟩,⟨some 58,.ld 1 false (.t 57),(some (56,true))⟩,⟨some 59,.mov (.t 7),(some (56,true))⟩,⟨some 60,.ld 12 true (.t 5),(some (56,true))⟩,⟨some 61,.pcall 0 27 [.t 59,.t 60],(some (56,true))⟩,⟨some 62,.bin .neq (.t 58) (.t 61),(some (56,true))⟩,qO 63 (.pick (.t 56) (.t 62) (.c (.bool false)))]) (.cond (.t 63) (.reg [qO 8 (.mov (.c (.int .i64 15)))]) .skip)))))))))) (.cut (.seq (.reg [qM 89 8,qO 90 (.bin .neq (.t 89) (.c (.int .i64 0)))]) (.cond (.t 90) (.seq (.reg [qM 91 4,qM 92 8,qM 2 91,qM 3 92]) .ret) .skip)))))))))) (.reg [qO 93 (.bin .add (.t 18) (.c (.int .i64 1))),qM 18 93]))))
def qc7:IC:=(.seq (.reg [qO 2 (.mov (.c (.int .i64 0))),qO 3 (.mov (.c (.int .i64 0)))]) (.seq (.seq (.reg [qM 13 0,qO 14 (.len (.t 13)),qO 15 (.bin .gtr (.t 14) (.c (.int .i64 2000)))]) (.cond (.t 15) (.seq (.reg [qO 2 (.mov (.c (.int .i64 0))),qO 3 (.mov (.c (.int .i64 2)))]) .ret) .skip)) (.seq (.seq (.reg [qM 16 0,qO 17 (.len (.t 16)),qO 18 (.mov (.c (.int .i64 0)))]) (.block 0 (.loop qcc))) (.seq (.seq (.reg [qM 94 0,qO 95 (.len (.t 94)),qO 96 (.mov (.c (.int .i64 0)))]) (.block 3 (.loop qcb))) (.seq (.reg [qO 2 (.mov (.c (.int .i64 0))),qO 3 (.mov (.c (.int .i64 0)))]) .ret)))))
def qcV:List IRes:=[.t 2,.t 3]
theorem qfZ:chkF Tryz.prog Tryz.f6 qc7 qcV 125=true:=by kernel_rfl
def qeM:IC:=(.seq (.reg [qO 3 (.box 40 (.t 1)),qO 4 (.alc 44 [.str [],.int .i64 0,.int .i64 0,.int .i64 0,.str [],.str [],.str [],.int .i64 0,.int .i64 0,.str [],.int .i64 0,.str []]),qO 5 (.mov (.c (.bool false)))]) (.seq (.reg [qM 7 0,qO 8 (.mkf 66 [.t 3]),qO 9 (.call 65 [.t 7,.t 8]),qM 6 9]) (.seq (.seq (.reg [qM 10 6,qO 11 (.bin .lss (.t 10) (.c (.int .i64 0)))]) (.cond (.t 11) (.seq (.reg [qO 12 (.bld [.str [],.int .i64 0,.int .i64 0,.int .i64 0,.str [],.str [],.str [],.int .i64 0,.int .i64 0,.str [],.int .i64 0,.str []] []),⟨none,.st 12 (.t 4) (.t 12),none⟩,qO 5 (.mov (.c (.bool false)))]) .ret) .skip)) (.seq (.reg [qM 13 0,qM 14 6,qO 15 (.ixa 12 (.t 13) (.t 14)),qO 16 (.ld 12 true (.t 15)),⟨none,.st 12 (.t 4) (.t 16),none⟩,qO 5 (.mov (.c (.bool true)))]) .ret))))
def qez:List IRes:=[.c 4 12 true,.t 5]
theorem qhQ:chkF Tryz.prog Tryz.f28 qeM qez 17=true:=by kernel_rfl
def qdR:IC:=(.seq (.reg [qO 2 (.box 44 (.t 0)),qO 3 (.mov (.c (.bool false)))]) (.seq (.reg [qO 4 (.fla 0 (.t 2)),qO 5 (.ld 2 true (.t 4)),qO 6 (.ld 2 true (.t 1)),qO 7 (.eqa false [.s,.i] (.t 5) (.t 6)),qM 3 7]) .ret))
def qdJ:List IRes:=[.t 3]
theorem qgX:chkF Tryz.prog Tryz.f66 qdR qdJ 8=true:=by kernel_rfl
def qdu:IC:=(.seq (.reg [qO 2 (.box 44 (.t 0)),qO 3 (.box 44 (.t 1)),qO 4 (.mov (.c (.bool false)))]) (.seq (.seq (.reg [qO 5 (.fla 3 (.t 2)),qO 6 (.ld 1 false (.t 5)),qO 7 (.bin .eql (.t 6) (.c (.int .i64 3)))]) (.cond (.t 7) (.seq (.reg [qO 8 (.fla 3 (.t 3)),qO 9 (.ld 1 false (.t 8)),qO 10 (.bin .eql (.t 9) (.c (.int .i64 2))),qM 11 10,⟨some 12,.fla 3 (.t 3),(some (11,false))⟩,⟨some 13,.ld 1 false (.t 12),(some (11,false))⟩,⟨some 14,.bin .eql (.t 13) (.c (.int .i64 4)),(some (11,false))⟩,qO 15 (.pick (.t 11) (.c (.bool true)) (.t 14)),qM 4 15]) .ret) .skip)) (.seq (.reg [qO 16 (.fla 3 (.t 3)),qO 17 (.ld 1 false (.t 16)),qO 18 (.bin .eql (.t 17) (.c (.int .i64 1))),qM 19 18,⟨some 20,.fla 3 (.t 3),(some (19,false))⟩,⟨some 21,.ld 1 false (.t 20),(some (19,false))⟩,⟨some 22,.bin .eql (.t 21) (.c (.int .i64 5)),(some (19,false))⟩,qO 23 (.pick (.t 19) (.c (.bool true)) (.t 22)),qM 24 23,⟨some 25,.fla 3 (.t 3),(some (24,false))⟩,⟨some 26,.ld 1 false (.t 25),(some (24,false))⟩,⟨some 27,.bin .eql (.t 26) (.c (.int .i64 3)),(some (24,false))⟩,qO 28 (.pick (.t 24) (.c (.bool true)) (.t 27)),qM 29 28,⟨some 30,.fla 0 (.t 3),(some (29,true))⟩,⟨some 31,.fla 0 (.t 30),(some (29,true))⟩,⟨some 32,.ld 1 false (.t 31),(some (29,true))⟩,⟨some 33,.fla 0 (.t 2),(some (29,true))⟩,⟨some 34,.fla 0 (.t 33),(some (29,true))⟩,⟨some 35,.ld 1 false (.t 34),(some (29,true))⟩,⟨some 36,.bin .eql (.t 32) (.t 35),(some (29,true))⟩,qO 37 (.pick (.t 29) (.t 36) (.c (.bool false))),qM 38 37,⟨some 39,.fla 0 (.t 3),(some (38,true))⟩,⟨some 40,.fla 1 (.t 39),(some (38,true))⟩,⟨some 41,.ld 1 false (.t 40),(some (38,true))⟩,⟨some 42,.fla 0 (.t 2),(some (38,true))⟩,⟨some 43,.fla 1 (.t 42),(some (38,true))⟩,⟨some 44,.ld 1 false (.t 43),(some (38,true))⟩,⟨some 45,.bin .lss (.t 41) (.t 44),(some (38,true))⟩,qO 46 (.pick (.t 38) (.t 45) (.c (.bool false))),qM 4 46]) .ret)))
def qdn:List IRes:=[.t 4]
theorem qgp:chkF Tryz.prog Tryz.f29 qdu qdn 47=true:=by kernel_rfl
def qaJ:IC:=(.seq (.reg [qO 9 (.bin .lss (.t 8) (.t 7))]) (.seq (.cond (.t 9) .skip (.exit 0)) (.seq (.block 1 (.seq (.reg [qM 10 8,qM 5 10]) (.seq (.reg [qM 11 1,qM 12 0,qM 13 5,qO 14 (.ixa 12 (.t 12) (.t 13)),qO 15 (.ld 12 true (.t 14)),qO 16 (.callv (.t 11) [.t 15])]) (.cond (.t 16) (.seq (.reg [qM 17 5,qM 4 17]) .ret) .skip)))) (.reg [qO 18 (.bin .add (.t 8) (.c (.int .i64 1))),qM 8 18]))))
def qaQ:IC:=(.seq (.reg [qO 4 (.mov (.c (.int .i64 0)))]) (.seq (.seq (.reg [qM 6 0,qO 7 (.len (.t 6)),qO 8 (.mov (.c (.int .i64 0)))]) (.block 0 (.loop qaJ))) (.seq (.reg [qO 4 (.mov (.c (.int .i64 (-1))))]) .ret)))
def qaP:List IRes:=[.t 4]
theorem qcf:chkF Tryz.prog Tryz.f65 qaQ qaP 19=true:=by kernel_rfl
section
variable {E:Envt}
theorem qiV (l:List Dd) (f:FuncId) (ps:List PV) (q:Dd→Bool) (hl:l.length≤1000000000) (hfn:Unit→fnB Tryz.prog f=true) (hps:Zl [] (ps.map .p)=true) (hf:∀ x∈l,PCall Tryz.prog E f (.agg (ddC x) :: ps) (·=.bool (q x))) (hn:∀ x:Dd,Zbh [] (.p (.agg (ddC x)) :: ps.map .p)=some (.agg (ddC x) :: ps)) (hr:∀ x:Dd,Zbj (.p (.agg (ddC x)) :: ps.map .p)=true):PCall Tryz.prog E 65 [.sl 12 (ddE l),.clo f ps] (·=int (idxF q l)):=by
 refine qaf mixed Tryz.func65 qcf ?_
 simp only [a0,l0,OS.ao,zl,zt,zk,zp,zo,zq,zu,zd,zj,zm,qaQ,qaP,ZZ,WW,Ze,reduceCtorEq,zd,ze,za,zf,zb]
 simp only [ZZ,WW,Ze,reduceCtorEq,zd,ze,za,zf,zb,qac]
 refine qag (fun n fr L=>∃ (k:Nat),k≤l.length∧n=l.length - k∧(∀ x∈l.take k,q x=false)∧fr=[.p (.sl 12 (ddE l)),.p (.clo f ps),oo,oo,oo,oo,oo,.p (int (l.length:Nat)),.p (int (k:Nat)),oo,oo,oo,oo,oo,oo,oo,oo,oo,oo]∧L=[]) (l.length) _ [] (by simp only [qac,ZZ,WW,Ze,reduceCtorEq,zd,ze,za,zf,zb];try trivial) (by (simp only [ZZ,WW,Ze,reduceCtorEq,zd,ze,za,zf,zb];try trivial)) ⟨0,by omega,by omega,by simp,rfl,rfl⟩ ?_
 rintro n fr L ⟨k,hk,rfl,hno,rfl,rfl⟩
 simp only [qaJ,ZZ,WW,Ze,reduceCtorEq,zd,ze,za,zf,zb]
 refine br ?_ ?_
 ·intro h
  have hlt:k < l.length:=by have:=of_decide_eq_true h;omega
  obtain ⟨x,hx⟩:∃ x,l[k]?=some x:=⟨_,zr hlt⟩
  have hg:=qbC hx
  have ht:(ddC x).take 12=ddC x:=rfl
  have hd:(ddC x).drop 0=ddC x:=rfl
  simp only [ZZ,WW,Ze,reduceCtorEq,zd,ze,za,zf,zb,hg,qac,hfn (),ht,hd]
  refine ⟨⟨by omega,by omega⟩,by omega,hps,?_⟩
  refine use1 (hf x (List.mem_of_getElem? hx)) (hn x) (.inl (hr x)) ?_
  simp only [ZZ,WW,Ze,reduceCtorEq,zd,ze,za,zf,zb]
  refine br ?_ ?_
  ·intro hq
   simp only [ZZ,WW,Ze,reduceCtorEq,zd,ze,za,zf,zb]
   rw [qtr hx hq hno]
  ·intro hq
   simp only [ZZ,WW,Ze,reduceCtorEq,zd,ze,za,zf,zb]
   ((repeat' (with_reducible apply And.intro))<;>try ((exact sc_)))
   refine qae (l.length - (k+1)) _ [] (by omega) (by (simp only [ZZ,WW,Ze,reduceCtorEq,zd,ze,za,zf,zb];try trivial)) (by (simp only [ZZ,WW,Ze,reduceCtorEq,zd,ze,za,zf,zb];try trivial)) ⟨k+1,by omega,rfl,by rw [List.take_succ_eq_append_getElem hlt];intro y hy;rcases List.mem_append.1 hy with hy|hy;exact hno y hy;rw [List.mem_singleton] at hy;rw [hy,(List.getElem?_eq_some_iff.1 hx).2];exact hq,rfl,rfl⟩
 ·intro h
  have hge:l.length≤k:=by have:=of_decide_eq_false h;omega
  rw [List.take_of_length_le hge] at hno
  simp only [ZZ,WW,Ze,reduceCtorEq,zd,ze,za,zf,zb]
  rw [qrL hno]
abbrev fDO1:FuncId:=66
theorem qqD (x:Dd) (s:List UInt8) (n:Int):PCall Tryz.prog E fDO1 [.agg (ddC x),.ptr [.str s,int n]] (·=.bool (decide (x.site=s) && decide (x.no=n))):=by
 refine qaf mixed Tryz.func66 qgX ?_
 simp only [a0,l0,OS.ao,zl,zt,zk,zp,zo,zq,zu,zd,zj,zm,qdR,qdJ,ZZ,WW,Ze,reduceCtorEq,zd,ze,za,zf,zb]
 simp only [ddC,ZZ,WW,Ze,reduceCtorEq,zd,ze,za,zf,zb]
theorem qny (q:Dd→Bool) (l:List Dd):(l.find? q=none∧idxF q l=-1)∨∃ (k:Nat) (x:Dd),l.find? q=some x∧l[k]?=some x∧idxF q l=(k:Int)∧k < l.length:=by
 unfold idxF
 cases h:l.findIdx? q with
 |none=>
  refine .inl ⟨?_,rfl⟩
  rw [List.find?_eq_none]
  intro x hx
  rw [List.findIdx?_eq_none_iff] at h
  simpa using h x hx
 |some k=>
  obtain ⟨hk,h1,h2⟩:=List.findIdx?_eq_some_iff_getElem.1 h
  refine .inr ⟨k,l[k],?_,zr hk,rfl,hk⟩
  rw [List.find?_eq_some_iff_getElem]
  refine ⟨h1,k,hk,rfl,fun j hj=>?_⟩
  have:=h2 j hj
  simpa using this
theorem qkw (l:List Dd) (s:List UInt8) (n:Int) (hl:l.length≤1000000000):PCall Tryz.prog E 28 [.sl 12 (ddE l),.agg [.str s,int n]] (·=.tup [.agg (ddC ((qeV l s n).getD dd0)),.bool (qeV l s n).isSome]):=by
 have hfn:fnB Tryz.prog fDO1=true:=by kernel_rfl
 refine qaf mixed Tryz.func28 qhQ ?_
 simp only [a0,l0,OS.ao,zl,zt,zk,zp,zo,zq,zu,zd,zj,zm,qeM,qez,ZZ,WW,Ze,reduceCtorEq,zd,ze,za,zf,zb]
 refine use1 (qiV l fDO1 [.ptr [.str s,int n]] (fun d=>decide (d.site=s) && decide (d.no=n)) hl (fun _=>hfn) rfl (fun x _=>qqD x s n) (fun x=>rfl) (fun x=>rfl)) rfl (.inr rfl) ?_
 unfold qeV
 rcases qny (fun d=>decide (d.site=s) && decide (d.no=n)) l with ⟨h1,h2⟩|⟨k,x,h1,h2,h3,h4⟩
 ·rw [h1,h2]
  have e:decide ((-1:Int) < 0)=true:=rfl
  simp only [ZZ,WW,Ze,reduceCtorEq,zd,ze,za,zf,zb,e]
  rfl
 ·rw [h1,h3]
  have e:decide (((k:Nat):Int) < 0)=false:=by simp
  have hg:=qbC h2
  simp only [ZZ,WW,Ze,reduceCtorEq,zd,ze,za,zf,zb,e,hg,ddC,qac]
  refine ⟨⟨by omega,by omega⟩,by omega,rfl⟩
theorem qnl (d x:Dd):PCall Tryz.prog E 29 [.agg (ddC d),.agg (ddC x)] (·=.bool (qkX d x)):=by
 refine qaf mixed Tryz.func29 qgp ?_
 simp only [a0,l0,OS.ao,zl,zt,zk,zp,zo,zq,zu,zd,zj,zm,qdu,qdn,ZZ,WW,Ze,reduceCtorEq,zd,ze,za,zf,zb]
 simp only [ddC,ZZ,WW,Ze,reduceCtorEq,zd,ze,za,zf,zb]
 unfold qkX
 refine br ?_ ?_
 ·intro h
  simp only [ZZ,WW,Ze,reduceCtorEq,zd,ze,za,zf,zb]
  ((repeat' (with_reducible apply And.intro))<;>try ((exact sc_)))
  rw [if_pos (of_decide_eq_true h)]
 ·intro h
  rw [if_neg (of_decide_eq_false h)]
  simp only [ZZ,WW,Ze,reduceCtorEq,zd,ze,za,zf,zb]
  repeat first|refine ⟨fun h=>by rw [h];rfl,?_⟩|refine ⟨fun h=>⟨h,fun h2=>by rw [h,h2];rfl⟩,?_⟩
  exact fun h=>by rw [h];rfl
end
def gN (k:Nat) (q d:Dd):Int:=if (decide (0 < (k:Int)) && decide (q.site=d.site))=true then q.no+1 else 1
def gS (k:Nat) (q d:Dd):List UInt8:=if (decide (0 < (k:Int)) && decide (q.site=d.site))=true then q.sum else []
def gF (k:Nat) (q d:Dd):Int:=
 if keyB d.site=false then 5 else if (decide (0 < (k:Int)) && decide (0≤stC q.site q.no d.site d.no))=true then 7
 else if ¬ d.no=gN k q d then 1 else if ¬ refF d=0 then refF d else if d.sum=sumF (gS k q d) d then 0 else 15
theorem qzQ {l:List Dd} {k:Nat} {q d:Dd} (hd:l[k]?=some d) (hq:l[k - 1]?=some q):chkI l k=gF k q d:=by
 unfold chkI
 rw [hd]
 show atF (qiq l k) d=_
 unfold gF gN gS atF qiq
 rw [qrg]
 cases k with
 |zero=>simp
 |succ k=>
  have e:decide (0 < ((k+1:Nat):Int))=true:=by simp
  have hq:l[k+1 - 1]?=some q:=hq
  simp only [Nat.succ_ne_zero,if_false,hq,e,yk,decide_eq_true_eq]
set_option maxRecDepth 100000 in
set_option maxHeartbeats 4000000 in
theorem qf7 (l:List Dd) (hB:DdsB l) (hl:l.length≤1000000000):PCall Tryz.prog ED 6 [.sl 12 (ddE l)] (·=.tup [int (ckdF l).1,int (ckdF l).2]):=by
 refine qaf mixed Tryz.func6 qfZ ?_
 simp only [a0,l0,OS.ao,zl,zt,zk,zp,zo,zq,zu,zd,zj,zm,qc7,qcV,ZZ,WW,Ze,reduceCtorEq,zd,ze,za,zf,zb]
 simp only [ZZ,WW,Ze,reduceCtorEq,zd,ze,za,zf,zb,qac]
 unfold ckdF
 refine br ?_ ?_
 ·intro h
  have h:2000 < l.length:=by have:=of_decide_eq_true h;omega
  simp only [ZZ,WW,Ze,reduceCtorEq,zd,ze,za,zf,zb]
  rw [if_pos h]
 intro h
 have h2000:l.length≤2000:=by have:=of_decide_eq_false h;omega
 rw [if_neg (by omega)]
 clear h
 simp only [ZZ,WW,Ze,reduceCtorEq,zd,ze,za,zf,zb,qac]
 refine qag (fun n fr L=>∃ (k:Nat),k≤l.length∧n=l.length - k∧(∀ j,j < k→chkI l j=0)∧fr=[.p (.sl 12 (ddE l)),oo,.p (int 0),.p (int 0),oo,oo,oo,oo,oo,oo,oo,oo,oo,oo,oo,oo,.p (.sl 12 (ddE l)),.p (int (l.length:Nat)),.p (int (k:Nat)),oo,oo,oo,oo,oo,oo,oo,oo,oo,oo,oo,oo,oo,oo,oo,oo,oo,oo,oo,oo,oo,oo,oo,oo,oo,oo,oo,oo,oo,oo,oo,oo,oo,oo,oo,oo,oo,oo,oo,oo,oo,oo,oo,oo,oo,oo,oo,oo,oo,oo,oo,oo,oo,oo,oo,oo,oo,oo,oo,oo,oo,oo,oo,oo,oo,oo,oo,oo,oo,oo,oo,oo,oo,oo,oo,oo,oo,oo,oo,oo,oo,oo,oo,oo,oo,oo,oo,oo,oo,oo,oo,oo,oo,oo,oo,oo,oo,oo,oo,oo,oo,oo,oo,oo,oo,oo]∧L=[]) (l.length) _ [] (by simp only [qac,ZZ,WW,Ze,reduceCtorEq,zd,ze,za,zf,zb];try trivial) (by (simp only [ZZ,WW,Ze,reduceCtorEq,zd,ze,za,zf,zb];try trivial)) ⟨0,by omega,by omega,by omega,rfl,rfl⟩ ?_
 rintro n fr L ⟨k,hk,rfl,hno,rfl,rfl⟩
 simp only [qcc,ZZ,WW,Ze,reduceCtorEq,zd,ze,za,zf,zb]
 refine br ?_ ?_
 ·intro h
  have hlt:k < l.length:=by have:=of_decide_eq_true h;omega
  obtain ⟨d,hd⟩:∃ d,l[k]?=some d:=⟨_,zr hlt⟩
  obtain ⟨q,hq⟩:∃ q,l[k - 1]?=some q:=⟨_,zr (by omega)⟩
  have hg:=qbC hd
  have hgq:=qbC hq
  have hc:=qzQ hd hq
  have dB:=hB.get hd
  have qB:=hB.get hq
  have b1:=dB.b1
  have ht:((k:Int) - 1).toNat=k - 1:=by omega
  simp only [ZZ,WW,Ze,reduceCtorEq,zd,ze,za,zf,zb,hg,qac,ddC]
  refine ⟨⟨by omega,by omega⟩,by omega,?_⟩
  refine drg0 ?_
  simp only [ZZ,WW,Ze,reduceCtorEq,zd,ze,za,zf,zb,ht,hgq,qac,ddC]
  refine ⟨fun h=>⟨h,qaj (by omega) (by omega)⟩,fun h=>⟨h,h,by have:=of_decide_eq_true h;omega,by omega⟩,fun h=>⟨h,by omega⟩,?_⟩
  refine qeU (fun fr L=>fr=[.p (.sl 12 (ddE l)),oo,.p (int 0),.p (int 0),.p (int (k:Nat)),.adr (.l 5) 0,.p (int (gN k q d)),.p (.str (gS k q d)),oo,oo,oo,oo,oo,oo,oo,oo,.p (.sl 12 (ddE l)),.p (int (l.length:Nat)),.p (int (k:Nat)),oo,oo,oo,oo,oo,oo,oo,oo,oo,oo,oo,oo,oo,oo,oo,oo,oo,oo,oo,oo,oo,oo,oo,oo,oo,oo,oo,oo,oo,oo,oo,oo,oo,oo,oo,oo,oo,oo,oo,oo,oo,oo,oo,oo,oo,oo,oo,oo,oo,oo,oo,oo,oo,oo,oo,oo,oo,oo,oo,oo,oo,oo,oo,oo,oo,oo,oo,oo,oo,oo,oo,oo,oo,oo,oo,oo,oo,oo,oo,oo,oo,oo,oo,oo,oo,oo,oo,oo,oo,oo,oo,oo,oo,oo,oo,oo,oo,oo,oo,oo,oo,oo,oo,oo,oo,oo]∧L=[(.l 5,.box [.p (.str d.site),.p (int d.no),.p (int d.tm),.p (int d.kind),.p (.str d.id),.p (.str d.field),.p (.str d.value),.p (int d.frm),.p (int d.upto),.p (.str d.osite),.p (int d.ono),.p (.str d.sum)] tDd)]) ?_ ?_ ?_
  ·intro h1
   have hN:gN k q d=q.no+1:=by rw [gN,if_pos h1]
   have hS:gS k q d=q.sum:=by rw [gS,if_pos h1]
   have h0:0 < (k:Int):=of_decide_eq_true (Bool.and_eq_true_iff.1 h1).1
   have c1:=qB.c1
   simp only [ZZ,WW,Ze,reduceCtorEq,zd,ze,za,zf,zb]
   refine drg0 ?_
   simp only [ZZ,WW,Ze,reduceCtorEq,zd,ze,za,zf,zb,ht,hgq,qac,ddC]
   ((repeat' (with_reducible apply And.intro))<;>try ((exact sc_)))
   exact qao _ _ (by rw [hN,hS];(simp only [ZZ,WW,Ze,reduceCtorEq,zd,ze,za,zf,zb];try trivial)) zE_ ⟨rfl,rfl⟩
  ·intro h1
   have hN:gN k q d=1:=by rw [gN,if_neg (by rw [h1];simp)]
   have hS:gS k q d=[]:=by rw [gS,if_neg (by rw [h1];simp)]
   simp only [ZZ,WW,Ze,reduceCtorEq,zd,ze,za,zf,zb]
   exact qao _ _ (by rw [hN,hS];(simp only [ZZ,WW,Ze,reduceCtorEq,zd,ze,za,zf,zb];try trivial)) zE_ ⟨rfl,rfl⟩
  rintro fr L ⟨rfl,rfl⟩
  have hSl:(gS k q d).length≤200000:=by
   have:=qB.b6
   unfold gS
   split<;>simp;omega
  have hgF:gF k q d=gF k q d:=rfl
  conv at hgF=>rhs;unfold gF
  generalize gN k q d=N at *
  generalize gS k q d=S at *
  simp only [ZZ,WW,Ze,reduceCtorEq,zd,ze,za,zf,zb]
  refine use1 (qiU d.site (by omega)) rfl (.inl rfl) ?_
  simp only [ZZ,WW,Ze,reduceCtorEq,zd,ze,za,zf,zb]
  refine qjY (fun fr L=>fr=[.p (.sl 12 (ddE l)),oo,.p (int 0),.p (int 0),.p (int (k:Nat)),oo,oo,oo,.p (int (gF k q d)),oo,oo,oo,oo,oo,oo,oo,.p (.sl 12 (ddE l)),.p (int (l.length:Nat)),.p (int (k:Nat)),oo,oo,oo,oo,oo,oo,oo,oo,oo,oo,oo,oo,oo,oo,oo,oo,oo,oo,oo,oo,oo,oo,oo,oo,oo,oo,oo,oo,oo,oo,oo,oo,oo,oo,oo,oo,oo,oo,oo,oo,oo,oo,oo,oo,oo,oo,oo,oo,oo,oo,oo,oo,oo,oo,oo,oo,oo,oo,oo,oo,oo,oo,oo,oo,oo,oo,oo,oo,oo,oo,oo,oo,oo,oo,oo,oo,oo,oo,oo,oo,oo,oo,oo,oo,oo,oo,oo,oo,oo,oo,oo,oo,oo,oo,oo,oo,oo,oo,oo,oo,oo,oo,oo,oo,oo,oo]∧L=[]) ?_ ?_ ?_
  ·intro h1
   have h1:keyB d.site=false:=by simpa using h1
   rw [if_pos h1] at hgF
   simp only [ZZ,WW,Ze,reduceCtorEq,zd,ze,za,zf,zb]
   exact qao _ [] (by rw [hgF];(simp only [ZZ,WW,Ze,reduceCtorEq,zd,ze,za,zf,zb];try trivial)) zE_ ⟨rfl,rfl⟩
  ·intro h1
   have h1:keyB d.site=true:=by simpa using h1
   rw [if_neg (by rw [h1];simp)] at hgF
   simp only [ZZ,WW,Ze,reduceCtorEq,zd,ze,za,zf,zb]
   refine drg1 (x1:=int (stC q.site q.no d.site d.no)) ?_
   simp only [ZZ,WW,Ze,reduceCtorEq,zd,ze,za,zf,zb,ht,hgq,qac,ddC]
   refine ⟨fun h=>⟨h,qaj (by omega) (by omega)⟩,fun h=>⟨h,h,by have:=of_decide_eq_true h;omega,by omega⟩,fun h=>⟨h,by omega⟩,fun h=>⟨h,usep (qlM q d) rfl (.inl rfl)⟩,?_⟩
   refine br ?_ ?_
   ·intro h2
    rw [if_pos h2] at hgF
    simp only [ZZ,WW,Ze,reduceCtorEq,zd,ze,za,zf,zb]
    exact qao _ [] (by rw [hgF];(simp only [ZZ,WW,Ze,reduceCtorEq,zd,ze,za,zf,zb];try trivial)) zE_ ⟨rfl,rfl⟩
   intro h2
   rw [if_neg (by rw [h2];simp)] at hgF
   simp only [ZZ,WW,Ze,reduceCtorEq,zd,ze,za,zf,zb]
   refine br ?_ ?_
   ·intro h3
    have h3:¬ d.no=N:=by simpa using h3
    rw [if_pos h3] at hgF
    simp only [ZZ,WW,Ze,reduceCtorEq,zd,ze,za,zf,zb]
    exact qao _ [] (by rw [hgF];(simp only [ZZ,WW,Ze,reduceCtorEq,zd,ze,za,zf,zb];try trivial)) zE_ ⟨rfl,rfl⟩
   intro h3
   have h3:d.no=N:=by simpa using h3
   rw [if_neg (fun e=>e h3)] at hgF
   simp only [ZZ,WW,Ze,reduceCtorEq,zd,ze,za,zf,zb]
   refine use1 (upD (qju d dB)) rfl (.inl rfl) ?_
   simp only [ZZ,WW,Ze,reduceCtorEq,zd,ze,za,zf,zb]
   refine drg1 (x1:=.str (sumF S d)) ?_
   simp only [ZZ,WW,Ze,reduceCtorEq,zd,ze,za,zf,zb]
   refine ⟨fun h=>⟨h,usep (qhY d dB S hSl) rfl (.inl rfl)⟩,?_⟩
   refine br ?_ ?_
   ·intro h4
    have h4:refF d=0∧¬ d.sum=sumF S d:=by simpa using h4
    rw [if_neg (fun e=>e h4.1),if_neg h4.2] at hgF
    simp only [ZZ,WW,Ze,reduceCtorEq,zd,ze,za,zf,zb]
    exact qao _ [] (by rw [hgF];(simp only [ZZ,WW,Ze,reduceCtorEq,zd,ze,za,zf,zb];try trivial)) zE_ ⟨rfl,rfl⟩
   ·intro h4
    have h4:refF d=0→d.sum=sumF S d:=by simpa using h4
    have hg4:gF k q d=refF d:=by
     rw [hgF]
     by_cases h5:refF d=0
     ·rw [if_neg (fun e=>e h5),if_pos (h4 h5),h5]
     ·rw [if_pos h5]
    simp only [ZZ,WW,Ze,reduceCtorEq,zd,ze,za,zf,zb]
    exact qao _ [] (by rw [hg4];(simp only [ZZ,WW,Ze,reduceCtorEq,zd,ze,za,zf,zb];try trivial)) zE_ ⟨rfl,rfl⟩
  rintro fr L ⟨rfl,rfl⟩
  clear hgF
  simp only [ZZ,WW,Ze,reduceCtorEq,zd,ze,za,zf,zb]
  refine br ?_ ?_
  ·intro h6
   have h6:¬ gF k q d=0:=by simpa using h6
   have hs:=qh9 hlt hno (by rw [hc];exact h6)
   simp only [ZZ,WW,Ze,reduceCtorEq,zd,ze,za,zf,zb]
   rw [hs,hc,if_neg h6]
  ·intro h6
   have h6:gF k q d=0:=by simpa using h6
   simp only [ZZ,WW,Ze,reduceCtorEq,zd,ze,za,zf,zb]
   ((repeat' (with_reducible apply And.intro))<;>try ((exact sc_)))
   refine qae (l.length - (k+1)) _ [] (by omega) (by (simp only [ZZ,WW,Ze,reduceCtorEq,zd,ze,za,zf,zb];try trivial)) (by (simp only [ZZ,WW,Ze,reduceCtorEq,zd,ze,za,zf,zb];try trivial)) ⟨k+1,by omega,rfl,by intro j hj;rcases yg j k with h'|h';exact hno j h';rw [show j=k by omega,hc,h6],rfl,rfl⟩
 ·intro h
  have hge:l.length≤k:=by have:=of_decide_eq_false h;omega
  have hs:=qh8 (g:=chkI l) (N:=l.length) (fun j hj=>hno j (by omega))
  rw [hs]
  simp only [if_true]
  clear hs hno
  simp only [ZZ,WW,Ze,reduceCtorEq,zd,ze,za,zf,zb,qac]
  refine qag (fun n fr L=>∃ (k:Nat),k≤l.length∧n=l.length - k∧(∀ j,j < k→ofI l j=0)∧fr=[.p (.sl 12 (ddE l)),oo,.p (int 0),.p (int 0),oo,oo,oo,oo,oo,oo,oo,oo,oo,oo,oo,oo,oo,oo,oo,oo,oo,oo,oo,oo,oo,oo,oo,oo,oo,oo,oo,oo,oo,oo,oo,oo,oo,oo,oo,oo,oo,oo,oo,oo,oo,oo,oo,oo,oo,oo,oo,oo,oo,oo,oo,oo,oo,oo,oo,oo,oo,oo,oo,oo,oo,oo,oo,oo,oo,oo,oo,oo,oo,oo,oo,oo,oo,oo,oo,oo,oo,oo,oo,oo,oo,oo,oo,oo,oo,oo,oo,oo,oo,oo,.p (.sl 12 (ddE l)),.p (int (l.length:Nat)),.p (int (k:Nat)),oo,oo,oo,oo,oo,oo,oo,oo,oo,oo,oo,oo,oo,oo,oo,oo,oo,oo,oo,oo,oo,oo,oo,oo,oo,oo,oo,oo]∧L=[]) (l.length) _ [] (by simp only [qac,ZZ,WW,Ze,reduceCtorEq,zd,ze,za,zf,zb];try trivial) (by (simp only [ZZ,WW,Ze,reduceCtorEq,zd,ze,za,zf,zb];try trivial)) ⟨0,by omega,by omega,by omega,rfl,rfl⟩ ?_
  rintro n fr L ⟨k,hk,rfl,hno,rfl,rfl⟩
  simp only [qcb,ZZ,WW,Ze,reduceCtorEq,zd,ze,za,zf,zb]
  refine br ?_ ?_
  ·intro h
   have hlt:k < l.length:=by have:=of_decide_eq_true h;omega
   obtain ⟨d,hd⟩:∃ d,l[k]?=some d:=⟨_,zr hlt⟩
   have hg:=qbC hd
   have hc:ofI l k=ofF l d:=by unfold ofI;rw [hd]
   simp only [ZZ,WW,Ze,reduceCtorEq,zd,ze,za,zf,zb,hg,qac,ddC]
   refine ⟨⟨by omega,by omega⟩,by omega,?_⟩
   refine br ?_ ?_
   ·intro h1
    have hb:qdA d=false:=by simpa [qdA] using h1
    have hz:ofF l d=0:=by rw [ofF,if_neg (by rw [hb];simp)]
    simp only [ZZ,WW,Ze,reduceCtorEq,zd,ze,za,zf,zb]
    refine qai zE_ ?_
    simp only [ZZ,WW,Ze,reduceCtorEq,zd,ze,za,zf,zb]
    ((repeat' (with_reducible apply And.intro))<;>try ((exact sc_)))
    refine qae (l.length - (k+1)) _ [] (by omega) (by (simp only [ZZ,WW,Ze,reduceCtorEq,zd,ze,za,zf,zb];try trivial)) (by (simp only [ZZ,WW,Ze,reduceCtorEq,zd,ze,za,zf,zb];try trivial)) ⟨k+1,by omega,rfl,by intro j hj;rcases yg j k with h'|h';exact hno j h';rw [show j=k by omega,hc,hz],rfl,rfl⟩
   intro h1
   have hb:qdA d=true:=by
    simp only [Bool.and_eq_false_iff,Bool.not_eq_false',decide_eq_true_eq] at h1
    simpa [qdA] using h1
   have hof:ofF l d=ofX d (qeV l d.osite d.ono):=by rw [ofF,if_pos hb]
   simp only [ZZ,WW,Ze,reduceCtorEq,zd,ze,za,zf,zb]
   refine use1 (qkw l d.osite d.ono (by omega)) rfl (.inl rfl) ?_
   cases hx:qeV l d.osite d.ono with
   |none=>
    rw [hx] at hof
    have hof:ofF l d=8:=hof
    have hs:=qh9 hlt hno (by rw [hc,hof];decide)
    rw [hc,hof] at hs
    simp only [ZZ,WW,Ze,reduceCtorEq,zd,ze,za,zf,zb,Option.getD_none,Option.isSome_none,dd0,ddC]
    rw [hs]
   |some x=>
    rw [hx] at hof
    simp only [ZZ,WW,Ze,reduceCtorEq,zd,ze,za,zf,zb,Option.getD_some,Option.isSome_some,ddC]
    refine use1 (qnl d x) rfl (.inl rfl) ?_
    simp only [ZZ,WW,Ze,reduceCtorEq,zd,ze,za,zf,zb]
    refine br ?_ ?_
    ·intro h2
     have h2:qkX d x=false:=by simpa using h2
     have hof:ofF l d=16:=by rw [hof,ofX,h2];rfl
     have hs:=qh9 hlt hno (by rw [hc,hof];decide)
     rw [hc,hof] at hs
     simp only [ZZ,WW,Ze,reduceCtorEq,zd,ze,za,zf,zb]
     rw [hs]
    ·intro h2
     have h2:qkX d x=true:=by simpa using h2
     have hof:ofF l d=0:=by rw [hof,ofX,h2];rfl
     simp only [ZZ,WW,Ze,reduceCtorEq,zd,ze,za,zf,zb]
     refine qai zE_ ?_
     simp only [ZZ,WW,Ze,reduceCtorEq,zd,ze,za,zf,zb]
     ((repeat' (with_reducible apply And.intro))<;>try ((exact sc_)))
     refine qae (l.length - (k+1)) _ [] (by omega) (by (simp only [ZZ,WW,Ze,reduceCtorEq,zd,ze,za,zf,zb];try trivial)) (by (simp only [ZZ,WW,Ze,reduceCtorEq,zd,ze,za,zf,zb];try trivial)) ⟨k+1,by omega,rfl,by intro j hj;rcases yg j k with h'|h';exact hno j h';rw [show j=k by omega,hc,hof],rfl,rfl⟩
  ·intro h
   have hge:l.length≤k:=by have:=of_decide_eq_false h;omega
   have hs:=qh8 (g:=ofI l) (N:=l.length) (fun j hj=>hno j (by omega))
   simp only [ZZ,WW,Ze,reduceCtorEq,zd,ze,za,zf,zb]
   rw [hs]
end Go.Proofs.YtjgdjinhkgjpeaaGreatDoor
namespace Go.Proofs.YtjgdjinhkgjpeaaGreatDoor
open List renaming getElem?_eq_some_iff→zw
open Bool renaming and_eq_true→zh
def cmpD (a b:Dd):Int:=stC a.site a.no b.site b.no
theorem qw2:CmpP sgnC:=⟨fun x y=>by unfold sgnC;split<;>split<;>(try split)<;>omega,fun x y z=>by unfold sgnC;split<;>split<;>(try split)<;>(try split)<;>(try split)<;>omega⟩
theorem qpr (s:List UInt8) (n:Int) (t:List UInt8) (m:Int):stC s n t m=if Lib.compareBytes s t=0 then sgnC n m else Lib.compareBytes s t:=by
 unfold stC qbw qbw qbw
 split
 ·split
  ·rename_i h;exact h.symm
  ·rfl
 ·rfl
theorem cmpD_p:CmpP cmpD:=by
 have h:cmpD=orC (fun a b=>Lib.compareBytes a.site b.site) (fun a b=>sgnC a.no b.no):=by
  funext a b
  exact qpr _ _ _ _
 rw [h]
 exact CmpP.or (CmpP.on (fun d:Dd=>d.site) CmpP.cb) (CmpP.on (fun d:Dd=>d.no) qw2)
theorem qrb {a b:Int} (h:sgnC a b=0):a=b:=by
 unfold sgnC at h
 split at h
 ·omega
 ·split at h<;>omega
theorem qgS {a b:Dd} (h:cmpD a b=0):a.site=b.site∧a.no=b.no:=by
 unfold cmpD at h
 rw [qpr] at h
 split at h
 ·rename_i h0
  exact ⟨qsd h0,qrb h⟩
 ·rename_i h0
  exact absurd h h0
theorem qiH {a b:Dd} (h1:a.site=b.site) (h2:a.no=b.no):cmpD a b=0:=by
 unfold cmpD
 rw [qpr,h1,h2,if_pos (qse _)]
 simp [sgnC]
def OrdD (l:List Dd):Prop:=l.Pairwise fun a b=>cmpD a b < 0
theorem qrl:∀ {l:List Dd},(∀ j,j < l.length→chkI l j=0)→OrdD l:=by
 intro l h
 have adj:∀ j a b,l[j]?=some a→l[j+1]?=some b→cmpD a b < 0:=by
  intro j a b ha hb
  have hj:=(zw.1 hb).1
  have h1:=h (j+1) hj
  unfold chkI at h1
  rw [hb] at h1
  have h1:atF (qiq l (j+1)) b=0:=h1
  unfold atF qiq at h1
  simp only [Nat.succ_ne_zero,if_false,Nat.add_sub_cancel,ha] at h1
  split at h1
  ·omega
  ·split at h1
   ·omega
   ·rename_i h2
    simp only [decide_eq_true_eq] at h2
    have:¬ 0≤cmpD a b:=h2
    omega
 clear h
 have tr:=cmpD_p.tr
 have an:=cmpD_p.anti
 unfold OrdD
 induction l with
 |nil=>exact List.Pairwise.nil
 |cons x r ih=>
  have ih':=ih (fun j a b ha hb=>adj (j+1) a b (by simpa using ha) (by simpa using hb))
  refine List.Pairwise.cons ?_ ih'
  intro y hy
  cases r with
  |nil=>cases hy
  |cons z r=>
   have hxz:=adj 0 x z rfl rfl
   rcases List.mem_cons.1 hy with rfl|hy
   ·exact hxz
   ·have hzy:=(List.pairwise_cons.1 ih').1 y hy
    have h3:=tr x z y (by omega) (by omega)
    rcases Int.lt_or_eq_of_le h3 with h4|h4
    ·exact h4
    ·exfalso
     obtain ⟨e1,e2⟩:=qgS h4
     have h5:cmpD z y=cmpD z x:=by unfold cmpD;rw [e1,e2]
     have:=an z x
     omega
def qjH (l:List Dd) (s:List UInt8) (n:Int):Option Dd:=l.reverse.find? fun d=>decide (d.site=s) && decide (d.no=n)
theorem qqy (l:List Dd) (d:Dd) (s:List UInt8) (n:Int):qjH (l++[d]) s n=if (decide (d.site=s) && decide (d.no=n))=true then some d else qjH l s n:=by
 unfold qjH
 rw [List.reverse_append,List.reverse_singleton,List.singleton_append,List.find?_cons]
 split
 ·rename_i h;rw [if_pos h]
 ·rename_i h;rw [if_neg (by simp [h])]
theorem qrD {l:List Dd} (h:OrdD l) (s:List UInt8) (n:Int):qjH l s n=qeV l s n:=by
 unfold OrdD at h
 cases hf:qeV l s n with
 |none=>
  unfold qeV at hf
  unfold qjH
  rw [List.find?_eq_none] at hf ⊢
  intro x hx
  exact hf x (List.mem_reverse.1 hx)
 |some x=>
  unfold qeV at hf
  obtain ⟨hx1,hx2⟩:x∈l∧(decide (x.site=s) && decide (x.no=n))=true:=⟨List.mem_of_find?_eq_some hf,List.find?_some (p:=fun d:Dd=>decide (d.site=s) && decide (d.no=n)) hf⟩
  cases hl:qjH l s n with
  |none=>
   unfold qjH at hl
   rw [List.find?_eq_none] at hl
   exact absurd hx2 (hl x (List.mem_reverse.2 hx1))
  |some y=>
   unfold qjH at hl
   obtain ⟨hy1,hy2⟩:y∈l∧(decide (y.site=s) && decide (y.no=n))=true:=⟨List.mem_reverse.1 (List.mem_of_find?_eq_some hl),List.find?_some (p:=fun d:Dd=>decide (d.site=s) && decide (d.no=n)) hl⟩
   simp only [zh,decide_eq_true_eq] at hx2 hy2
   have hz:cmpD x y=0:=qiH (hx2.1.trans hy2.1.symm) (hx2.2.trans hy2.2.symm)
   have hz2:cmpD y x=0:=qiH (hx2.1.trans hy2.1.symm).symm (hx2.2.trans hy2.2.symm).symm
   by_cases e:x=y
   ·rw [e]
   ·exfalso
    obtain ⟨i,hi,rfl⟩:=List.mem_iff_getElem.1 hx1
    obtain ⟨j,hj,rfl⟩:=List.mem_iff_getElem.1 hy1
    rw [List.pairwise_iff_getElem] at h
    rcases Nat.lt_trichotomy i j with h1|h1|h1
    ·have:=h i j hi hj h1;omega
    ·subst h1;exact e rfl
    ·have:=h j i hj hi h1;omega
def stK (s:List UInt8) (n:Int):List UInt8:=qbP [.str s,int n]
theorem quQ {s t:List UInt8} {n m:Int} (h:stK s n=stK t m):s=t∧n=m:=by
 have:=qks [.s,.i] (cs:=[.str s,int n]) (ds:=[.str t,int m]) rfl rfl h
 simpa using this
def stM (l:List Dd):List (List UInt8×PV):=l.foldl (fun kv d=>mpS kv (stK d.site d.no) (.agg (ddC d))) []
theorem qpq (l:List Dd) (d:Dd):stM (l++[d])=mpS (stM l) (stK d.site d.no) (.agg (ddC d)):=by simp [stM]
theorem qsL {l:List Dd} {k:Nat} {d:Dd} (h:l[k]?=some d):stM (l.take (k+1))=mpS (stM (l.take k)) (stK d.site d.no) (.agg (ddC d)):=by
 obtain ⟨hk,he⟩:=zw.1 h
 rw [List.take_succ_eq_append_getElem hk,he,qpq]
theorem qwX:∀ (r:List Dd) (s:List UInt8) (n:Int),mpF (stM r.reverse) (stK s n)=(qjH r.reverse s n).map fun d=>.agg (ddC d)
 |[],s,n=>rfl
 |d :: r,s,n=>by
  rw [List.reverse_cons,qpq,qoF,qqy,qwX r s n]
  by_cases h:(decide (d.site=s) && decide (d.no=n))=true
  ·have h':=h
   simp only [zh,decide_eq_true_eq] at h'
   rw [if_pos h,if_pos (by rw [h'.1,h'.2])]
   rfl
  ·rw [if_neg h,if_neg (fun e=>h (by obtain ⟨e1,e2⟩:=quQ e;simp [e1,e2]))]
theorem qsM (l:List Dd) (s:List UInt8) (n:Int):mpF (stM l) (stK s n)=(qjH l s n).map fun d=>.agg (ddC d):=by
 have:=qwX l.reverse s n
 rwa [List.reverse_reverse] at this
theorem qqQ:∀ kv:List (List UInt8×PV),(kv.map (·.1)).zip (kv.map (·.2))=kv
 |[]=>rfl
 |p :: r=>by simp [qqQ r]
def mrkB (x:Dd):Bool:=decide (x.kind=2) || decide (x.kind=4)
def ofG (d:Dd):Option Dd→Int
 |some x=>if d.kind=3 then qbR (!mrkB x) 16 else qbR (((mrkB x || decide (x.kind=6)) || !decide (x.site=d.site)) || decide (d.no≤x.no)) 16
 |none=>8
def ofE (l:List Dd) (d:Dd):Int:=if qdA d=true then ofG d (qjH l d.osite d.ono) else 0
theorem qsn {p:Option Dd} {d:Dd} (h:atF p d=0):oneF d=0:=by
 unfold atF at h
 by_cases c1:keyB d.site=false
 ·rw [if_pos c1] at h;omega
 rw [if_neg c1] at h
 by_cases c4:oneF d=0
 ·exact c4
 cases p with
 |none=>
  simp only [Bool.false_eq_true,if_false,c4,not_false_eq_true,if_true] at h
  split at h<;>omega
 |some q=>
  simp only [c4,not_false_eq_true,if_true] at h
  split at h
  ·omega
  ·split at h<;>omega
theorem qxj {l:List Dd} (h:∀ j,j < l.length→chkI l j=0) (d:Dd):ofE l d=ofF l d:=by
 unfold ofE ofF
 rw [qrD (qrl h)]
 split
 ·rename_i hb
  cases hf:qeV l d.osite d.ono with
  |none=>rfl
  |some x=>
   unfold qeV at hf
   have hx:=List.mem_of_find?_eq_some hf
   obtain ⟨k,hk,rfl⟩:=List.mem_iff_getElem.1 hx
   have h1:=h k hk
   unfold chkI at h1
   rw [List.getElem?_eq_getElem hk] at h1
   have h1:atF (qiq l k) l[k]=0:=h1
   have hone:oneF l[k]=0:=by
    exact qsn h1
   have hkd:1≤l[k].kind∧l[k].kind≤6:=by
    unfold oneF at hone
    split at hone
    ·omega
    split at hone
    ·omega
    ·rename_i h2
     simpa [inE] using h2
   generalize l[k]=x at *
   show (if d.kind=3 then qbR (!mrkB x) 16 else qbR (((mrkB x || decide (x.kind=6)) || !decide (x.site=d.site)) || decide (d.no≤x.no)) 16)=(if qkX d x=true then 0 else 16)
   unfold qkX mrkB
   by_cases h3:d.kind=3
   ·rw [if_pos h3,if_pos h3]
    by_cases h2:x.kind=2<;>by_cases h4:x.kind=4<;>simp [qbR,h2,h4]
   ·rw [if_neg h3,if_neg h3]
    have hs:x.kind=1∨x.kind=2∨x.kind=3∨x.kind=4∨x.kind=5∨x.kind=6:=by omega
    by_cases e1:x.site=d.site<;>by_cases e2:x.no < d.no
    all_goals
     have e3:decide (d.no≤x.no)=!decide (x.no < d.no):=by simp only [← decide_not,Int.not_lt]
     rw [e3]
     rcases hs with hs|hs|hs|hs|hs|hs<;>simp [qbR,e1,e2,hs]
 ·rfl
end Go.Proofs.YtjgdjinhkgjpeaaGreatDoor
