import Derived.Test.YtinffddgojhdfaaGreatDoorZ8
import Derived.Test.YtinffddgojhdfaaGreatDoorZ4
import Derived.Shelf.SlSortCmp.NoneTotal
import Derived.Test.YtinffddgojhdfaaGreatDoorZ7
import Derived.Test.YtinffddgojhdfaaGreatDoorLayDeedSort
import Derived.Test.YtinffddgojhdfaaGreatDoorLayCompare
import Derived.Test.YtinffddgojhdfaaGreatDoorLayCmpInt
import Derived.StillTailTactics
import Derived.Handy
set_option linter.unusedVariables false
set_option linter.unusedSimpArgs false
set_option linter.defProp false
namespace Go.Proofs.YtinffddgojhdfaaGreatDoor
open Go.RowKit
def ir_matter_unused:IC:=(.seq (.reg [qO 1 (.box 45 (.t 0)),qO 2 (.mov (.c (.bool false)))]) (.seq (.reg [qO 5 (.fla 3 (.t 1)),qO 6 (.ld 1 false (.t 5)),qO 7 (.bin .neq (.t 6) (.c (.int .i64 3))),qM 8 7,⟨some 9,.fla 3 (.t 1),(some (8,true))⟩,⟨some 10,.ld 1 false (.t 9),(some (8,true))⟩,⟨some 11,.bin .neq (.t 10) (.c (.int .i64 6)),(some (8,true))⟩,qO 12 (.pick (.t 8) (.t 11) (.c (.bool false))),qM 3 12]) (.seq (.reg [qO 13 (.fla 3 (.t 1)),qO 14 (.ld 1 false (.t 13)),qO 15 (.bin .eql (.t 14) (.c (.int .i64 1))),qM 16 15,⟨some 17,.fla 3 (.t 1),(some (16,false))⟩,⟨some 18,.ld 1 false (.t 17),(some (16,false))⟩,⟨some 19,.bin .eql (.t 18) (.c (.int .i64 2)),(some (16,false))⟩,qO 20 (.pick (.t 16) (.c (.bool true)) (.t 19)),qM 21 20,⟨some 22,.fla 3 (.t 1),(some (21,false))⟩,⟨some 23,.ld 1 false (.t 22),(some (21,false))⟩,⟨some 24,.bin .eql (.t 23) (.c (.int .i64 5)),(some (21,false))⟩,qO 25 (.pick (.t 21) (.c (.bool true)) (.t 24)),qM 4 25]) (.seq (.reg [qM 26 3,qO 27 (.not (.t 26)),qM 28 27,⟨some 29,.fla 4 (.t 1),(some (28,true))⟩,⟨some 30,.ld 1 false (.t 29),(some (28,true))⟩,⟨some 31,.bin .neq (.t 30) (.c (.str [])),(some (28,true))⟩,qO 32 (.pick (.t 28) (.t 31) (.c (.bool false))),qM 33 32,⟨some 34,.fla 3 (.t 1),(some (33,false))⟩,⟨some 35,.ld 1 false (.t 34),(some (33,false))⟩,⟨some 36,.bin .neq (.t 35) (.c (.int .i64 1)),(some (33,false))⟩,⟨some 37,.mov (.t 36),(some (33,false))⟩,⟨some 38,.fla 5 (.t 1),(some (37,true))⟩,⟨some 39,.ld 1 false (.t 38),(some (37,true))⟩,⟨some 40,.bin .neq (.t 39) (.c (.str [])),(some (37,true))⟩,⟨some 41,.pick (.t 37) (.t 40) (.c (.bool false)),(some (33,false))⟩,qO 42 (.pick (.t 33) (.c (.bool true)) (.t 41)),qM 43 42,⟨some 44,.mov (.t 4),(some (43,false))⟩,⟨some 45,.not (.t 44),(some (43,false))⟩,⟨some 46,.mov (.t 45),(some (43,false))⟩,⟨some 47,.fla 6 (.t 1),(some (46,true))⟩,⟨some 48,.ld 1 false (.t 47),(some (46,true))⟩,⟨some 49,.bin .neq (.t 48) (.c (.str [])),(some (46,true))⟩,⟨some 50,.pick (.t 46) (.t 49) (.c (.bool false)),(some (43,false))⟩,qO 51 (.pick (.t 43) (.c (.bool true)) (.t 50)),qM 52 51,⟨some 53,.fla 3 (.t 1),(some (52,false))⟩,⟨some 54,.ld 1 false (.t 53),(some (52,false))⟩,⟨some 55,.bin .neq (.t 54) (.c (.int .i64 4)),(some (52,false))⟩,⟨some 56,.mov (.t 55),(some (52,false))⟩,⟨some 57,.fla 7 (.t 1),(some (56,true))⟩,⟨some 58,.ld 2 true (.t 57),(some (56,true))⟩,⟨some 59,.bld [.int .i64 0,.int .i64 0] [],(some (56,true))⟩,⟨some 60,.eqa true [.i,.i] (.t 58) (.t 59),(some (56,true))⟩,⟨some 61,.pick (.t 56) (.t 60) (.c (.bool false)),(some (52,false))⟩,qO 62 (.pick (.t 52) (.c (.bool true)) (.t 61)),qM 63 62,⟨some 64,.mov (.t 3),(some (63,false))⟩,⟨some 65,.mov (.t 64),(some (63,false))⟩,⟨some 66,.fla 9 (.t 1),(some (65,true))⟩,⟨some 67,.ld 2 true (.t 66),(some (65,true))⟩,⟨some 68,.bld [.str [],.int .i64 0] [],(some (65,true))⟩,⟨some 69,.eqa true [.s,.i] (.t 67) (.t 68),(some (65,true))⟩,⟨some 70,.pick (.t 65) (.t 69) (.c (.bool false)),(some (63,false))⟩,qO 71 (.pick (.t 63) (.c (.bool true)) (.t 70)),qM 2 71]) .ret))))
def rs_matter_unused:List IRes:=[.t 2]
theorem ck_matter_unused:chkF Tryz.prog Tryz.f80 ir_matter_unused rs_matter_unused 72=true:=by kernel_rfl
def ir_matter_formError:IC:=(.seq (.reg [qO 1 (.box 45 (.t 0)),qO 2 (.mov (.c (.int .i64 0)))]) (.seq (.seq (.reg [qO 4 (.ld 12 true (.t 1)),qO 5 (.call 80 [.t 4])]) (.cond (.t 5) (.seq (.reg [qO 2 (.mov (.c (.int .i64 3)))]) .ret) .skip)) (.seq (.reg [qO 3 (.mov (.c (.bool true)))]) (.seq (.seq (.reg [qO 6 (.fla 3 (.t 1)),qO 7 (.ld 1 false (.t 6))]) (.block 0 (.seq (.seq (.reg [qO 9 (.bin .eql (.t 7) (.c (.int .i64 3))),qM 8 9]) (.cond (.t 8) .skip (.reg [qO 10 (.bin .eql (.t 7) (.c (.int .i64 6))),qM 8 10]))) (.cut (.cond (.t 8) (.seq (.reg [qO 2 (.mov (.c (.int .i64 0)))]) .ret) (.seq (.reg [qO 12 (.bin .eql (.t 7) (.c (.int .i64 1))),qM 11 12]) (.cond (.t 11) (.reg [qO 13 (.fla 6 (.t 1)),qO 14 (.ld 1 false (.t 13)),qO 15 (.sln (.t 14)),qO 16 (.bin .leq (.t 15) (.c (.int .i64 60))),qM 17 16,⟨some 18,.fla 6 (.t 1),(some (17,true))⟩,⟨some 19,.ld 1 false (.t 18),(some (17,true))⟩,⟨some 20,.call 81 [.t 19],(some (17,true))⟩,qO 21 (.pick (.t 17) (.t 20) (.c (.bool false))),qM 3 21]) (.seq (.reg [qO 23 (.bin .eql (.t 7) (.c (.int .i64 2))),qM 22 23]) (.cond (.t 22) (.reg [qO 24 (.fla 6 (.t 1)),qO 25 (.ld 1 false (.t 24)),qO 26 (.call 42 [.t 25]),qM 3 26]) (.seq (.reg [qO 28 (.bin .eql (.t 7) (.c (.int .i64 5))),qM 27 28]) (.cond (.t 27) (.reg [qO 29 (.fla 6 (.t 1)),qO 30 (.ld 1 false (.t 29)),qO 31 (.sln (.t 30)),qO 32 (.call 45 [.t 31,.c (.int .i64 1),.c (.int .i64 200)]),qM 33 32,⟨some 34,.fla 6 (.t 1),(some (33,true))⟩,⟨some 35,.ld 1 false (.t 34),(some (33,true))⟩,⟨some 36,.call 81 [.t 35],(some (33,true))⟩,qO 37 (.pick (.t 33) (.t 36) (.c (.bool false))),qM 3 37]) (.seq (.reg [qO 39 (.bin .eql (.t 7) (.c (.int .i64 4))),qM 38 39]) (.cond (.t 38) (.reg [qO 40 (.fla 7 (.t 1)),qO 41 (.fla 0 (.t 40)),qO 42 (.ld 1 false (.t 41)),qO 43 (.bin .geq (.t 42) (.c (.int .i64 0))),qM 44 43,⟨some 45,.fla 7 (.t 1),(some (44,true))⟩,⟨some 46,.fla 0 (.t 45),(some (44,true))⟩,⟨some 47,.ld 1 false (.t 46),(some (44,true))⟩,⟨some 48,.fla 7 (.t 1),(some (44,true))⟩,⟨some 49,.fla 1 (.t 48),(some (44,true))⟩,⟨some 50,.ld 1 false (.t 49),(some (44,true))⟩,⟨some 51,.bin .lss (.t 47) (.t 50),(some (44,true))⟩,qO 52 (.pick (.t 44) (.t 51) (.c (.bool false))),qM 53 52,⟨some 54,.fla 7 (.t 1),(some (53,true))⟩,⟨some 55,.fla 1 (.t 54),(some (53,true))⟩,⟨some 56,.ld 1 false (.t 55),(some (53,true))⟩,⟨some 57,.bin .leq (.t 56) (.c (.int .i64 20000)),(some (53,true))⟩,qO 58 (.pick (.t 53) (.t 57) (.c (.bool false))),qM 3 58]) .skip))))))))))))) (.cut (.seq (.reg [qO 59 (.fla 4 (.t 1)),qO 60 (.ld 1 false (.t 59)),qO 61 (.call 42 [.t 60]),qO 62 (.not (.t 61)),qM 63 62,⟨some 64,.fla 3 (.t 1),(some (63,false))⟩,⟨some 65,.ld 1 false (.t 64),(some (63,false))⟩,⟨some 66,.bin .eql (.t 65) (.c (.int .i64 1)),(some (63,false))⟩,⟨some 67,.mov (.t 66),(some (63,false))⟩,⟨some 68,.fla 5 (.t 1),(some (67,true))⟩,⟨some 69,.ld 1 false (.t 68),(some (67,true))⟩,⟨some 70,.call 42 [.t 69],(some (67,true))⟩,⟨some 71,.not (.t 70),(some (67,true))⟩,⟨some 72,.pick (.t 67) (.t 71) (.c (.bool false)),(some (63,false))⟩,qO 73 (.pick (.t 63) (.c (.bool true)) (.t 72)),qO 74 (.call 41 [.t 73,.c (.int .i64 5)]),qM 75 3,qO 76 (.not (.t 75)),qO 77 (.call 41 [.t 76,.c (.int .i64 3)]),qO 78 (.bsl 1 [.t 74,.t 77]),qO 79 (.call 40 [.t 78]),qM 2 79]) .ret))))))
def rs_matter_formError:List IRes:=[.t 2]
theorem ck_matter_formError:chkF Tryz.prog Tryz.f46 ir_matter_formError rs_matter_formError 80=true:=by kernel_rfl
def ir_chaseref1_deedFault:IC:=(.seq (.reg [qO 1 (.box 45 (.t 0)),qO 2 (.mov (.c (.int .i64 0)))]) (.seq (.seq (.reg [qO 6 (.fla 2 (.t 1)),qO 7 (.ld 1 false (.t 6)),qO 8 (.call 84 [.t 7]),qO 9 (.not (.t 8))]) (.cond (.t 9) (.seq (.reg [qO 2 (.mov (.c (.int .i64 1)))]) .ret) .skip)) (.seq (.seq (.reg [qO 10 (.fla 3 (.t 1)),qO 11 (.ld 1 false (.t 10)),qO 12 (.bin .lss (.t 11) (.c (.int .i64 1))),qM 13 12,⟨some 14,.fla 3 (.t 1),(some (13,false))⟩,⟨some 15,.ld 1 false (.t 14),(some (13,false))⟩,⟨some 16,.bin .gtr (.t 15) (.c (.int .i64 6)),(some (13,false))⟩,qO 17 (.pick (.t 13) (.c (.bool true)) (.t 16))]) (.cond (.t 17) (.seq (.reg [qO 2 (.mov (.c (.int .i64 4)))]) .ret) .skip)) (.seq (.reg [qO 18 (.fla 3 (.t 1)),qO 19 (.ld 1 false (.t 18)),qO 20 (.bin .eql (.t 19) (.c (.int .i64 3))),qM 21 20,⟨some 22,.fla 3 (.t 1),(some (21,false))⟩,⟨some 23,.ld 1 false (.t 22),(some (21,false))⟩,⟨some 24,.bin .eql (.t 23) (.c (.int .i64 6)),(some (21,false))⟩,qO 25 (.pick (.t 21) (.c (.bool true)) (.t 24)),qM 3 25]) (.seq (.reg [qO 26 (.fla 3 (.t 1)),qO 27 (.ld 1 false (.t 26)),qO 28 (.bin .eql (.t 27) (.c (.int .i64 1))),qM 29 28,⟨some 30,.fla 3 (.t 1),(some (29,false))⟩,⟨some 31,.ld 1 false (.t 30),(some (29,false))⟩,⟨some 32,.bin .eql (.t 31) (.c (.int .i64 2)),(some (29,false))⟩,qO 33 (.pick (.t 29) (.c (.bool true)) (.t 32)),qM 34 33,⟨some 35,.fla 3 (.t 1),(some (34,false))⟩,⟨some 36,.ld 1 false (.t 35),(some (34,false))⟩,⟨some 37,.bin .eql (.t 36) (.c (.int .i64 5)),(some (34,false))⟩,qO 38 (.pick (.t 34) (.c (.bool true)) (.t 37)),qM 4 38]) (.seq (.reg [qM 39 3,qM 40 39,⟨some 41,.fla 4 (.t 1),(some (40,true))⟩,⟨some 42,.ld 1 false (.t 41),(some (40,true))⟩,⟨some 43,.bin .neq (.t 42) (.c (.str [])),(some (40,true))⟩,qO 44 (.pick (.t 40) (.t 43) (.c (.bool false))),qM 45 44,⟨some 46,.fla 3 (.t 1),(some (45,false))⟩,⟨some 47,.ld 1 false (.t 46),(some (45,false))⟩,⟨some 48,.bin .neq (.t 47) (.c (.int .i64 1)),(some (45,false))⟩,⟨some 49,.mov (.t 48),(some (45,false))⟩,⟨some 50,.fla 5 (.t 1),(some (49,true))⟩,⟨some 51,.ld 1 false (.t 50),(some (49,true))⟩,⟨some 52,.bin .neq (.t 51) (.c (.str [])),(some (49,true))⟩,⟨some 53,.pick (.t 49) (.t 52) (.c (.bool false)),(some (45,false))⟩,qO 54 (.pick (.t 45) (.c (.bool true)) (.t 53)),qM 55 54,⟨some 56,.mov (.t 4),(some (55,false))⟩,⟨some 57,.not (.t 56),(some (55,false))⟩,⟨some 58,.mov (.t 57),(some (55,false))⟩,⟨some 59,.fla 6 (.t 1),(some (58,true))⟩,⟨some 60,.ld 1 false (.t 59),(some (58,true))⟩,⟨some 61,.bin .neq (.t 60) (.c (.str [])),(some (58,true))⟩,⟨some 62,.pick (.t 58) (.t 61) (.c (.bool false)),(some (55,false))⟩,qO 63 (.pick (.t 55) (.c (.bool true)) (.t 62)),qM 64 63,⟨some 65,.fla 3 (.t 1),(some (64,false))⟩,⟨some 66,.ld 1 false (.t 65),(some (64,false))⟩,⟨some 67,.bin .neq (.t 66) (.c (.int .i64 4)),(some (64,false))⟩,⟨some 68,.mov (.t 67),(some (64,false))⟩,⟨some 69,.fla 7 (.t 1),(some (68,true))⟩,⟨some 70,.ld 2 true (.t 69),(some (68,true))⟩,⟨some 71,.bld [.int .i64 0,.int .i64 0] [],(some (68,true))⟩,⟨some 72,.eqa true [.i,.i] (.t 70) (.t 71),(some (68,true))⟩,⟨some 73,.pick (.t 68) (.t 72) (.c (.bool false)),(some (64,false))⟩,qO 74 (.pick (.t 64) (.c (.bool true)) (.t 73)),qM 75 74,⟨some 76,.mov (.t 3),(some (75,false))⟩,⟨some 77,.not (.t 76),(some (75,false))⟩,⟨some 78,.mov (.t 77),(some (75,false))⟩,⟨some 79,.fla 9 (.t 1),(some (78,true))⟩,⟨some 80,.ld 2 true (.t 79),(some (78,true))⟩,⟨some 81,.bld [.str [],.int .i64 0] [],(some (78,true))⟩,⟨some 82,.eqa true [.s,.i] (.t 80) (.t 81),(some (78,true))⟩,⟨some 83,.pick (.t 78) (.t 82) (.c (.bool false)),(some (75,false))⟩,qO 84 (.pick (.t 75) (.c (.bool true)) (.t 83)),qM 5 84]) (.seq (.block 0 (.seq (.reg [qM 86 5,qM 85 86]) (.cond (.t 85) (.seq (.reg [qO 2 (.mov (.c (.int .i64 3)))]) .ret) (.seq (.seq (.reg [qM 88 3,qO 89 (.not (.t 88)),qM 90 89,⟨some 91,.fla 4 (.t 1),(some (90,true))⟩,⟨some 92,.ld 1 false (.t 91),(some (90,true))⟩,⟨some 93,.call 24 [.t 92],(some (90,true))⟩,⟨some 94,.not (.t 93),(some (90,true))⟩,qO 95 (.pick (.t 90) (.t 94) (.c (.bool false))),qM 87 95]) (.cond (.t 87) .skip (.reg [qO 96 (.fla 3 (.t 1)),qO 97 (.ld 1 false (.t 96)),qO 98 (.bin .eql (.t 97) (.c (.int .i64 1))),qM 99 98,⟨some 100,.fla 5 (.t 1),(some (99,true))⟩,⟨some 101,.ld 1 false (.t 100),(some (99,true))⟩,⟨some 102,.call 24 [.t 101],(some (99,true))⟩,⟨some 103,.not (.t 102),(some (99,true))⟩,qO 104 (.pick (.t 99) (.t 103) (.c (.bool false))),qM 87 104]))) (.cut (.cond (.t 87) (.seq (.reg [qO 2 (.mov (.c (.int .i64 5)))]) .ret) (.seq (.seq (.reg [qO 106 (.fla 3 (.t 1)),qO 107 (.ld 1 false (.t 106)),qO 108 (.bin .eql (.t 107) (.c (.int .i64 1))),qM 109 108,⟨some 110,.fla 6 (.t 1),(some (109,true))⟩,⟨some 111,.ld 1 false (.t 110),(some (109,true))⟩,⟨some 112,.call 85 [.t 111],(some (109,true))⟩,⟨some 113,.not (.t 112),(some (109,true))⟩,⟨some 114,.mov (.t 113),(some (109,true))⟩,⟨some 115,.fla 6 (.t 1),(some (114,false))⟩,⟨some 116,.ld 1 false (.t 115),(some (114,false))⟩,⟨some 117,.sln (.t 116),(some (114,false))⟩,⟨some 118,.bin .gtr (.t 117) (.c (.int .i64 60)),(some (114,false))⟩,⟨some 119,.pick (.t 114) (.c (.bool true)) (.t 118),(some (109,true))⟩,qO 120 (.pick (.t 109) (.t 119) (.c (.bool false))),qM 105 120]) (.cond (.t 105) .skip (.seq (.reg [qO 121 (.fla 3 (.t 1)),qO 122 (.ld 1 false (.t 121)),qO 123 (.bin .eql (.t 122) (.c (.int .i64 2))),qM 124 123,⟨some 125,.fla 6 (.t 1),(some (124,true))⟩,⟨some 126,.ld 1 false (.t 125),(some (124,true))⟩,⟨some 127,.call 24 [.t 126],(some (124,true))⟩,⟨some 128,.not (.t 127),(some (124,true))⟩,qO 129 (.pick (.t 124) (.t 128) (.c (.bool false))),qM 105 129]) (.cond (.t 105) .skip (.reg [qO 130 (.fla 3 (.t 1)),qO 131 (.ld 1 false (.t 130)),qO 132 (.bin .eql (.t 131) (.c (.int .i64 5))),qM 133 132,⟨some 134,.fla 6 (.t 1),(some (133,true))⟩,⟨some 135,.ld 1 false (.t 134),(some (133,true))⟩,⟨some 136,.call 85 [.t 135],(some (133,true))⟩,⟨some 137,.not (.t 136),(some (133,true))⟩,⟨some 138,.mov (.t 137),(some (133,true))⟩,⟨some 139,.fla 6 (.t 1),(some (138,false))⟩,⟨some 140,.ld 1 false (.t 139),(some (138,false))⟩,⟨some 141,.sln (.t 140),(some (138,false))⟩,⟨some 142,.bin .lss (.t 141) (.c (.int .i64 1)),(some (138,false))⟩,⟨some 143,.pick (.t 138) (.c (.bool true)) (.t 142),(some (133,true))⟩,⟨some 144,.mov (.t 143),(some (133,true))⟩,⟨some 145,.fla 6 (.t 1),(some (144,false))⟩,⟨some 146,.ld 1 false (.t 145),(some (144,false))⟩,⟨some 147,.sln (.t 146),(some (144,false))⟩,⟨some 148,.bin .gtr (.t 147) (.c (.int .i64 200)),(some (144,false))⟩,⟨some 149,.pick (.t 144) (.c (.bool true)) (.t 148),(some (133,true))⟩,qO 150 (.pick (.t 133) (.t 149) (.c (.bool false))),qM 105 150]))))) (.cut (.cond (.t 105) (.seq (.reg [qO 2 (.mov (.c (.int .i64 3)))]) .ret) (.seq (.reg [qO 152 (.fla 3 (.t 1)),qO 153 (.ld 1 false (.t 152)),qO 154 (.bin .eql (.t 153) (.c (.int .i64 4))),qM 155 154,⟨some 156,.fla 7 (.t 1),(some (155,true))⟩,⟨some 157,.fla 0 (.t 156),(some (155,true))⟩,⟨some 158,.ld 1 false (.t 157),(some (155,true))⟩,⟨some 159,.bin .lss (.t 158) (.c (.int .i64 0)),(some (155,true))⟩,⟨some 160,.mov (.t 159),(some (155,true))⟩,⟨some 161,.fla 7 (.t 1),(some (160,false))⟩,⟨some 162,.fla 0 (.t 161),(some (160,false))⟩,⟨some 163,.ld 1 false (.t 162),(some (160,false))⟩,⟨some 164,.fla 7 (.t 1),(some (160,false))⟩,⟨some 165,.fla 1 (.t 164),(some (160,false))⟩,⟨some 166,.ld 1 false (.t 165),(some (160,false))⟩,⟨some 167,.bin .geq (.t 163) (.t 166),(some (160,false))⟩,⟨some 168,.pick (.t 160) (.c (.bool true)) (.t 167),(some (155,true))⟩,⟨some 169,.mov (.t 168),(some (155,true))⟩,⟨some 170,.fla 7 (.t 1),(some (169,false))⟩,⟨some 171,.fla 1 (.t 170),(some (169,false))⟩,⟨some 172,.ld 1 false (.t 171),(some (169,false))⟩,⟨some 173,.bin .gtr (.t 172) (.c (.int .i64 20000)),(some (169,false))⟩,⟨some 174,.pick (.t 169) (.c (.bool true)) (.t 173),(some (155,true))⟩,qO 175 (.pick (.t 155) (.t 174) (.c (.bool false))),qM 151 175]) (.cond (.t 151) (.seq (.reg [qO 2 (.mov (.c (.int .i64 3)))]) .ret) .skip))))))))))) (.seq (.reg [qO 2 (.mov (.c (.int .i64 0)))]) .ret))))))))
def rs_chaseref1_deedFault:List IRes:=[.t 2]
theorem ck_chaseref1_deedFault:chkF Tryz.prog Tryz.f51 ir_chaseref1_deedFault rs_chaseref1_deedFault 176=true:=by kernel_rfl
theorem br_joinB {P:Program} {E:Envt} {fr:List AV} {L:Objs} {Q:AQ} {b:Bool} {x y r:IC} {i:Nat} (M:List AV→Objs→Prop) (h1:b=true→awp P E x fr L (blockQ i (midQ E M Q))) (h2:b=false→awp P E y fr L (blockQ i (midQ E M Q))) (hM:∀ fr L,M fr L→awp P E r fr L Q):BrC P E b x y fr L (blockQ i (thenC P E (.cut r) Q)):=by
 have hn:∀ fr L,midQ E M Q .normal fr L→thenC P E (.cut r) Q .normal fr L:=by
  intro fr L h
  obtain ⟨fr',L',a1,a3⟩:=h
  exact ⟨fr',L',a1,hM fr' L' a3⟩
 have hq:∀ e fr L,blockQ i (midQ E M Q) e fr L→blockQ i (thenC P E (.cut r) Q) e fr L:=by
  intro e fr L h
  cases e with
  |normal=>exact hn fr L h
  |exit j=>
   simp only [blockQ] at h ⊢
   split
   ·rename_i hj;rw [if_pos hj] at h;exact hn fr L h
   ·rename_i hj;rw [if_neg hj] at h;exact h
  |_=>exact h
 exact ⟨fun e=>awp_mono x fr L _ _ hq (h1 e),fun e=>awp_mono y fr L _ _ hq (h2 e)⟩
section
variable {E:Envt}
set_option maxRecDepth 100000 in
set_option maxHeartbeats 4000000 in
theorem unused_ok (d:Dd):PCall Tryz.prog E 80 [.agg (ddC d)] (·=.bool (unusedB d)):=by
 refine pcallF mixed Tryz.func80 ck_matter_unused ?_
 simp only [a0,l0,OS.ao,List.map_cons,List.map_nil,List.length_cons,List.length_nil,List.cons_append,List.nil_append,Nat.reduceSub,Nat.reduceAdd,List.replicate_succ,List.replicate_zero,ir_matter_unused,rs_matter_unused,ZZ,WW,Ze,reduceCtorEq,Nat.reduceAdd,Nat.reduceMul,Nat.reduceLeDiff,Nat.reduceLT,Nat.reduceEqDiff]
 simp only [ddC,ZZ,WW,Ze,reduceCtorEq,Nat.reduceAdd,Nat.reduceMul,Nat.reduceLeDiff,Nat.reduceLT,Nat.reduceEqDiff]
 simp only [unusedB,backB,valB]
 generalize decide (d.kind=1)=k1
 generalize decide (d.kind=2)=k2
 generalize decide (d.kind=3)=k3
 generalize decide (d.kind=4)=k4
 generalize decide (d.kind=5)=k5
 generalize decide (d.kind=6)=k6
 generalize decide (d.id=[])=a1
 generalize decide (d.field=[])=a2
 generalize decide (d.value=[])=a3
 generalize decide (d.frm=0)=a4
 generalize decide (d.upto=0)=a5
 generalize decide (d.osite=[])=a6
 generalize decide (d.ono=0)=a7
 repeat' (with_reducible apply And.intro)
 all_goals first|(intro h;rw [h];rfl)|(intro h;exact ⟨h,fun h2=>by rw [h,h2];rfl⟩)|(cases k3<;>cases k6<;>simp;done)
end
set_option maxRecDepth 100000 in
set_option maxHeartbeats 4000000 in
theorem formError_ok (d:Dd) (h:DdB d):PCall Tryz.prog E0 46 [.agg (ddC d)] (·=int (formF d)):=by
 have b2:=h.b2
 have b3:=h.b3
 have b4:=h.b4
 refine pcallF mixed Tryz.func46 ck_matter_formError ?_
 simp only [a0,l0,OS.ao,List.map_cons,List.map_nil,List.length_cons,List.length_nil,List.cons_append,List.nil_append,Nat.reduceSub,Nat.reduceAdd,List.replicate_succ,List.replicate_zero,ir_matter_formError,rs_matter_formError,ZZ,WW,Ze,reduceCtorEq,Nat.reduceAdd,Nat.reduceMul,Nat.reduceLeDiff,Nat.reduceLT,Nat.reduceEqDiff]
 simp only [ddC,ZZ,WW,Ze,reduceCtorEq,Nat.reduceAdd,Nat.reduceMul,Nat.reduceLeDiff,Nat.reduceLT,Nat.reduceEqDiff]
 refine use1 (unused_ok d) rfl (.inl rfl) ?_
 simp only [ZZ,WW,Ze,reduceCtorEq,Nat.reduceAdd,Nat.reduceMul,Nat.reduceLeDiff,Nat.reduceLT,Nat.reduceEqDiff]
 unfold formF
 refine br ?_ ?_
 ·intro hu
  simp only [ZZ,WW,Ze,reduceCtorEq,Nat.reduceAdd,Nat.reduceMul,Nat.reduceLeDiff,Nat.reduceLT,Nat.reduceEqDiff]
  rw [if_pos hu]
 intro hu
 rw [if_neg (by rw [hu];simp)]
 simp only [ZZ,WW,Ze,reduceCtorEq,Nat.reduceAdd,Nat.reduceMul,Nat.reduceLeDiff,Nat.reduceLT,Nat.reduceEqDiff]
 by_cases hk:d.kind=3∨d.kind=6
 ·have hb:backB d=true:=by simpa [backB] using hk
  rw [if_pos hb]
  refine br ?_ ?_
  ·intro h3
   simp only [ZZ,WW,Ze,reduceCtorEq,Nat.reduceAdd,Nat.reduceMul,Nat.reduceLeDiff,Nat.reduceLT,Nat.reduceEqDiff,h3]
   refine cut_same zE_ ?_
   simp only [ZZ,WW,Ze,reduceCtorEq,Nat.reduceAdd,Nat.reduceMul,Nat.reduceLeDiff,Nat.reduceLT,Nat.reduceEqDiff,h3]
  ·intro h3
   have h6:d.kind=6:=hk.resolve_left (of_decide_eq_false h3)
   have e6:decide (d.kind=6)=true:=by simp [h6]
   simp only [ZZ,WW,Ze,reduceCtorEq,Nat.reduceAdd,Nat.reduceMul,Nat.reduceLeDiff,Nat.reduceLT,Nat.reduceEqDiff,e6]
   refine cut_same zE_ ?_
   simp only [ZZ,WW,Ze,reduceCtorEq,Nat.reduceAdd,Nat.reduceMul,Nat.reduceLeDiff,Nat.reduceLT,Nat.reduceEqDiff]
 have hb:backB d=false:=by
  simp only [backB,Bool.or_eq_false_iff,decide_eq_false_iff_not]
  exact ⟨fun e=>hk (.inl e),fun e=>hk (.inr e)⟩
 rw [if_neg (by rw [hb];simp)]
 have e3:decide (d.kind=3)=false:=by simpa using fun e=>hk (.inl e)
 have e6:decide (d.kind=6)=false:=by simpa using fun e=>hk (.inr e)
 simp only [ZZ,WW,Ze,reduceCtorEq,Nat.reduceAdd,Nat.reduceMul,Nat.reduceLeDiff,Nat.reduceLT,Nat.reduceEqDiff,e3,e6]
 refine cut_same zE_ ?_
 simp only [ZZ,WW,Ze,reduceCtorEq,Nat.reduceAdd,Nat.reduceMul,Nat.reduceLeDiff,Nat.reduceLT,Nat.reduceEqDiff]
 refine br_joinB (fun fr L=>fr=[oo,.adr (.l 1) 0,.p (int 0),.p (.bool (rightB d)),oo,oo,oo,oo,oo,oo,oo,oo,oo,oo,oo,oo,oo,oo,oo,oo,oo,oo,oo,oo,oo,oo,oo,oo,oo,oo,oo,oo,oo,oo,oo,oo,oo,oo,oo,oo,oo,oo,oo,oo,oo,oo,oo,oo,oo,oo,oo,oo,oo,oo,oo,oo,oo,oo,oo,oo,oo,oo,oo,oo,oo,oo,oo,oo,oo,oo,oo,oo,oo,oo,oo,oo,oo,oo,oo,oo]∧L=[(.l 1,.box [.p (.str d.site),.p (int d.no),.p (int d.tm),.p (int d.kind),.p (.str d.id),.p (.str d.field),.p (.str d.value),.p (int d.frm),.p (int d.upto),.p (.str d.osite),.p (int d.ono),.p (.str d.sum)] tDd)]) ?_ ?_ ?_
 ·intro h1
  have h1':d.kind=1:=of_decide_eq_true h1
  have hr:rightB d=(decide ((d.value.length:Int)≤60) && plainB d.value):=by rw [rightB,if_pos h1']
  simp only [ZZ,WW,Ze,reduceCtorEq,Nat.reduceAdd,Nat.reduceMul,Nat.reduceLeDiff,Nat.reduceLT,Nat.reduceEqDiff]
  refine useG (fun _=>Plain_ok d.value (by omega)) rfl (.inl rfl) ?_
  simp only [ZZ,WW,Ze,reduceCtorEq,Nat.reduceAdd,Nat.reduceMul,Nat.reduceLeDiff,Nat.reduceLT,Nat.reduceEqDiff]
  ((repeat' (with_reducible apply And.intro))<;>try ((exact sc_)))
  exact to_mid [oo,.adr (.l 1) 0,.p (int 0),.p (.bool (rightB d)),oo,oo,oo,oo,oo,oo,oo,oo,oo,oo,oo,oo,oo,oo,oo,oo,oo,oo,oo,oo,oo,oo,oo,oo,oo,oo,oo,oo,oo,oo,oo,oo,oo,oo,oo,oo,oo,oo,oo,oo,oo,oo,oo,oo,oo,oo,oo,oo,oo,oo,oo,oo,oo,oo,oo,oo,oo,oo,oo,oo,oo,oo,oo,oo,oo,oo,oo,oo,oo,oo,oo,oo,oo,oo,oo,oo] [(.l 1,.box [.p (.str d.site),.p (int d.no),.p (int d.tm),.p (int d.kind),.p (.str d.id),.p (.str d.field),.p (.str d.value),.p (int d.frm),.p (int d.upto),.p (.str d.osite),.p (int d.ono),.p (.str d.sum)] tDd)] (by rw [hr];(simp only [ZZ,WW,Ze,reduceCtorEq,Nat.reduceAdd,Nat.reduceMul,Nat.reduceLeDiff,Nat.reduceLT,Nat.reduceEqDiff];try trivial)) zE_ ⟨rfl,rfl⟩
 ·intro h1
  have h1':¬ d.kind=1:=of_decide_eq_false h1
  simp only [ZZ,WW,Ze,reduceCtorEq,Nat.reduceAdd,Nat.reduceMul,Nat.reduceLeDiff,Nat.reduceLT,Nat.reduceEqDiff]
  refine br ?_ ?_
  ·intro h2
   have h2':d.kind=2:=of_decide_eq_true h2
   have hr:rightB d=keyB d.value:=by rw [rightB,if_neg h1',if_pos h2']
   simp only [ZZ,WW,Ze,reduceCtorEq,Nat.reduceAdd,Nat.reduceMul,Nat.reduceLeDiff,Nat.reduceLT,Nat.reduceEqDiff]
   refine use1 (Key_ok d.value (by omega)) rfl (.inl rfl) ?_
   simp only [ZZ,WW,Ze,reduceCtorEq,Nat.reduceAdd,Nat.reduceMul,Nat.reduceLeDiff,Nat.reduceLT,Nat.reduceEqDiff]
   exact to_mid [oo,.adr (.l 1) 0,.p (int 0),.p (.bool (rightB d)),oo,oo,oo,oo,oo,oo,oo,oo,oo,oo,oo,oo,oo,oo,oo,oo,oo,oo,oo,oo,oo,oo,oo,oo,oo,oo,oo,oo,oo,oo,oo,oo,oo,oo,oo,oo,oo,oo,oo,oo,oo,oo,oo,oo,oo,oo,oo,oo,oo,oo,oo,oo,oo,oo,oo,oo,oo,oo,oo,oo,oo,oo,oo,oo,oo,oo,oo,oo,oo,oo,oo,oo,oo,oo,oo,oo] [(.l 1,.box [.p (.str d.site),.p (int d.no),.p (int d.tm),.p (int d.kind),.p (.str d.id),.p (.str d.field),.p (.str d.value),.p (int d.frm),.p (int d.upto),.p (.str d.osite),.p (int d.ono),.p (.str d.sum)] tDd)] (by rw [hr];(simp only [ZZ,WW,Ze,reduceCtorEq,Nat.reduceAdd,Nat.reduceMul,Nat.reduceLeDiff,Nat.reduceLT,Nat.reduceEqDiff];try trivial)) zE_ ⟨rfl,rfl⟩
  intro h2
  have h2':¬ d.kind=2:=of_decide_eq_false h2
  simp only [ZZ,WW,Ze,reduceCtorEq,Nat.reduceAdd,Nat.reduceMul,Nat.reduceLeDiff,Nat.reduceLT,Nat.reduceEqDiff]
  refine br ?_ ?_
  ·intro h5
   have h5':d.kind=5:=of_decide_eq_true h5
   have hr:rightB d=(inE d.value.length 1 200 && plainB d.value):=by rw [rightB,if_neg h1',if_neg h2',if_pos h5']
   simp only [ZZ,WW,Ze,reduceCtorEq,Nat.reduceAdd,Nat.reduceMul,Nat.reduceLeDiff,Nat.reduceLT,Nat.reduceEqDiff]
   refine use1 (In_ok _ 1 200) rfl (.inl rfl) ?_
   simp only [ZZ,WW,Ze,reduceCtorEq,Nat.reduceAdd,Nat.reduceMul,Nat.reduceLeDiff,Nat.reduceLT,Nat.reduceEqDiff]
   refine useG (fun _=>Plain_ok d.value (by omega)) rfl (.inl rfl) ?_
   simp only [ZZ,WW,Ze,reduceCtorEq,Nat.reduceAdd,Nat.reduceMul,Nat.reduceLeDiff,Nat.reduceLT,Nat.reduceEqDiff]
   ((repeat' (with_reducible apply And.intro))<;>try ((exact sc_)))
   exact to_mid [oo,.adr (.l 1) 0,.p (int 0),.p (.bool (rightB d)),oo,oo,oo,oo,oo,oo,oo,oo,oo,oo,oo,oo,oo,oo,oo,oo,oo,oo,oo,oo,oo,oo,oo,oo,oo,oo,oo,oo,oo,oo,oo,oo,oo,oo,oo,oo,oo,oo,oo,oo,oo,oo,oo,oo,oo,oo,oo,oo,oo,oo,oo,oo,oo,oo,oo,oo,oo,oo,oo,oo,oo,oo,oo,oo,oo,oo,oo,oo,oo,oo,oo,oo,oo,oo,oo,oo] [(.l 1,.box [.p (.str d.site),.p (int d.no),.p (int d.tm),.p (int d.kind),.p (.str d.id),.p (.str d.field),.p (.str d.value),.p (int d.frm),.p (int d.upto),.p (.str d.osite),.p (int d.ono),.p (.str d.sum)] tDd)] (by rw [hr];(simp only [ZZ,WW,Ze,reduceCtorEq,Nat.reduceAdd,Nat.reduceMul,Nat.reduceLeDiff,Nat.reduceLT,Nat.reduceEqDiff];try trivial)) zE_ ⟨rfl,rfl⟩
  intro h5
  have h5':¬ d.kind=5:=of_decide_eq_false h5
  simp only [ZZ,WW,Ze,reduceCtorEq,Nat.reduceAdd,Nat.reduceMul,Nat.reduceLeDiff,Nat.reduceLT,Nat.reduceEqDiff]
  refine br ?_ ?_
  ·intro h4
   have h4':d.kind=4:=of_decide_eq_true h4
   have hr:rightB d=((decide (0≤d.frm) && decide (d.frm < d.upto)) && decide (d.upto≤20000)):=by rw [rightB,if_neg h1',if_neg h2',if_neg h5',if_pos h4']
   simp only [ZZ,WW,Ze,reduceCtorEq,Nat.reduceAdd,Nat.reduceMul,Nat.reduceLeDiff,Nat.reduceLT,Nat.reduceEqDiff]
   ((repeat' (with_reducible apply And.intro))<;>try ((exact sc_)))
   exact to_mid [oo,.adr (.l 1) 0,.p (int 0),.p (.bool (rightB d)),oo,oo,oo,oo,oo,oo,oo,oo,oo,oo,oo,oo,oo,oo,oo,oo,oo,oo,oo,oo,oo,oo,oo,oo,oo,oo,oo,oo,oo,oo,oo,oo,oo,oo,oo,oo,oo,oo,oo,oo,oo,oo,oo,oo,oo,oo,oo,oo,oo,oo,oo,oo,oo,oo,oo,oo,oo,oo,oo,oo,oo,oo,oo,oo,oo,oo,oo,oo,oo,oo,oo,oo,oo,oo,oo,oo] [(.l 1,.box [.p (.str d.site),.p (int d.no),.p (int d.tm),.p (int d.kind),.p (.str d.id),.p (.str d.field),.p (.str d.value),.p (int d.frm),.p (int d.upto),.p (.str d.osite),.p (int d.ono),.p (.str d.sum)] tDd)] (by rw [hr];(simp only [ZZ,WW,Ze,reduceCtorEq,Nat.reduceAdd,Nat.reduceMul,Nat.reduceLeDiff,Nat.reduceLT,Nat.reduceEqDiff];try trivial)) zE_ ⟨rfl,rfl⟩
  ·intro h4
   have h4':¬ d.kind=4:=of_decide_eq_false h4
   have hr:rightB d=true:=by rw [rightB,if_neg h1',if_neg h2',if_neg h5',if_neg h4']
   simp only [ZZ,WW,Ze,reduceCtorEq,Nat.reduceAdd,Nat.reduceMul,Nat.reduceLeDiff,Nat.reduceLT,Nat.reduceEqDiff]
   exact to_mid [oo,.adr (.l 1) 0,.p (int 0),.p (.bool (rightB d)),oo,oo,oo,oo,oo,oo,oo,oo,oo,oo,oo,oo,oo,oo,oo,oo,oo,oo,oo,oo,oo,oo,oo,oo,oo,oo,oo,oo,oo,oo,oo,oo,oo,oo,oo,oo,oo,oo,oo,oo,oo,oo,oo,oo,oo,oo,oo,oo,oo,oo,oo,oo,oo,oo,oo,oo,oo,oo,oo,oo,oo,oo,oo,oo,oo,oo,oo,oo,oo,oo,oo,oo,oo,oo,oo,oo] [(.l 1,.box [.p (.str d.site),.p (int d.no),.p (int d.tm),.p (int d.kind),.p (.str d.id),.p (.str d.field),.p (.str d.value),.p (int d.frm),.p (int d.upto),.p (.str d.osite),.p (int d.ono),.p (.str d.sum)] tDd)] (by rw [hr];(simp only [ZZ,WW,Ze,reduceCtorEq,Nat.reduceAdd,Nat.reduceMul,Nat.reduceLeDiff,Nat.reduceLT,Nat.reduceEqDiff];try trivial)) zE_ ⟨rfl,rfl⟩
 ·rintro fr L ⟨rfl,rfl⟩
  simp only [ZZ,WW,Ze,reduceCtorEq,Nat.reduceAdd,Nat.reduceMul,Nat.reduceLeDiff,Nat.reduceLT,Nat.reduceEqDiff]
  refine use1 (Key_ok d.id (by omega)) rfl (.inl rfl) ?_
  simp only [ZZ,WW,Ze,reduceCtorEq,Nat.reduceAdd,Nat.reduceMul,Nat.reduceLeDiff,Nat.reduceLT,Nat.reduceEqDiff]
  refine useG (fun _=>Key_ok d.field (by omega)) rfl (.inl rfl) ?_
  simp only [ZZ,WW,Ze,reduceCtorEq,Nat.reduceAdd,Nat.reduceMul,Nat.reduceLeDiff,Nat.reduceLT,Nat.reduceEqDiff]
  refine ⟨fun h=>⟨h,fun h2=>by rw [h,h2];rfl⟩,fun h=>by rw [h];rfl,?_⟩
  refine use1 (When_ok (!keyB d.id || decide (d.kind=1) && !keyB d.field) 5) rfl (.inl rfl) ?_
  simp only [ZZ,WW,Ze,reduceCtorEq,Nat.reduceAdd,Nat.reduceMul,Nat.reduceLeDiff,Nat.reduceLT,Nat.reduceEqDiff]
  refine use1 (When_ok (!rightB d) 3) rfl (.inl rfl) ?_
  simp only [ZZ,WW,Ze,reduceCtorEq,Nat.reduceAdd,Nat.reduceMul,Nat.reduceLeDiff,Nat.reduceLT,Nat.reduceEqDiff]
  refine use1 (First_ok [whenE (!keyB d.id || decide (d.kind=1) && !keyB d.field) 5,whenE (!rightB d) 3] (by simp)) rfl (.inl rfl) ?_
  simp only [ZZ,WW,Ze,reduceCtorEq,Nat.reduceAdd,Nat.reduceMul,Nat.reduceLeDiff,Nat.reduceLT,Nat.reduceEqDiff]
  cases (!keyB d.id || decide (d.kind=1) && !keyB d.field)<;>cases rightB d<;>simp [whenE,firstE]
def refF (d:Dd):Int:=
 if inE d.tm 0 5761439=false then 1 else if (decide (d.kind < 1) || decide (6 < d.kind))=true then 4
 else if unusedB d=true then 3
 else if ((!backB d && !keyB d.id) || (decide (d.kind=1) && !keyB d.field))=true then 5
 else if (((decide (d.kind=1) && (!plainB d.value || decide (60 < (d.value.length:Int)))) || (decide (d.kind=2) && !keyB d.value)) || (decide (d.kind=5) && ((!plainB d.value || decide ((d.value.length:Int) < 1)) || decide (200 < (d.value.length:Int)))))=true then 3
 else if (decide (d.kind=4) && ((decide (d.frm < 0) || decide (d.upto≤d.frm)) || decide (20000 < d.upto)))=true then 3 else 0
theorem refF_eq (d:Dd):refF d=oneF d:=by
 unfold refF oneF
 by_cases h0:inE d.tm 0 5761439=false
 ·rw [if_pos h0,if_pos h0]
 rw [if_neg h0,if_neg h0]
 by_cases hr:1≤d.kind∧d.kind≤6
 ·have e1:(decide (d.kind < 1) || decide (6 < d.kind))=false:=by simp;omega
  have e2:inE d.kind 1 6=true:=by simp [inE,hr.1,hr.2]
  rw [e1,e2]
  simp only [Bool.false_eq_true,if_false,Bool.true_eq_false]
  unfold formF
  by_cases hu:unusedB d=true
  ·rw [if_pos hu,if_pos hu]
  rw [if_neg hu,if_neg hu]
  obtain ⟨k,hk⟩:∃ k,d.kind=k:=⟨_,rfl⟩
  have hk6:k=1∨k=2∨k=3∨k=4∨k=5∨k=6:=by omega
  unfold rightB backB inE
  rcases hk6 with rfl|rfl|rfl|rfl|rfl|rfl
  all_goals
   simp only [hk]
   simp (config:={ decide:=true }) only [Bool.false_and,Bool.false_or,Bool.true_and,Bool.or_false,Bool.not_false,Bool.not_true,if_true,if_false,Bool.false_eq_true,decide_true,decide_false]
  all_goals (cases keyB d.id<;>cases keyB d.field<;>cases plainB d.value<;>cases keyB d.value<;>simp<;>(try split)<;>(try split)<;>first|rfl|omega)
 ·have e1:(decide (d.kind < 1) || decide (6 < d.kind))=true:=by simp;omega
  have e2:inE d.kind 1 6=false:=by
   simp only [inE,Bool.and_eq_false_iff,decide_eq_false_iff_not]
   omega
  rw [e1,e2]
  simp
set_option maxRecDepth 100000 in
set_option maxHeartbeats 4000000 in
theorem deedFault_ok (d:Dd) (h:DdB d):PCall Tryz.prog E0 51 [.agg (ddC d)] (·=int (refF d)):=by
 have b2:=h.b2
 have b3:=h.b3
 have b4:=h.b4
 refine pcallF mixed Tryz.func51 ck_chaseref1_deedFault ?_
 simp only [a0,l0,OS.ao,List.map_cons,List.map_nil,List.length_cons,List.length_nil,List.cons_append,List.nil_append,Nat.reduceSub,Nat.reduceAdd,List.replicate_succ,List.replicate_zero,ir_chaseref1_deedFault,rs_chaseref1_deedFault,ZZ,WW,Ze,reduceCtorEq,Nat.reduceAdd,Nat.reduceMul,Nat.reduceLeDiff,Nat.reduceLT,Nat.reduceEqDiff]
 simp only [ddC,ZZ,WW,Ze,reduceCtorEq,Nat.reduceAdd,Nat.reduceMul,Nat.reduceLeDiff,Nat.reduceLT,Nat.reduceEqDiff]
 refine use1 (MomentR_ok d.tm) rfl (.inl rfl) ?_
 simp only [ZZ,WW,Ze,reduceCtorEq,Nat.reduceAdd,Nat.reduceMul,Nat.reduceLeDiff,Nat.reduceLT,Nat.reduceEqDiff]
 unfold refF
 refine br ?_ ?_
 ·intro hm
  have hm:inE d.tm 0 5761439=false:=by simpa using hm
  simp only [ZZ,WW,Ze,reduceCtorEq,Nat.reduceAdd,Nat.reduceMul,Nat.reduceLeDiff,Nat.reduceLT,Nat.reduceEqDiff]
  rw [if_pos hm]
 intro hm
 have hm:inE d.tm 0 5761439=true:=by simpa using hm
 rw [if_neg (by rw [hm];simp)]
 simp only [ZZ,WW,Ze,reduceCtorEq,Nat.reduceAdd,Nat.reduceMul,Nat.reduceLeDiff,Nat.reduceLT,Nat.reduceEqDiff]
 ((repeat' (with_reducible apply And.intro))<;>try ((exact sc_)))
 refine br ?_ ?_
 ·intro hk
  simp only [ZZ,WW,Ze,reduceCtorEq,Nat.reduceAdd,Nat.reduceMul,Nat.reduceLeDiff,Nat.reduceLT,Nat.reduceEqDiff]
  rw [if_pos hk]
 intro hk
 rw [if_neg (by rw [hk];simp)]
 simp only [ZZ,WW,Ze,reduceCtorEq,Nat.reduceAdd,Nat.reduceMul,Nat.reduceLeDiff,Nat.reduceLT,Nat.reduceEqDiff]
 repeat first|refine ⟨fun h=>by rw [h];rfl,?_⟩|refine ⟨fun h=>⟨h,fun h2=>by rw [h,h2];rfl⟩,?_⟩
 refine br ?_ ?_
 ·intro hu
  have hu:unusedB d=true:=hu
  simp only [ZZ,WW,Ze,reduceCtorEq,Nat.reduceAdd,Nat.reduceMul,Nat.reduceLeDiff,Nat.reduceLT,Nat.reduceEqDiff]
  rw [if_pos hu]
 intro hu
 have hu:unusedB d=false:=hu
 rw [if_neg (by rw [hu];simp)]
 have hb:(decide (d.kind=3) || decide (d.kind=6))=backB d:=rfl
 simp only [ZZ,WW,Ze,reduceCtorEq,Nat.reduceAdd,Nat.reduceMul,Nat.reduceLeDiff,Nat.reduceLT,Nat.reduceEqDiff,hb]
 refine useG (fun _=>KeyOf_ok d.id (by omega)) rfl (.inl rfl) ?_
 simp only [ZZ,WW,Ze,reduceCtorEq,Nat.reduceAdd,Nat.reduceMul,Nat.reduceLeDiff,Nat.reduceLT,Nat.reduceEqDiff]
 refine br_join (fun fr L=>fr=[oo,.adr (.l 1) 0,.p (int 0),.p (.bool (backB d)),oo,oo,oo,oo,oo,oo,oo,oo,oo,oo,oo,oo,oo,oo,oo,oo,oo,oo,oo,oo,oo,oo,oo,oo,oo,oo,oo,oo,oo,oo,oo,oo,oo,oo,oo,oo,oo,oo,oo,oo,oo,oo,oo,oo,oo,oo,oo,oo,oo,oo,oo,oo,oo,oo,oo,oo,oo,oo,oo,oo,oo,oo,oo,oo,oo,oo,oo,oo,oo,oo,oo,oo,oo,oo,oo,oo,oo,oo,oo,oo,oo,oo,oo,.p (.bool ((!backB d && !keyB d.id) || (decide (d.kind=1) && !keyB d.field))),oo,oo,oo,oo,oo,oo,oo,oo,oo,oo,oo,oo,oo,oo,oo,oo,oo,oo,oo,oo,oo,oo,oo,oo,oo,oo,oo,oo,oo,oo,oo,oo,oo,oo,oo,oo,oo,oo,oo,oo,oo,oo,oo,oo,oo,oo,oo,oo,oo,oo,oo,oo,oo,oo,oo,oo,oo,oo,oo,oo,oo,oo,oo,oo,oo,oo,oo,oo,oo,oo,oo,oo,oo,oo,oo,oo,oo,oo,oo,oo,oo,oo,oo,oo,oo,oo,oo,oo]∧L=[(.l 1,.box [.p (.str d.site),.p (int d.no),.p (int d.tm),.p (int d.kind),.p (.str d.id),.p (.str d.field),.p (.str d.value),.p (int d.frm),.p (int d.upto),.p (.str d.osite),.p (int d.ono),.p (.str d.sum)] tDd)]) ?_ ?_ ?_
 ·intro h1
  have e:((!backB d && !keyB d.id) || (decide (d.kind=1) && !keyB d.field))=(!backB d && !keyB d.id):=by rw [h1];rfl
  simp only [ZZ,WW,Ze,reduceCtorEq,Nat.reduceAdd,Nat.reduceMul,Nat.reduceLeDiff,Nat.reduceLT,Nat.reduceEqDiff]
  exact to_mid [oo,.adr (.l 1) 0,.p (int 0),.p (.bool (backB d)),oo,oo,oo,oo,oo,oo,oo,oo,oo,oo,oo,oo,oo,oo,oo,oo,oo,oo,oo,oo,oo,oo,oo,oo,oo,oo,oo,oo,oo,oo,oo,oo,oo,oo,oo,oo,oo,oo,oo,oo,oo,oo,oo,oo,oo,oo,oo,oo,oo,oo,oo,oo,oo,oo,oo,oo,oo,oo,oo,oo,oo,oo,oo,oo,oo,oo,oo,oo,oo,oo,oo,oo,oo,oo,oo,oo,oo,oo,oo,oo,oo,oo,oo,.p (.bool ((!backB d && !keyB d.id) || (decide (d.kind=1) && !keyB d.field))),oo,oo,oo,oo,oo,oo,oo,oo,oo,oo,oo,oo,oo,oo,oo,oo,oo,oo,oo,oo,oo,oo,oo,oo,oo,oo,oo,oo,oo,oo,oo,oo,oo,oo,oo,oo,oo,oo,oo,oo,oo,oo,oo,oo,oo,oo,oo,oo,oo,oo,oo,oo,oo,oo,oo,oo,oo,oo,oo,oo,oo,oo,oo,oo,oo,oo,oo,oo,oo,oo,oo,oo,oo,oo,oo,oo,oo,oo,oo,oo,oo,oo,oo,oo,oo,oo,oo,oo] [(.l 1,.box [.p (.str d.site),.p (int d.no),.p (int d.tm),.p (int d.kind),.p (.str d.id),.p (.str d.field),.p (.str d.value),.p (int d.frm),.p (int d.upto),.p (.str d.osite),.p (int d.ono),.p (.str d.sum)] tDd)] (by rw [e];(simp only [ZZ,WW,Ze,reduceCtorEq,Nat.reduceAdd,Nat.reduceMul,Nat.reduceLeDiff,Nat.reduceLT,Nat.reduceEqDiff];try trivial)) zE_ ⟨rfl,rfl⟩
 ·intro h1
  have e:((!backB d && !keyB d.id) || (decide (d.kind=1) && !keyB d.field))=(decide (d.kind=1) && !keyB d.field):=by rw [h1];rfl
  simp only [ZZ,WW,Ze,reduceCtorEq,Nat.reduceAdd,Nat.reduceMul,Nat.reduceLeDiff,Nat.reduceLT,Nat.reduceEqDiff]
  refine useG (fun _=>KeyOf_ok d.field (by omega)) rfl (.inl rfl) ?_
  simp only [ZZ,WW,Ze,reduceCtorEq,Nat.reduceAdd,Nat.reduceMul,Nat.reduceLeDiff,Nat.reduceLT,Nat.reduceEqDiff]
  exact to_mid [oo,.adr (.l 1) 0,.p (int 0),.p (.bool (backB d)),oo,oo,oo,oo,oo,oo,oo,oo,oo,oo,oo,oo,oo,oo,oo,oo,oo,oo,oo,oo,oo,oo,oo,oo,oo,oo,oo,oo,oo,oo,oo,oo,oo,oo,oo,oo,oo,oo,oo,oo,oo,oo,oo,oo,oo,oo,oo,oo,oo,oo,oo,oo,oo,oo,oo,oo,oo,oo,oo,oo,oo,oo,oo,oo,oo,oo,oo,oo,oo,oo,oo,oo,oo,oo,oo,oo,oo,oo,oo,oo,oo,oo,oo,.p (.bool ((!backB d && !keyB d.id) || (decide (d.kind=1) && !keyB d.field))),oo,oo,oo,oo,oo,oo,oo,oo,oo,oo,oo,oo,oo,oo,oo,oo,oo,oo,oo,oo,oo,oo,oo,oo,oo,oo,oo,oo,oo,oo,oo,oo,oo,oo,oo,oo,oo,oo,oo,oo,oo,oo,oo,oo,oo,oo,oo,oo,oo,oo,oo,oo,oo,oo,oo,oo,oo,oo,oo,oo,oo,oo,oo,oo,oo,oo,oo,oo,oo,oo,oo,oo,oo,oo,oo,oo,oo,oo,oo,oo,oo,oo,oo,oo,oo,oo,oo,oo] [(.l 1,.box [.p (.str d.site),.p (int d.no),.p (int d.tm),.p (int d.kind),.p (.str d.id),.p (.str d.field),.p (.str d.value),.p (int d.frm),.p (int d.upto),.p (.str d.osite),.p (int d.ono),.p (.str d.sum)] tDd)] (by rw [e];(simp only [ZZ,WW,Ze,reduceCtorEq,Nat.reduceAdd,Nat.reduceMul,Nat.reduceLeDiff,Nat.reduceLT,Nat.reduceEqDiff];try trivial)) zE_ ⟨rfl,rfl⟩
 rintro fr L ⟨rfl,rfl⟩
 simp only [ZZ,WW,Ze,reduceCtorEq,Nat.reduceAdd,Nat.reduceMul,Nat.reduceLeDiff,Nat.reduceLT,Nat.reduceEqDiff]
 refine br ?_ ?_
 ·intro h2
  simp only [ZZ,WW,Ze,reduceCtorEq,Nat.reduceAdd,Nat.reduceMul,Nat.reduceLeDiff,Nat.reduceLT,Nat.reduceEqDiff]
  rw [if_pos h2]
 intro h2
 rw [if_neg (by rw [h2];simp)]
 simp only [ZZ,WW,Ze,reduceCtorEq,Nat.reduceAdd,Nat.reduceMul,Nat.reduceLeDiff,Nat.reduceLT,Nat.reduceEqDiff]
 refine useG (fun _=>PlainOf_ok d.value (by omega)) rfl (.inl rfl) ?_
 simp only [ZZ,WW,Ze,reduceCtorEq,Nat.reduceAdd,Nat.reduceMul,Nat.reduceLeDiff,Nat.reduceLT,Nat.reduceEqDiff]
 repeat first|refine ⟨fun h=>by rw [h];rfl,?_⟩|refine ⟨fun h=>⟨h,fun h2=>by rw [h,h2];rfl⟩,?_⟩
 refine br_join (fun fr L=>fr=[oo,.adr (.l 1) 0,.p (int 0),oo,oo,oo,oo,oo,oo,oo,oo,oo,oo,oo,oo,oo,oo,oo,oo,oo,oo,oo,oo,oo,oo,oo,oo,oo,oo,oo,oo,oo,oo,oo,oo,oo,oo,oo,oo,oo,oo,oo,oo,oo,oo,oo,oo,oo,oo,oo,oo,oo,oo,oo,oo,oo,oo,oo,oo,oo,oo,oo,oo,oo,oo,oo,oo,oo,oo,oo,oo,oo,oo,oo,oo,oo,oo,oo,oo,oo,oo,oo,oo,oo,oo,oo,oo,oo,oo,oo,oo,oo,oo,oo,oo,oo,oo,oo,oo,oo,oo,oo,oo,oo,oo,.p (.bool (((decide (d.kind=1) && (!plainB d.value || decide (60 < (d.value.length:Int)))) || (decide (d.kind=2) && !keyB d.value)) || (decide (d.kind=5) && ((!plainB d.value || decide ((d.value.length:Int) < 1)) || decide (200 < (d.value.length:Int)))))),oo,oo,oo,oo,oo,oo,oo,oo,oo,oo,oo,oo,oo,oo,oo,oo,oo,oo,oo,oo,oo,oo,oo,oo,oo,oo,oo,oo,oo,oo,oo,oo,oo,oo,oo,oo,oo,oo,oo,oo,oo,oo,oo,oo,oo,oo,oo,oo,oo,oo,oo,oo,oo,oo,oo,oo,oo,oo,oo,oo,oo,oo,oo,oo,oo,oo,oo,oo,oo,oo]∧L=[(.l 1,.box [.p (.str d.site),.p (int d.no),.p (int d.tm),.p (int d.kind),.p (.str d.id),.p (.str d.field),.p (.str d.value),.p (int d.frm),.p (int d.upto),.p (.str d.osite),.p (int d.ono),.p (.str d.sum)] tDd)]) ?_ ?_ ?_
 ·intro h3
  have e:(((decide (d.kind=1) && (!plainB d.value || decide (60 < (d.value.length:Int)))) || (decide (d.kind=2) && !keyB d.value)) || (decide (d.kind=5) && ((!plainB d.value || decide ((d.value.length:Int) < 1)) || decide (200 < (d.value.length:Int)))))=(decide (d.kind=1) && (!plainB d.value || decide (60 < (d.value.length:Int)))):=by rw [h3];rfl
  simp only [ZZ,WW,Ze,reduceCtorEq,Nat.reduceAdd,Nat.reduceMul,Nat.reduceLeDiff,Nat.reduceLT,Nat.reduceEqDiff]
  exact to_mid [oo,.adr (.l 1) 0,.p (int 0),oo,oo,oo,oo,oo,oo,oo,oo,oo,oo,oo,oo,oo,oo,oo,oo,oo,oo,oo,oo,oo,oo,oo,oo,oo,oo,oo,oo,oo,oo,oo,oo,oo,oo,oo,oo,oo,oo,oo,oo,oo,oo,oo,oo,oo,oo,oo,oo,oo,oo,oo,oo,oo,oo,oo,oo,oo,oo,oo,oo,oo,oo,oo,oo,oo,oo,oo,oo,oo,oo,oo,oo,oo,oo,oo,oo,oo,oo,oo,oo,oo,oo,oo,oo,oo,oo,oo,oo,oo,oo,oo,oo,oo,oo,oo,oo,oo,oo,oo,oo,oo,oo,.p (.bool (((decide (d.kind=1) && (!plainB d.value || decide (60 < (d.value.length:Int)))) || (decide (d.kind=2) && !keyB d.value)) || (decide (d.kind=5) && ((!plainB d.value || decide ((d.value.length:Int) < 1)) || decide (200 < (d.value.length:Int)))))),oo,oo,oo,oo,oo,oo,oo,oo,oo,oo,oo,oo,oo,oo,oo,oo,oo,oo,oo,oo,oo,oo,oo,oo,oo,oo,oo,oo,oo,oo,oo,oo,oo,oo,oo,oo,oo,oo,oo,oo,oo,oo,oo,oo,oo,oo,oo,oo,oo,oo,oo,oo,oo,oo,oo,oo,oo,oo,oo,oo,oo,oo,oo,oo,oo,oo,oo,oo,oo,oo] [(.l 1,.box [.p (.str d.site),.p (int d.no),.p (int d.tm),.p (int d.kind),.p (.str d.id),.p (.str d.field),.p (.str d.value),.p (int d.frm),.p (int d.upto),.p (.str d.osite),.p (int d.ono),.p (.str d.sum)] tDd)] (by rw [e];(simp only [ZZ,WW,Ze,reduceCtorEq,Nat.reduceAdd,Nat.reduceMul,Nat.reduceLeDiff,Nat.reduceLT,Nat.reduceEqDiff];try trivial)) zE_ ⟨rfl,rfl⟩
 ·intro h3
  simp only [ZZ,WW,Ze,reduceCtorEq,Nat.reduceAdd,Nat.reduceMul,Nat.reduceLeDiff,Nat.reduceLT,Nat.reduceEqDiff]
  refine useG (fun _=>KeyOf_ok d.value (by omega)) rfl (.inl rfl) ?_
  simp only [ZZ,WW,Ze,reduceCtorEq,Nat.reduceAdd,Nat.reduceMul,Nat.reduceLeDiff,Nat.reduceLT,Nat.reduceEqDiff]
  refine br ?_ ?_
  ·intro h4
   have e:(((decide (d.kind=1) && (!plainB d.value || decide (60 < (d.value.length:Int)))) || (decide (d.kind=2) && !keyB d.value)) || (decide (d.kind=5) && ((!plainB d.value || decide ((d.value.length:Int) < 1)) || decide (200 < (d.value.length:Int)))))=(decide (d.kind=2) && !keyB d.value):=by rw [h3,h4];rfl
   simp only [ZZ,WW,Ze,reduceCtorEq,Nat.reduceAdd,Nat.reduceMul,Nat.reduceLeDiff,Nat.reduceLT,Nat.reduceEqDiff]
   exact to_mid [oo,.adr (.l 1) 0,.p (int 0),oo,oo,oo,oo,oo,oo,oo,oo,oo,oo,oo,oo,oo,oo,oo,oo,oo,oo,oo,oo,oo,oo,oo,oo,oo,oo,oo,oo,oo,oo,oo,oo,oo,oo,oo,oo,oo,oo,oo,oo,oo,oo,oo,oo,oo,oo,oo,oo,oo,oo,oo,oo,oo,oo,oo,oo,oo,oo,oo,oo,oo,oo,oo,oo,oo,oo,oo,oo,oo,oo,oo,oo,oo,oo,oo,oo,oo,oo,oo,oo,oo,oo,oo,oo,oo,oo,oo,oo,oo,oo,oo,oo,oo,oo,oo,oo,oo,oo,oo,oo,oo,oo,.p (.bool (((decide (d.kind=1) && (!plainB d.value || decide (60 < (d.value.length:Int)))) || (decide (d.kind=2) && !keyB d.value)) || (decide (d.kind=5) && ((!plainB d.value || decide ((d.value.length:Int) < 1)) || decide (200 < (d.value.length:Int)))))),oo,oo,oo,oo,oo,oo,oo,oo,oo,oo,oo,oo,oo,oo,oo,oo,oo,oo,oo,oo,oo,oo,oo,oo,oo,oo,oo,oo,oo,oo,oo,oo,oo,oo,oo,oo,oo,oo,oo,oo,oo,oo,oo,oo,oo,oo,oo,oo,oo,oo,oo,oo,oo,oo,oo,oo,oo,oo,oo,oo,oo,oo,oo,oo,oo,oo,oo,oo,oo,oo] [(.l 1,.box [.p (.str d.site),.p (int d.no),.p (int d.tm),.p (int d.kind),.p (.str d.id),.p (.str d.field),.p (.str d.value),.p (int d.frm),.p (int d.upto),.p (.str d.osite),.p (int d.ono),.p (.str d.sum)] tDd)] (by rw [e];(simp only [ZZ,WW,Ze,reduceCtorEq,Nat.reduceAdd,Nat.reduceMul,Nat.reduceLeDiff,Nat.reduceLT,Nat.reduceEqDiff];try trivial)) zE_ ⟨rfl,rfl⟩
  ·intro h4
   have e:(((decide (d.kind=1) && (!plainB d.value || decide (60 < (d.value.length:Int)))) || (decide (d.kind=2) && !keyB d.value)) || (decide (d.kind=5) && ((!plainB d.value || decide ((d.value.length:Int) < 1)) || decide (200 < (d.value.length:Int)))))=(decide (d.kind=5) && ((!plainB d.value || decide ((d.value.length:Int) < 1)) || decide (200 < (d.value.length:Int)))):=by rw [h3,h4];rfl
   simp only [ZZ,WW,Ze,reduceCtorEq,Nat.reduceAdd,Nat.reduceMul,Nat.reduceLeDiff,Nat.reduceLT,Nat.reduceEqDiff]
   refine useG (fun _=>PlainOf_ok d.value (by omega)) rfl (.inl rfl) ?_
   simp only [ZZ,WW,Ze,reduceCtorEq,Nat.reduceAdd,Nat.reduceMul,Nat.reduceLeDiff,Nat.reduceLT,Nat.reduceEqDiff]
   repeat first|refine ⟨fun h=>by rw [h];rfl,?_⟩|refine ⟨fun h=>⟨h,fun h2=>by rw [h,h2];rfl⟩,?_⟩
   exact to_mid [oo,.adr (.l 1) 0,.p (int 0),oo,oo,oo,oo,oo,oo,oo,oo,oo,oo,oo,oo,oo,oo,oo,oo,oo,oo,oo,oo,oo,oo,oo,oo,oo,oo,oo,oo,oo,oo,oo,oo,oo,oo,oo,oo,oo,oo,oo,oo,oo,oo,oo,oo,oo,oo,oo,oo,oo,oo,oo,oo,oo,oo,oo,oo,oo,oo,oo,oo,oo,oo,oo,oo,oo,oo,oo,oo,oo,oo,oo,oo,oo,oo,oo,oo,oo,oo,oo,oo,oo,oo,oo,oo,oo,oo,oo,oo,oo,oo,oo,oo,oo,oo,oo,oo,oo,oo,oo,oo,oo,oo,.p (.bool (((decide (d.kind=1) && (!plainB d.value || decide (60 < (d.value.length:Int)))) || (decide (d.kind=2) && !keyB d.value)) || (decide (d.kind=5) && ((!plainB d.value || decide ((d.value.length:Int) < 1)) || decide (200 < (d.value.length:Int)))))),oo,oo,oo,oo,oo,oo,oo,oo,oo,oo,oo,oo,oo,oo,oo,oo,oo,oo,oo,oo,oo,oo,oo,oo,oo,oo,oo,oo,oo,oo,oo,oo,oo,oo,oo,oo,oo,oo,oo,oo,oo,oo,oo,oo,oo,oo,oo,oo,oo,oo,oo,oo,oo,oo,oo,oo,oo,oo,oo,oo,oo,oo,oo,oo,oo,oo,oo,oo,oo,oo] [(.l 1,.box [.p (.str d.site),.p (int d.no),.p (int d.tm),.p (int d.kind),.p (.str d.id),.p (.str d.field),.p (.str d.value),.p (int d.frm),.p (int d.upto),.p (.str d.osite),.p (int d.ono),.p (.str d.sum)] tDd)] (by rw [e];(simp only [ZZ,WW,Ze,reduceCtorEq,Nat.reduceAdd,Nat.reduceMul,Nat.reduceLeDiff,Nat.reduceLT,Nat.reduceEqDiff];try trivial)) zE_ ⟨rfl,rfl⟩
 rintro fr L ⟨rfl,rfl⟩
 simp only [ZZ,WW,Ze,reduceCtorEq,Nat.reduceAdd,Nat.reduceMul,Nat.reduceLeDiff,Nat.reduceLT,Nat.reduceEqDiff]
 refine br ?_ ?_
 ·intro h5
  simp only [ZZ,WW,Ze,reduceCtorEq,Nat.reduceAdd,Nat.reduceMul,Nat.reduceLeDiff,Nat.reduceLT,Nat.reduceEqDiff]
  rw [if_pos h5]
 intro h5
 rw [if_neg (by rw [h5];simp)]
 simp only [ZZ,WW,Ze,reduceCtorEq,Nat.reduceAdd,Nat.reduceMul,Nat.reduceLeDiff,Nat.reduceLT,Nat.reduceEqDiff]
 refine ⟨fun h=>⟨h,fun h2=>by rw [h,h2];rfl⟩,fun h=>⟨h,fun h2=>by rw [h,h2];rfl⟩,?_⟩
 refine br ?_ ?_
 ·intro h6
  simp only [ZZ,WW,Ze,reduceCtorEq,Nat.reduceAdd,Nat.reduceMul,Nat.reduceLeDiff,Nat.reduceLT,Nat.reduceEqDiff]
  rw [if_pos h6]
 ·intro h6
  simp only [ZZ,WW,Ze,reduceCtorEq,Nat.reduceAdd,Nat.reduceMul,Nat.reduceLeDiff,Nat.reduceLT,Nat.reduceEqDiff]
  rw [if_neg (by rw [h6];simp)]
def ir_chaseref1_DeedsFault_L1:IC:=(.seq (.reg [qO 97 (.bin .lss (.t 96) (.t 95))]) (.seq (.cond (.t 97) .skip (.exit 3)) (.seq (.block 4 (.seq (.reg [qM 98 96,qO 99 (.ixa 12 (.t 94) (.t 96)),qO 100 (.ld 12 true (.t 99)),qO 10 (.alc 45 [.str [],.int .i64 0,.int .i64 0,.int .i64 0,.str [],.str [],.str [],.int .i64 0,.int .i64 0,.str [],.int .i64 0,.str []]),qM 9 98,⟨none,.st 12 (.t 10) (.t 100),none⟩]) (.seq (.seq (.reg [qO 101 (.fla 3 (.t 10)),qO 102 (.ld 1 false (.t 101)),qO 103 (.bin .neq (.t 102) (.c (.int .i64 3))),qM 104 103,⟨some 105,.fla 3 (.t 10),(some (104,true))⟩,⟨some 106,.ld 1 false (.t 105),(some (104,true))⟩,⟨some 107,.bin .neq (.t 106) (.c (.int .i64 6)),(some (104,true))⟩,qO 108 (.pick (.t 104) (.t 107) (.c (.bool false)))]) (.cond (.t 108) (.exit 4) .skip)) (.seq (.reg [qM 110 0,qO 111 (.fla 9 (.t 10)),qO 112 (.ld 2 true (.t 111)),qO 113 (.call 52 [.t 110,.t 112]),qM 109 113,qO 114 (.ext 0 (.t 109)),qO 115 (.ext 1 (.t 109)),qO 11 (.alc 45 [.str [],.int .i64 0,.int .i64 0,.int .i64 0,.str [],.str [],.str [],.int .i64 0,.int .i64 0,.str [],.int .i64 0,.str []]),⟨none,.st 12 (.t 11) (.t 114),none⟩,qM 12 115]) (.seq (.seq (.reg [qM 116 12,qO 117 (.not (.t 116))]) (.cond (.t 117) (.seq (.reg [qM 118 9,qM 2 118,qO 3 (.mov (.c (.int .i64 8)))]) .ret) .skip)) (.seq (.reg [qO 119 (.ld 12 true (.t 10)),qO 120 (.ld 12 true (.t 11)),qO 121 (.call 53 [.t 119,.t 120]),qO 122 (.not (.t 121))]) (.cond (.t 122) (.seq (.reg [qM 123 9,qM 2 123,qO 3 (.mov (.c (.int .i64 16)))]) .ret) .skip))))))) (.cut (.reg [qO 124 (.bin .add (.t 96) (.c (.int .i64 1))),qM 96 124])))))
def ir_chaseref1_DeedsFault_L0:IC:=(.seq (.reg [qO 19 (.bin .lss (.t 18) (.t 17))]) (.seq (.cond (.t 19) .skip (.exit 0)) (.seq (.block 1 (.seq (.reg [qM 20 18,qO 21 (.ixa 12 (.t 16) (.t 18)),qO 22 (.ld 12 true (.t 21)),qO 5 (.alc 45 [.str [],.int .i64 0,.int .i64 0,.int .i64 0,.str [],.str [],.str [],.int .i64 0,.int .i64 0,.str [],.int .i64 0,.str []]),qM 4 20,⟨none,.st 12 (.t 5) (.t 22),none⟩]) (.seq (.reg [qO 6 (.mov (.c (.int .i64 1))),qO 7 (.mov (.c (.str [])))]) (.seq (.seq (.drg [qM 23 4,qO 24 (.bin .gtr (.t 23) (.c (.int .i64 0))),qM 25 24,⟨some 26,.mov (.t 0),(some (25,true))⟩,⟨some 27,.mov (.t 4),(some (25,true))⟩,⟨some 28,.bin .sub (.t 27) (.c (.int .i64 1)),(some (25,true))⟩,⟨some 29,.ixa 12 (.t 26) (.t 28),(some (25,true))⟩,⟨some 30,.fla 0 (.t 29),(some (25,true))⟩,⟨some 31,.fla 0 (.t 30),(some (25,true))⟩,⟨some 32,.ld 1 false (.t 31),(some (25,true))⟩,⟨some 33,.fla 0 (.t 5),(some (25,true))⟩,⟨some 34,.fla 0 (.t 33),(some (25,true))⟩,⟨some 35,.ld 1 false (.t 34),(some (25,true))⟩,⟨some 36,.bin .eql (.t 32) (.t 35),(some (25,true))⟩,qO 37 (.pick (.t 25) (.t 36) (.c (.bool false)))]) (.cond (.t 37) (.drg [qM 38 0,qM 39 4,qO 40 (.bin .sub (.t 39) (.c (.int .i64 1))),qO 41 (.ixa 12 (.t 38) (.t 40)),qO 42 (.fla 0 (.t 41)),qO 43 (.fla 1 (.t 42)),qO 44 (.ld 1 false (.t 43)),qO 45 (.bin .add (.t 44) (.c (.int .i64 1))),qM 46 0,qM 47 4,qO 48 (.bin .sub (.t 47) (.c (.int .i64 1))),qO 49 (.ixa 12 (.t 46) (.t 48)),qO 50 (.fla 11 (.t 49)),qO 51 (.ld 1 false (.t 50)),qM 6 45,qM 7 51]) .skip)) (.cut (.seq (.reg [qO 8 (.mov (.c (.int .i64 0)))]) (.seq (.block 2 (.seq (.reg [qO 65 (.fla 0 (.t 5)),qO 66 (.fla 0 (.t 65)),qO 67 (.ld 1 false (.t 66)),qO 68 (.call 24 [.t 67]),qO 69 (.not (.t 68)),qM 64 69]) (.cond (.t 64) (.reg [qO 8 (.mov (.c (.int .i64 5)))]) (.seq (.drg [qM 71 4,qO 72 (.bin .gtr (.t 71) (.c (.int .i64 0))),qM 73 72,⟨some 74,.mov (.t 0),(some (73,true))⟩,⟨some 75,.mov (.t 4),(some (73,true))⟩,⟨some 76,.bin .sub (.t 75) (.c (.int .i64 1)),(some (73,true))⟩,⟨some 77,.ixa 12 (.t 74) (.t 76),(some (73,true))⟩,⟨some 78,.ld 12 true (.t 77),(some (73,true))⟩,⟨some 79,.ld 12 true (.t 5),(some (73,true))⟩,⟨some 80,.pcall 0 50 [.t 78,.t 79],(some (73,true))⟩,⟨some 81,.bin .geq (.t 80) (.c (.int .i64 0)),(some (73,true))⟩,qO 82 (.pick (.t 73) (.t 81) (.c (.bool false))),qM 70 82]) (.cond (.t 70) (.reg [qO 8 (.mov (.c (.int .i64 7)))]) (.seq (.reg [qO 84 (.fla 0 (.t 5)),qO 85 (.fla 1 (.t 84)),qO 86 (.ld 1 false (.t 85)),qM 87 6,qO 88 (.bin .neq (.t 86) (.t 87)),qM 83 88]) (.cond (.t 83) (.reg [qO 8 (.mov (.c (.int .i64 1)))]) (.seq (.reg [qO 52 (.ld 12 true (.t 5)),qO 53 (.call 51 [.t 52]),qM 8 53]) (.seq (.drg [qM 54 8,qO 55 (.bin .eql (.t 54) (.c (.int .i64 0))),qM 56 55,⟨some 57,.fla 11 (.t 5),(some (56,true))⟩,⟨some 58,.ld 1 false (.t 57),(some (56,true))⟩,⟨some 59,.mov (.t 7),(some (56,true))⟩,⟨some 60,.ld 12 true (.t 5),(some (56,true))⟩,⟨some 61,.pcall 0 39 [.t 59,.t 60],(some (56,true))⟩,⟨some 62,.bin .neq (.t 58) (.t 61),(some (56,true))⟩,qO 63 (.pick (.t 56) (.t 62) (.c (.bool false)))]) (.cond (.t 63) (.reg [qO 8 (.mov (.c (.int .i64 15)))]) .skip)))))))))) (.cut (.seq (.reg [qM 89 8,qO 90 (.bin .neq (.t 89) (.c (.int .i64 0)))]) (.cond (.t 90) (.seq (.reg [qM 91 4,qM 92 8,qM 2 91,qM 3 92]) .ret) .skip)))))))))) (.reg [qO 93 (.bin .add (.t 18) (.c (.int .i64 1))),qM 18 93]))))
def ir_chaseref1_DeedsFault:IC:=(.seq (.reg [qO 2 (.mov (.c (.int .i64 0))),qO 3 (.mov (.c (.int .i64 0)))]) (.seq (.seq (.reg [qM 13 0,qO 14 (.len (.t 13)),qO 15 (.bin .gtr (.t 14) (.c (.int .i64 2000)))]) (.cond (.t 15) (.seq (.reg [qO 2 (.mov (.c (.int .i64 0))),qO 3 (.mov (.c (.int .i64 2)))]) .ret) .skip)) (.seq (.seq (.reg [qM 16 0,qO 17 (.len (.t 16)),qO 18 (.mov (.c (.int .i64 0)))]) (.block 0 (.loop ir_chaseref1_DeedsFault_L0))) (.seq (.seq (.reg [qM 94 0,qO 95 (.len (.t 94)),qO 96 (.mov (.c (.int .i64 0)))]) (.block 3 (.loop ir_chaseref1_DeedsFault_L1))) (.seq (.reg [qO 2 (.mov (.c (.int .i64 0))),qO 3 (.mov (.c (.int .i64 0)))]) .ret)))))
def rs_chaseref1_DeedsFault:List IRes:=[.t 2,.t 3]
theorem ck_chaseref1_DeedsFault:chkF Tryz.prog Tryz.f10 ir_chaseref1_DeedsFault rs_chaseref1_DeedsFault 125=true:=by kernel_rfl
def ir_chaseref1_deedOf:IC:=(.seq (.reg [qO 3 (.box 43 (.t 1)),qO 4 (.alc 45 [.str [],.int .i64 0,.int .i64 0,.int .i64 0,.str [],.str [],.str [],.int .i64 0,.int .i64 0,.str [],.int .i64 0,.str []]),qO 5 (.mov (.c (.bool false)))]) (.seq (.reg [qM 7 0,qO 8 (.mkf 87 [.t 3]),qO 9 (.call 86 [.t 7,.t 8]),qM 6 9]) (.seq (.seq (.reg [qM 10 6,qO 11 (.bin .lss (.t 10) (.c (.int .i64 0)))]) (.cond (.t 11) (.seq (.reg [qO 12 (.bld [.str [],.int .i64 0,.int .i64 0,.int .i64 0,.str [],.str [],.str [],.int .i64 0,.int .i64 0,.str [],.int .i64 0,.str []] []),⟨none,.st 12 (.t 4) (.t 12),none⟩,qO 5 (.mov (.c (.bool false)))]) .ret) .skip)) (.seq (.reg [qM 13 0,qM 14 6,qO 15 (.ixa 12 (.t 13) (.t 14)),qO 16 (.ld 12 true (.t 15)),⟨none,.st 12 (.t 4) (.t 16),none⟩,qO 5 (.mov (.c (.bool true)))]) .ret))))
def rs_chaseref1_deedOf:List IRes:=[.c 4 12 true,.t 5]
theorem ck_chaseref1_deedOf:chkF Tryz.prog Tryz.f52 ir_chaseref1_deedOf rs_chaseref1_deedOf 17=true:=by kernel_rfl
def ir_chaseref1_deedOf_1:IC:=(.seq (.reg [qO 2 (.box 45 (.t 0)),qO 3 (.mov (.c (.bool false)))]) (.seq (.reg [qO 4 (.fla 0 (.t 2)),qO 5 (.ld 2 true (.t 4)),qO 6 (.ld 2 true (.t 1)),qO 7 (.eqa false [.s,.i] (.t 5) (.t 6)),qM 3 7]) .ret))
def rs_chaseref1_deedOf_1:List IRes:=[.t 3]
theorem ck_chaseref1_deedOf_1:chkF Tryz.prog Tryz.f87 ir_chaseref1_deedOf_1 rs_chaseref1_deedOf_1 8=true:=by kernel_rfl
def ir_chaseref1_permitted:IC:=(.seq (.reg [qO 2 (.box 45 (.t 0)),qO 3 (.box 45 (.t 1)),qO 4 (.mov (.c (.bool false)))]) (.seq (.seq (.reg [qO 5 (.fla 3 (.t 2)),qO 6 (.ld 1 false (.t 5)),qO 7 (.bin .eql (.t 6) (.c (.int .i64 3)))]) (.cond (.t 7) (.seq (.reg [qO 8 (.fla 3 (.t 3)),qO 9 (.ld 1 false (.t 8)),qO 10 (.bin .eql (.t 9) (.c (.int .i64 2))),qM 11 10,⟨some 12,.fla 3 (.t 3),(some (11,false))⟩,⟨some 13,.ld 1 false (.t 12),(some (11,false))⟩,⟨some 14,.bin .eql (.t 13) (.c (.int .i64 4)),(some (11,false))⟩,qO 15 (.pick (.t 11) (.c (.bool true)) (.t 14)),qM 4 15]) .ret) .skip)) (.seq (.reg [qO 16 (.fla 3 (.t 3)),qO 17 (.ld 1 false (.t 16)),qO 18 (.bin .eql (.t 17) (.c (.int .i64 1))),qM 19 18,⟨some 20,.fla 3 (.t 3),(some (19,false))⟩,⟨some 21,.ld 1 false (.t 20),(some (19,false))⟩,⟨some 22,.bin .eql (.t 21) (.c (.int .i64 5)),(some (19,false))⟩,qO 23 (.pick (.t 19) (.c (.bool true)) (.t 22)),qM 24 23,⟨some 25,.fla 3 (.t 3),(some (24,false))⟩,⟨some 26,.ld 1 false (.t 25),(some (24,false))⟩,⟨some 27,.bin .eql (.t 26) (.c (.int .i64 3)),(some (24,false))⟩,qO 28 (.pick (.t 24) (.c (.bool true)) (.t 27)),qM 29 28,⟨some 30,.fla 0 (.t 3),(some (29,true))⟩,⟨some 31,.fla 0 (.t 30),(some (29,true))⟩,⟨some 32,.ld 1 false (.t 31),(some (29,true))⟩,⟨some 33,.fla 0 (.t 2),(some (29,true))⟩,⟨some 34,.fla 0 (.t 33),(some (29,true))⟩,⟨some 35,.ld 1 false (.t 34),(some (29,true))⟩,⟨some 36,.bin .eql (.t 32) (.t 35),(some (29,true))⟩,qO 37 (.pick (.t 29) (.t 36) (.c (.bool false))),qM 38 37,⟨some 39,.fla 0 (.t 3),(some (38,true))⟩,⟨some 40,.fla 1 (.t 39),(some (38,true))⟩,⟨some 41,.ld 1 false (.t 40),(some (38,true))⟩,⟨some 42,.fla 0 (.t 2),(some (38,true))⟩,⟨some 43,.fla 1 (.t 42),(some (38,true))⟩,⟨some 44,.ld 1 false (.t 43),(some (38,true))⟩,⟨some 45,.bin .lss (.t 41) (.t 44),(some (38,true))⟩,qO 46 (.pick (.t 38) (.t 45) (.c (.bool false))),qM 4 46]) .ret)))
def rs_chaseref1_permitted:List IRes:=[.t 4]
theorem ck_chaseref1_permitted:chkF Tryz.prog Tryz.f53 ir_chaseref1_permitted rs_chaseref1_permitted 47=true:=by kernel_rfl
def ir_slices_IndexFunc_api_Deed_api_Deed_L0:IC:=(.seq (.reg [qO 9 (.bin .lss (.t 8) (.t 7))]) (.seq (.cond (.t 9) .skip (.exit 0)) (.seq (.block 1 (.seq (.reg [qM 10 8,qM 5 10]) (.seq (.reg [qM 11 1,qM 12 0,qM 13 5,qO 14 (.ixa 12 (.t 12) (.t 13)),qO 15 (.ld 12 true (.t 14)),qO 16 (.callv (.t 11) [.t 15])]) (.cond (.t 16) (.seq (.reg [qM 17 5,qM 4 17]) .ret) .skip)))) (.reg [qO 18 (.bin .add (.t 8) (.c (.int .i64 1))),qM 8 18]))))
def ir_slices_IndexFunc_api_Deed_api_Deed:IC:=(.seq (.reg [qO 4 (.mov (.c (.int .i64 0)))]) (.seq (.seq (.reg [qM 6 0,qO 7 (.len (.t 6)),qO 8 (.mov (.c (.int .i64 0)))]) (.block 0 (.loop ir_slices_IndexFunc_api_Deed_api_Deed_L0))) (.seq (.reg [qO 4 (.mov (.c (.int .i64 (-1))))]) .ret)))
def rs_slices_IndexFunc_api_Deed_api_Deed:List IRes:=[.t 4]
theorem ck_slices_IndexFunc_api_Deed_api_Deed:chkF Tryz.prog Tryz.f86 ir_slices_IndexFunc_api_Deed_api_Deed rs_slices_IndexFunc_api_Deed_api_Deed 19=true:=by kernel_rfl
section
variable {E:Envt}
theorem IndexFuncD_ok (l:List Dd) (f:FuncId) (ps:List PV) (q:Dd→Bool) (hl:l.length≤1000000000) (hfn:Unit→fnB Tryz.prog f=true) (hps:Zl [] (ps.map .p)=true) (hf:∀ x∈l,PCall Tryz.prog E f (.agg (ddC x) :: ps) (·=.bool (q x))) (hn:∀ x:Dd,Zbh [] (.p (.agg (ddC x)) :: ps.map .p)=some (.agg (ddC x) :: ps)) (hr:∀ x:Dd,Zbj (.p (.agg (ddC x)) :: ps.map .p)=true):PCall Tryz.prog E 86 [.sl 12 (ddE l),.clo f ps] (·=int (idxF q l)):=by
 refine pcallF mixed Tryz.func86 ck_slices_IndexFunc_api_Deed_api_Deed ?_
 simp only [a0,l0,OS.ao,List.map_cons,List.map_nil,List.length_cons,List.length_nil,List.cons_append,List.nil_append,Nat.reduceSub,Nat.reduceAdd,List.replicate_succ,List.replicate_zero,ir_slices_IndexFunc_api_Deed_api_Deed,rs_slices_IndexFunc_api_Deed_api_Deed,ZZ,WW,Ze,reduceCtorEq,Nat.reduceAdd,Nat.reduceMul,Nat.reduceLeDiff,Nat.reduceLT,Nat.reduceEqDiff]
 simp only [ZZ,WW,Ze,reduceCtorEq,Nat.reduceAdd,Nat.reduceMul,Nat.reduceLeDiff,Nat.reduceLT,Nat.reduceEqDiff,ddE_len]
 refine loop_intro (fun n fr L=>∃ (k:Nat),k≤l.length∧n=l.length - k∧(∀ x∈l.take k,q x=false)∧fr=[.p (.sl 12 (ddE l)),.p (.clo f ps),oo,oo,oo,oo,oo,.p (int (l.length:Nat)),.p (int (k:Nat)),oo,oo,oo,oo,oo,oo,oo,oo,oo,oo]∧L=[]) (l.length) [.p (.sl 12 (ddE l)),.p (.clo f ps),oo,oo,oo,oo,oo,.p (int (l.length:Nat)),.p (int (0:Nat)),oo,oo,oo,oo,oo,oo,oo,oo,oo,oo] [] (by simp only [ddE_len,ZZ,WW,Ze,reduceCtorEq,Nat.reduceAdd,Nat.reduceMul,Nat.reduceLeDiff,Nat.reduceLT,Nat.reduceEqDiff];try trivial) (by (simp only [ZZ,WW,Ze,reduceCtorEq,Nat.reduceAdd,Nat.reduceMul,Nat.reduceLeDiff,Nat.reduceLT,Nat.reduceEqDiff];try trivial)) ⟨0,by omega,by omega,by simp,rfl,rfl⟩ ?_
 rintro n fr L ⟨k,hk,rfl,hno,rfl,rfl⟩
 simp only [ir_slices_IndexFunc_api_Deed_api_Deed_L0,ZZ,WW,Ze,reduceCtorEq,Nat.reduceAdd,Nat.reduceMul,Nat.reduceLeDiff,Nat.reduceLT,Nat.reduceEqDiff]
 refine br ?_ ?_
 ·intro h
  have hlt:k < l.length:=by have:=of_decide_eq_true h;omega
  obtain ⟨x,hx⟩:∃ x,l[k]?=some x:=⟨_,List.getElem?_eq_getElem hlt⟩
  have hg:=ddE_get hx
  have ht:(ddC x).take 12=ddC x:=rfl
  have hd:(ddC x).drop 0=ddC x:=rfl
  simp only [ZZ,WW,Ze,reduceCtorEq,Nat.reduceAdd,Nat.reduceMul,Nat.reduceLeDiff,Nat.reduceLT,Nat.reduceEqDiff,hg,ddE_len,hfn (),ht,hd]
  refine ⟨⟨by omega,by omega⟩,by omega,hps,?_⟩
  refine use1 (hf x (List.mem_of_getElem? hx)) (hn x) (.inl (hr x)) ?_
  simp only [ZZ,WW,Ze,reduceCtorEq,Nat.reduceAdd,Nat.reduceMul,Nat.reduceLeDiff,Nat.reduceLT,Nat.reduceEqDiff]
  refine br ?_ ?_
  ·intro hq
   simp only [ZZ,WW,Ze,reduceCtorEq,Nat.reduceAdd,Nat.reduceMul,Nat.reduceLeDiff,Nat.reduceLT,Nat.reduceEqDiff]
   rw [idxF_hit hx hq hno]
  ·intro hq
   simp only [ZZ,WW,Ze,reduceCtorEq,Nat.reduceAdd,Nat.reduceMul,Nat.reduceLeDiff,Nat.reduceLT,Nat.reduceEqDiff]
   ((repeat' (with_reducible apply And.intro))<;>try ((exact sc_)))
   refine end_round (l.length - (k+1)) [.p (.sl 12 (ddE l)),.p (.clo f ps),oo,oo,oo,oo,oo,.p (int (l.length:Nat)),.p (int ((k+1):Nat)),oo,oo,oo,oo,oo,oo,oo,oo,oo,oo] [] (by omega) (by (simp only [ZZ,WW,Ze,reduceCtorEq,Nat.reduceAdd,Nat.reduceMul,Nat.reduceLeDiff,Nat.reduceLT,Nat.reduceEqDiff];try trivial)) (by (simp only [ZZ,WW,Ze,reduceCtorEq,Nat.reduceAdd,Nat.reduceMul,Nat.reduceLeDiff,Nat.reduceLT,Nat.reduceEqDiff];try trivial)) ⟨k+1,by omega,rfl,by rw [List.take_succ_eq_append_getElem hlt];intro y hy;rcases List.mem_append.1 hy with hy|hy;exact hno y hy;rw [List.mem_singleton] at hy;rw [hy,(List.getElem?_eq_some_iff.1 hx).2];exact hq,rfl,rfl⟩
 ·intro h
  have hge:l.length≤k:=by have:=of_decide_eq_false h;omega
  rw [List.take_of_length_le hge] at hno
  simp only [ZZ,WW,Ze,reduceCtorEq,Nat.reduceAdd,Nat.reduceMul,Nat.reduceLeDiff,Nat.reduceLT,Nat.reduceEqDiff]
  rw [idxF_none hno]
abbrev fDO1:FuncId:=87
theorem deedOf1_ok (x:Dd) (s:List UInt8) (n:Int):PCall Tryz.prog E fDO1 [.agg (ddC x),.ptr [.str s,int n]] (·=.bool (decide (x.site=s) && decide (x.no=n))):=by
 refine pcallF mixed Tryz.func87 ck_chaseref1_deedOf_1 ?_
 simp only [a0,l0,OS.ao,List.map_cons,List.map_nil,List.length_cons,List.length_nil,List.cons_append,List.nil_append,Nat.reduceSub,Nat.reduceAdd,List.replicate_succ,List.replicate_zero,ir_chaseref1_deedOf_1,rs_chaseref1_deedOf_1,ZZ,WW,Ze,reduceCtorEq,Nat.reduceAdd,Nat.reduceMul,Nat.reduceLeDiff,Nat.reduceLT,Nat.reduceEqDiff]
 simp only [ddC,ZZ,WW,Ze,reduceCtorEq,Nat.reduceAdd,Nat.reduceMul,Nat.reduceLeDiff,Nat.reduceLT,Nat.reduceEqDiff]
theorem idxF_find (q:Dd→Bool) (l:List Dd):(l.find? q=none∧idxF q l=-1)∨∃ (k:Nat) (x:Dd),l.find? q=some x∧l[k]?=some x∧idxF q l=(k:Int)∧k < l.length:=by
 unfold idxF
 cases h:l.findIdx? q with
 |none=>
  refine .inl ⟨?_,rfl⟩
  rw [List.find?_eq_none]
  intro x hx
  rw [List.findIdx?_eq_none_iff] at h
  simpa using h x hx
 |some k=>
  obtain ⟨hk,h1,h2⟩:=List.findIdx?_eq_some_iff_getElem.1 h
  refine .inr ⟨k,l[k],?_,List.getElem?_eq_getElem hk,rfl,hk⟩
  rw [List.find?_eq_some_iff_getElem]
  refine ⟨h1,k,hk,rfl,fun j hj=>?_⟩
  have:=h2 j hj
  simpa using this
theorem deedOf_ok (l:List Dd) (s:List UInt8) (n:Int) (hl:l.length≤1000000000):PCall Tryz.prog E 52 [.sl 12 (ddE l),.agg [.str s,int n]] (·=.tup [.agg (ddC ((findD l s n).getD dd0)),.bool (findD l s n).isSome]):=by
 have hfn:fnB Tryz.prog fDO1=true:=by kernel_rfl
 refine pcallF mixed Tryz.func52 ck_chaseref1_deedOf ?_
 simp only [a0,l0,OS.ao,List.map_cons,List.map_nil,List.length_cons,List.length_nil,List.cons_append,List.nil_append,Nat.reduceSub,Nat.reduceAdd,List.replicate_succ,List.replicate_zero,ir_chaseref1_deedOf,rs_chaseref1_deedOf,ZZ,WW,Ze,reduceCtorEq,Nat.reduceAdd,Nat.reduceMul,Nat.reduceLeDiff,Nat.reduceLT,Nat.reduceEqDiff]
 refine use1 (IndexFuncD_ok l fDO1 [.ptr [.str s,int n]] (fun d=>decide (d.site=s) && decide (d.no=n)) hl (fun _=>hfn) rfl (fun x _=>deedOf1_ok x s n) (fun x=>rfl) (fun x=>rfl)) rfl (.inr rfl) ?_
 unfold findD
 rcases idxF_find (fun d=>decide (d.site=s) && decide (d.no=n)) l with ⟨h1,h2⟩|⟨k,x,h1,h2,h3,h4⟩
 ·rw [h1,h2]
  have e:decide ((-1:Int) < 0)=true:=rfl
  simp only [ZZ,WW,Ze,reduceCtorEq,Nat.reduceAdd,Nat.reduceMul,Nat.reduceLeDiff,Nat.reduceLT,Nat.reduceEqDiff,e]
  rfl
 ·rw [h1,h3]
  have e:decide (((k:Nat):Int) < 0)=false:=by simp
  have hg:=ddE_get h2
  simp only [ZZ,WW,Ze,reduceCtorEq,Nat.reduceAdd,Nat.reduceMul,Nat.reduceLeDiff,Nat.reduceLT,Nat.reduceEqDiff,e,hg,ddC,ddE_len]
  refine ⟨⟨by omega,by omega⟩,by omega,rfl⟩
theorem permitted_ok (d x:Dd):PCall Tryz.prog E 53 [.agg (ddC d),.agg (ddC x)] (·=.bool (permB d x)):=by
 refine pcallF mixed Tryz.func53 ck_chaseref1_permitted ?_
 simp only [a0,l0,OS.ao,List.map_cons,List.map_nil,List.length_cons,List.length_nil,List.cons_append,List.nil_append,Nat.reduceSub,Nat.reduceAdd,List.replicate_succ,List.replicate_zero,ir_chaseref1_permitted,rs_chaseref1_permitted,ZZ,WW,Ze,reduceCtorEq,Nat.reduceAdd,Nat.reduceMul,Nat.reduceLeDiff,Nat.reduceLT,Nat.reduceEqDiff]
 simp only [ddC,ZZ,WW,Ze,reduceCtorEq,Nat.reduceAdd,Nat.reduceMul,Nat.reduceLeDiff,Nat.reduceLT,Nat.reduceEqDiff]
 unfold permB
 refine br ?_ ?_
 ·intro h
  simp only [ZZ,WW,Ze,reduceCtorEq,Nat.reduceAdd,Nat.reduceMul,Nat.reduceLeDiff,Nat.reduceLT,Nat.reduceEqDiff]
  ((repeat' (with_reducible apply And.intro))<;>try ((exact sc_)))
  rw [if_pos (of_decide_eq_true h)]
 ·intro h
  rw [if_neg (of_decide_eq_false h)]
  simp only [ZZ,WW,Ze,reduceCtorEq,Nat.reduceAdd,Nat.reduceMul,Nat.reduceLeDiff,Nat.reduceLT,Nat.reduceEqDiff]
  repeat first|refine ⟨fun h=>by rw [h];rfl,?_⟩|refine ⟨fun h=>⟨h,fun h2=>by rw [h,h2];rfl⟩,?_⟩
  exact fun h=>by rw [h];rfl
end
def gN (k:Nat) (q d:Dd):Int:=if (decide (0 < (k:Int)) && decide (q.site=d.site))=true then q.no+1 else 1
def gS (k:Nat) (q d:Dd):List UInt8:=if (decide (0 < (k:Int)) && decide (q.site=d.site))=true then q.sum else []
def gF (k:Nat) (q d:Dd):Int:=
 if keyB d.site=false then 5 else if (decide (0 < (k:Int)) && decide (0≤stC q.site q.no d.site d.no))=true then 7
 else if ¬ d.no=gN k q d then 1 else if ¬ refF d=0 then refF d else if d.sum=sumF (gS k q d) d then 0 else 15
theorem gF_eq {l:List Dd} {k:Nat} {q d:Dd} (hd:l[k]?=some d) (hq:l[k - 1]?=some q):chkI l k=gF k q d:=by
 unfold chkI
 rw [hd]
 show atF (prevD l k) d=_
 unfold gF gN gS atF prevD
 rw [refF_eq]
 cases k with
 |zero=>simp
 |succ k=>
  have e:decide (0 < ((k+1:Nat):Int))=true:=by simp
  have hq:l[k+1 - 1]?=some q:=hq
  simp only [Nat.succ_ne_zero,if_false,hq,e,Bool.true_and,decide_eq_true_eq]
set_option maxRecDepth 100000 in
set_option maxHeartbeats 4000000 in
theorem DeedsFault_ok (l:List Dd) (hB:DdsB l) (hl:l.length≤1000000000):PCall Tryz.prog ED 10 [.sl 12 (ddE l)] (·=.tup [int (ckdF l).1,int (ckdF l).2]):=by
 refine pcallF mixed Tryz.func10 ck_chaseref1_DeedsFault ?_
 simp only [a0,l0,OS.ao,List.map_cons,List.map_nil,List.length_cons,List.length_nil,List.cons_append,List.nil_append,Nat.reduceSub,Nat.reduceAdd,List.replicate_succ,List.replicate_zero,ir_chaseref1_DeedsFault,rs_chaseref1_DeedsFault,ZZ,WW,Ze,reduceCtorEq,Nat.reduceAdd,Nat.reduceMul,Nat.reduceLeDiff,Nat.reduceLT,Nat.reduceEqDiff]
 simp only [ZZ,WW,Ze,reduceCtorEq,Nat.reduceAdd,Nat.reduceMul,Nat.reduceLeDiff,Nat.reduceLT,Nat.reduceEqDiff,ddE_len]
 unfold ckdF
 refine br ?_ ?_
 ·intro h
  have h:2000 < l.length:=by have:=of_decide_eq_true h;omega
  simp only [ZZ,WW,Ze,reduceCtorEq,Nat.reduceAdd,Nat.reduceMul,Nat.reduceLeDiff,Nat.reduceLT,Nat.reduceEqDiff]
  rw [if_pos h]
 intro h
 have h2000:l.length≤2000:=by have:=of_decide_eq_false h;omega
 rw [if_neg (by omega)]
 clear h
 simp only [ZZ,WW,Ze,reduceCtorEq,Nat.reduceAdd,Nat.reduceMul,Nat.reduceLeDiff,Nat.reduceLT,Nat.reduceEqDiff,ddE_len]
 refine loop_intro (fun n fr L=>∃ (k:Nat),k≤l.length∧n=l.length - k∧(∀ j,j < k→chkI l j=0)∧fr=[.p (.sl 12 (ddE l)),oo,.p (int 0),.p (int 0),oo,oo,oo,oo,oo,oo,oo,oo,oo,oo,oo,oo,.p (.sl 12 (ddE l)),.p (int (l.length:Nat)),.p (int (k:Nat)),oo,oo,oo,oo,oo,oo,oo,oo,oo,oo,oo,oo,oo,oo,oo,oo,oo,oo,oo,oo,oo,oo,oo,oo,oo,oo,oo,oo,oo,oo,oo,oo,oo,oo,oo,oo,oo,oo,oo,oo,oo,oo,oo,oo,oo,oo,oo,oo,oo,oo,oo,oo,oo,oo,oo,oo,oo,oo,oo,oo,oo,oo,oo,oo,oo,oo,oo,oo,oo,oo,oo,oo,oo,oo,oo,oo,oo,oo,oo,oo,oo,oo,oo,oo,oo,oo,oo,oo,oo,oo,oo,oo,oo,oo,oo,oo,oo,oo,oo,oo,oo,oo,oo,oo,oo,oo]∧L=[]) (l.length) [.p (.sl 12 (ddE l)),oo,.p (int 0),.p (int 0),oo,oo,oo,oo,oo,oo,oo,oo,oo,oo,oo,oo,.p (.sl 12 (ddE l)),.p (int (l.length:Nat)),.p (int (0:Nat)),oo,oo,oo,oo,oo,oo,oo,oo,oo,oo,oo,oo,oo,oo,oo,oo,oo,oo,oo,oo,oo,oo,oo,oo,oo,oo,oo,oo,oo,oo,oo,oo,oo,oo,oo,oo,oo,oo,oo,oo,oo,oo,oo,oo,oo,oo,oo,oo,oo,oo,oo,oo,oo,oo,oo,oo,oo,oo,oo,oo,oo,oo,oo,oo,oo,oo,oo,oo,oo,oo,oo,oo,oo,oo,oo,oo,oo,oo,oo,oo,oo,oo,oo,oo,oo,oo,oo,oo,oo,oo,oo,oo,oo,oo,oo,oo,oo,oo,oo,oo,oo,oo,oo,oo,oo,oo] [] (by simp only [ddE_len,ZZ,WW,Ze,reduceCtorEq,Nat.reduceAdd,Nat.reduceMul,Nat.reduceLeDiff,Nat.reduceLT,Nat.reduceEqDiff];try trivial) (by (simp only [ZZ,WW,Ze,reduceCtorEq,Nat.reduceAdd,Nat.reduceMul,Nat.reduceLeDiff,Nat.reduceLT,Nat.reduceEqDiff];try trivial)) ⟨0,by omega,by omega,by omega,rfl,rfl⟩ ?_
 rintro n fr L ⟨k,hk,rfl,hno,rfl,rfl⟩
 simp only [ir_chaseref1_DeedsFault_L0,ZZ,WW,Ze,reduceCtorEq,Nat.reduceAdd,Nat.reduceMul,Nat.reduceLeDiff,Nat.reduceLT,Nat.reduceEqDiff]
 refine br ?_ ?_
 ·intro h
  have hlt:k < l.length:=by have:=of_decide_eq_true h;omega
  obtain ⟨d,hd⟩:∃ d,l[k]?=some d:=⟨_,List.getElem?_eq_getElem hlt⟩
  obtain ⟨q,hq⟩:∃ q,l[k - 1]?=some q:=⟨_,List.getElem?_eq_getElem (by omega)⟩
  have hg:=ddE_get hd
  have hgq:=ddE_get hq
  have hc:=gF_eq hd hq
  have dB:=hB.get hd
  have qB:=hB.get hq
  have b1:=dB.b1
  have ht:((k:Int) - 1).toNat=k - 1:=by omega
  simp only [ZZ,WW,Ze,reduceCtorEq,Nat.reduceAdd,Nat.reduceMul,Nat.reduceLeDiff,Nat.reduceLT,Nat.reduceEqDiff,hg,ddE_len,ddC]
  refine ⟨⟨by omega,by omega⟩,by omega,?_⟩
  refine drg0 ?_
  simp only [ZZ,WW,Ze,reduceCtorEq,Nat.reduceAdd,Nat.reduceMul,Nat.reduceLeDiff,Nat.reduceLT,Nat.reduceEqDiff,ht,hgq,ddE_len,ddC]
  refine ⟨fun h=>⟨h,i64_of (by omega) (by omega)⟩,fun h=>⟨h,h,by have:=of_decide_eq_true h;omega,by omega⟩,fun h=>⟨h,by omega⟩,?_⟩
  refine br_join (fun fr L=>fr=[.p (.sl 12 (ddE l)),oo,.p (int 0),.p (int 0),.p (int (k:Nat)),.adr (.l 5) 0,.p (int (gN k q d)),.p (.str (gS k q d)),oo,oo,oo,oo,oo,oo,oo,oo,.p (.sl 12 (ddE l)),.p (int (l.length:Nat)),.p (int (k:Nat)),oo,oo,oo,oo,oo,oo,oo,oo,oo,oo,oo,oo,oo,oo,oo,oo,oo,oo,oo,oo,oo,oo,oo,oo,oo,oo,oo,oo,oo,oo,oo,oo,oo,oo,oo,oo,oo,oo,oo,oo,oo,oo,oo,oo,oo,oo,oo,oo,oo,oo,oo,oo,oo,oo,oo,oo,oo,oo,oo,oo,oo,oo,oo,oo,oo,oo,oo,oo,oo,oo,oo,oo,oo,oo,oo,oo,oo,oo,oo,oo,oo,oo,oo,oo,oo,oo,oo,oo,oo,oo,oo,oo,oo,oo,oo,oo,oo,oo,oo,oo,oo,oo,oo,oo,oo,oo]∧L=[(.l 5,.box [.p (.str d.site),.p (int d.no),.p (int d.tm),.p (int d.kind),.p (.str d.id),.p (.str d.field),.p (.str d.value),.p (int d.frm),.p (int d.upto),.p (.str d.osite),.p (int d.ono),.p (.str d.sum)] tDd)]) ?_ ?_ ?_
  ·intro h1
   have hN:gN k q d=q.no+1:=by rw [gN,if_pos h1]
   have hS:gS k q d=q.sum:=by rw [gS,if_pos h1]
   have h0:0 < (k:Int):=of_decide_eq_true (Bool.and_eq_true_iff.1 h1).1
   have c1:=qB.c1
   simp only [ZZ,WW,Ze,reduceCtorEq,Nat.reduceAdd,Nat.reduceMul,Nat.reduceLeDiff,Nat.reduceLT,Nat.reduceEqDiff]
   refine drg0 ?_
   simp only [ZZ,WW,Ze,reduceCtorEq,Nat.reduceAdd,Nat.reduceMul,Nat.reduceLeDiff,Nat.reduceLT,Nat.reduceEqDiff,ht,hgq,ddE_len,ddC]
   ((repeat' (with_reducible apply And.intro))<;>try ((exact sc_)))
   exact to_mid [.p (.sl 12 (ddE l)),oo,.p (int 0),.p (int 0),.p (int (k:Nat)),.adr (.l 5) 0,.p (int (gN k q d)),.p (.str (gS k q d)),oo,oo,oo,oo,oo,oo,oo,oo,.p (.sl 12 (ddE l)),.p (int (l.length:Nat)),.p (int (k:Nat)),oo,oo,oo,oo,oo,oo,oo,oo,oo,oo,oo,oo,oo,oo,oo,oo,oo,oo,oo,oo,oo,oo,oo,oo,oo,oo,oo,oo,oo,oo,oo,oo,oo,oo,oo,oo,oo,oo,oo,oo,oo,oo,oo,oo,oo,oo,oo,oo,oo,oo,oo,oo,oo,oo,oo,oo,oo,oo,oo,oo,oo,oo,oo,oo,oo,oo,oo,oo,oo,oo,oo,oo,oo,oo,oo,oo,oo,oo,oo,oo,oo,oo,oo,oo,oo,oo,oo,oo,oo,oo,oo,oo,oo,oo,oo,oo,oo,oo,oo,oo,oo,oo,oo,oo,oo,oo] [(.l 5,.box [.p (.str d.site),.p (int d.no),.p (int d.tm),.p (int d.kind),.p (.str d.id),.p (.str d.field),.p (.str d.value),.p (int d.frm),.p (int d.upto),.p (.str d.osite),.p (int d.ono),.p (.str d.sum)] tDd)] (by rw [hN,hS];(simp only [ZZ,WW,Ze,reduceCtorEq,Nat.reduceAdd,Nat.reduceMul,Nat.reduceLeDiff,Nat.reduceLT,Nat.reduceEqDiff];try trivial)) zE_ ⟨rfl,rfl⟩
  ·intro h1
   have hN:gN k q d=1:=by rw [gN,if_neg (by rw [h1];simp)]
   have hS:gS k q d=[]:=by rw [gS,if_neg (by rw [h1];simp)]
   simp only [ZZ,WW,Ze,reduceCtorEq,Nat.reduceAdd,Nat.reduceMul,Nat.reduceLeDiff,Nat.reduceLT,Nat.reduceEqDiff]
   exact to_mid [.p (.sl 12 (ddE l)),oo,.p (int 0),.p (int 0),.p (int (k:Nat)),.adr (.l 5) 0,.p (int (gN k q d)),.p (.str (gS k q d)),oo,oo,oo,oo,oo,oo,oo,oo,.p (.sl 12 (ddE l)),.p (int (l.length:Nat)),.p (int (k:Nat)),oo,oo,oo,oo,oo,oo,oo,oo,oo,oo,oo,oo,oo,oo,oo,oo,oo,oo,oo,oo,oo,oo,oo,oo,oo,oo,oo,oo,oo,oo,oo,oo,oo,oo,oo,oo,oo,oo,oo,oo,oo,oo,oo,oo,oo,oo,oo,oo,oo,oo,oo,oo,oo,oo,oo,oo,oo,oo,oo,oo,oo,oo,oo,oo,oo,oo,oo,oo,oo,oo,oo,oo,oo,oo,oo,oo,oo,oo,oo,oo,oo,oo,oo,oo,oo,oo,oo,oo,oo,oo,oo,oo,oo,oo,oo,oo,oo,oo,oo,oo,oo,oo,oo,oo,oo,oo] [(.l 5,.box [.p (.str d.site),.p (int d.no),.p (int d.tm),.p (int d.kind),.p (.str d.id),.p (.str d.field),.p (.str d.value),.p (int d.frm),.p (int d.upto),.p (.str d.osite),.p (int d.ono),.p (.str d.sum)] tDd)] (by rw [hN,hS];(simp only [ZZ,WW,Ze,reduceCtorEq,Nat.reduceAdd,Nat.reduceMul,Nat.reduceLeDiff,Nat.reduceLT,Nat.reduceEqDiff];try trivial)) zE_ ⟨rfl,rfl⟩
  rintro fr L ⟨rfl,rfl⟩
  have hSl:(gS k q d).length≤1000:=by
   have:=qB.b6
   unfold gS
   split<;>simp;omega
  have hgF:gF k q d=gF k q d:=rfl
  conv at hgF=>rhs;unfold gF
  generalize gN k q d=N at *
  generalize gS k q d=S at *
  simp only [ZZ,WW,Ze,reduceCtorEq,Nat.reduceAdd,Nat.reduceMul,Nat.reduceLeDiff,Nat.reduceLT,Nat.reduceEqDiff]
  refine use1 (KeyOf_ok d.site (by omega)) rfl (.inl rfl) ?_
  simp only [ZZ,WW,Ze,reduceCtorEq,Nat.reduceAdd,Nat.reduceMul,Nat.reduceLeDiff,Nat.reduceLT,Nat.reduceEqDiff]
  refine br_joinB (fun fr L=>fr=[.p (.sl 12 (ddE l)),oo,.p (int 0),.p (int 0),.p (int (k:Nat)),oo,oo,oo,.p (int (gF k q d)),oo,oo,oo,oo,oo,oo,oo,.p (.sl 12 (ddE l)),.p (int (l.length:Nat)),.p (int (k:Nat)),oo,oo,oo,oo,oo,oo,oo,oo,oo,oo,oo,oo,oo,oo,oo,oo,oo,oo,oo,oo,oo,oo,oo,oo,oo,oo,oo,oo,oo,oo,oo,oo,oo,oo,oo,oo,oo,oo,oo,oo,oo,oo,oo,oo,oo,oo,oo,oo,oo,oo,oo,oo,oo,oo,oo,oo,oo,oo,oo,oo,oo,oo,oo,oo,oo,oo,oo,oo,oo,oo,oo,oo,oo,oo,oo,oo,oo,oo,oo,oo,oo,oo,oo,oo,oo,oo,oo,oo,oo,oo,oo,oo,oo,oo,oo,oo,oo,oo,oo,oo,oo,oo,oo,oo,oo,oo]∧L=[]) ?_ ?_ ?_
  ·intro h1
   have h1:keyB d.site=false:=by simpa using h1
   rw [if_pos h1] at hgF
   simp only [ZZ,WW,Ze,reduceCtorEq,Nat.reduceAdd,Nat.reduceMul,Nat.reduceLeDiff,Nat.reduceLT,Nat.reduceEqDiff]
   exact to_mid [.p (.sl 12 (ddE l)),oo,.p (int 0),.p (int 0),.p (int (k:Nat)),oo,oo,oo,.p (int (gF k q d)),oo,oo,oo,oo,oo,oo,oo,.p (.sl 12 (ddE l)),.p (int (l.length:Nat)),.p (int (k:Nat)),oo,oo,oo,oo,oo,oo,oo,oo,oo,oo,oo,oo,oo,oo,oo,oo,oo,oo,oo,oo,oo,oo,oo,oo,oo,oo,oo,oo,oo,oo,oo,oo,oo,oo,oo,oo,oo,oo,oo,oo,oo,oo,oo,oo,oo,oo,oo,oo,oo,oo,oo,oo,oo,oo,oo,oo,oo,oo,oo,oo,oo,oo,oo,oo,oo,oo,oo,oo,oo,oo,oo,oo,oo,oo,oo,oo,oo,oo,oo,oo,oo,oo,oo,oo,oo,oo,oo,oo,oo,oo,oo,oo,oo,oo,oo,oo,oo,oo,oo,oo,oo,oo,oo,oo,oo,oo] [] (by rw [hgF];(simp only [ZZ,WW,Ze,reduceCtorEq,Nat.reduceAdd,Nat.reduceMul,Nat.reduceLeDiff,Nat.reduceLT,Nat.reduceEqDiff];try trivial)) zE_ ⟨rfl,rfl⟩
  ·intro h1
   have h1:keyB d.site=true:=by simpa using h1
   rw [if_neg (by rw [h1];simp)] at hgF
   simp only [ZZ,WW,Ze,reduceCtorEq,Nat.reduceAdd,Nat.reduceMul,Nat.reduceLeDiff,Nat.reduceLT,Nat.reduceEqDiff]
   refine drg1 (x1:=int (stC q.site q.no d.site d.no)) ?_
   simp only [ZZ,WW,Ze,reduceCtorEq,Nat.reduceAdd,Nat.reduceMul,Nat.reduceLeDiff,Nat.reduceLT,Nat.reduceEqDiff,ht,hgq,ddE_len,ddC]
   refine ⟨fun h=>⟨h,i64_of (by omega) (by omega)⟩,fun h=>⟨h,h,by have:=of_decide_eq_true h;omega,by omega⟩,fun h=>⟨h,by omega⟩,fun h=>⟨h,usep (stampOrder_ok q d) rfl (.inl rfl)⟩,?_⟩
   refine br ?_ ?_
   ·intro h2
    rw [if_pos h2] at hgF
    simp only [ZZ,WW,Ze,reduceCtorEq,Nat.reduceAdd,Nat.reduceMul,Nat.reduceLeDiff,Nat.reduceLT,Nat.reduceEqDiff]
    exact to_mid [.p (.sl 12 (ddE l)),oo,.p (int 0),.p (int 0),.p (int (k:Nat)),oo,oo,oo,.p (int (gF k q d)),oo,oo,oo,oo,oo,oo,oo,.p (.sl 12 (ddE l)),.p (int (l.length:Nat)),.p (int (k:Nat)),oo,oo,oo,oo,oo,oo,oo,oo,oo,oo,oo,oo,oo,oo,oo,oo,oo,oo,oo,oo,oo,oo,oo,oo,oo,oo,oo,oo,oo,oo,oo,oo,oo,oo,oo,oo,oo,oo,oo,oo,oo,oo,oo,oo,oo,oo,oo,oo,oo,oo,oo,oo,oo,oo,oo,oo,oo,oo,oo,oo,oo,oo,oo,oo,oo,oo,oo,oo,oo,oo,oo,oo,oo,oo,oo,oo,oo,oo,oo,oo,oo,oo,oo,oo,oo,oo,oo,oo,oo,oo,oo,oo,oo,oo,oo,oo,oo,oo,oo,oo,oo,oo,oo,oo,oo,oo] [] (by rw [hgF];(simp only [ZZ,WW,Ze,reduceCtorEq,Nat.reduceAdd,Nat.reduceMul,Nat.reduceLeDiff,Nat.reduceLT,Nat.reduceEqDiff];try trivial)) zE_ ⟨rfl,rfl⟩
   intro h2
   rw [if_neg (by rw [h2];simp)] at hgF
   simp only [ZZ,WW,Ze,reduceCtorEq,Nat.reduceAdd,Nat.reduceMul,Nat.reduceLeDiff,Nat.reduceLT,Nat.reduceEqDiff]
   refine br ?_ ?_
   ·intro h3
    have h3:¬ d.no=N:=by simpa using h3
    rw [if_pos h3] at hgF
    simp only [ZZ,WW,Ze,reduceCtorEq,Nat.reduceAdd,Nat.reduceMul,Nat.reduceLeDiff,Nat.reduceLT,Nat.reduceEqDiff]
    exact to_mid [.p (.sl 12 (ddE l)),oo,.p (int 0),.p (int 0),.p (int (k:Nat)),oo,oo,oo,.p (int (gF k q d)),oo,oo,oo,oo,oo,oo,oo,.p (.sl 12 (ddE l)),.p (int (l.length:Nat)),.p (int (k:Nat)),oo,oo,oo,oo,oo,oo,oo,oo,oo,oo,oo,oo,oo,oo,oo,oo,oo,oo,oo,oo,oo,oo,oo,oo,oo,oo,oo,oo,oo,oo,oo,oo,oo,oo,oo,oo,oo,oo,oo,oo,oo,oo,oo,oo,oo,oo,oo,oo,oo,oo,oo,oo,oo,oo,oo,oo,oo,oo,oo,oo,oo,oo,oo,oo,oo,oo,oo,oo,oo,oo,oo,oo,oo,oo,oo,oo,oo,oo,oo,oo,oo,oo,oo,oo,oo,oo,oo,oo,oo,oo,oo,oo,oo,oo,oo,oo,oo,oo,oo,oo,oo,oo,oo,oo,oo,oo] [] (by rw [hgF];(simp only [ZZ,WW,Ze,reduceCtorEq,Nat.reduceAdd,Nat.reduceMul,Nat.reduceLeDiff,Nat.reduceLT,Nat.reduceEqDiff];try trivial)) zE_ ⟨rfl,rfl⟩
   intro h3
   have h3:d.no=N:=by simpa using h3
   rw [if_neg (fun e=>e h3)] at hgF
   simp only [ZZ,WW,Ze,reduceCtorEq,Nat.reduceAdd,Nat.reduceMul,Nat.reduceLeDiff,Nat.reduceLT,Nat.reduceEqDiff]
   refine use1 (upD (deedFault_ok d dB)) rfl (.inl rfl) ?_
   simp only [ZZ,WW,Ze,reduceCtorEq,Nat.reduceAdd,Nat.reduceMul,Nat.reduceLeDiff,Nat.reduceLT,Nat.reduceEqDiff]
   refine drg1 (x1:=.str (sumF S d)) ?_
   simp only [ZZ,WW,Ze,reduceCtorEq,Nat.reduceAdd,Nat.reduceMul,Nat.reduceLeDiff,Nat.reduceLT,Nat.reduceEqDiff]
   refine ⟨fun h=>⟨h,usep (SumAfter_ok d dB S hSl) rfl (.inl rfl)⟩,?_⟩
   refine br ?_ ?_
   ·intro h4
    have h4:refF d=0∧¬ d.sum=sumF S d:=by simpa using h4
    rw [if_neg (fun e=>e h4.1),if_neg h4.2] at hgF
    simp only [ZZ,WW,Ze,reduceCtorEq,Nat.reduceAdd,Nat.reduceMul,Nat.reduceLeDiff,Nat.reduceLT,Nat.reduceEqDiff]
    exact to_mid [.p (.sl 12 (ddE l)),oo,.p (int 0),.p (int 0),.p (int (k:Nat)),oo,oo,oo,.p (int (gF k q d)),oo,oo,oo,oo,oo,oo,oo,.p (.sl 12 (ddE l)),.p (int (l.length:Nat)),.p (int (k:Nat)),oo,oo,oo,oo,oo,oo,oo,oo,oo,oo,oo,oo,oo,oo,oo,oo,oo,oo,oo,oo,oo,oo,oo,oo,oo,oo,oo,oo,oo,oo,oo,oo,oo,oo,oo,oo,oo,oo,oo,oo,oo,oo,oo,oo,oo,oo,oo,oo,oo,oo,oo,oo,oo,oo,oo,oo,oo,oo,oo,oo,oo,oo,oo,oo,oo,oo,oo,oo,oo,oo,oo,oo,oo,oo,oo,oo,oo,oo,oo,oo,oo,oo,oo,oo,oo,oo,oo,oo,oo,oo,oo,oo,oo,oo,oo,oo,oo,oo,oo,oo,oo,oo,oo,oo,oo,oo] [] (by rw [hgF];(simp only [ZZ,WW,Ze,reduceCtorEq,Nat.reduceAdd,Nat.reduceMul,Nat.reduceLeDiff,Nat.reduceLT,Nat.reduceEqDiff];try trivial)) zE_ ⟨rfl,rfl⟩
   ·intro h4
    have h4:refF d=0→d.sum=sumF S d:=by simpa using h4
    have hg4:gF k q d=refF d:=by
     rw [hgF]
     by_cases h5:refF d=0
     ·rw [if_neg (fun e=>e h5),if_pos (h4 h5),h5]
     ·rw [if_pos h5]
    simp only [ZZ,WW,Ze,reduceCtorEq,Nat.reduceAdd,Nat.reduceMul,Nat.reduceLeDiff,Nat.reduceLT,Nat.reduceEqDiff]
    exact to_mid [.p (.sl 12 (ddE l)),oo,.p (int 0),.p (int 0),.p (int (k:Nat)),oo,oo,oo,.p (int (gF k q d)),oo,oo,oo,oo,oo,oo,oo,.p (.sl 12 (ddE l)),.p (int (l.length:Nat)),.p (int (k:Nat)),oo,oo,oo,oo,oo,oo,oo,oo,oo,oo,oo,oo,oo,oo,oo,oo,oo,oo,oo,oo,oo,oo,oo,oo,oo,oo,oo,oo,oo,oo,oo,oo,oo,oo,oo,oo,oo,oo,oo,oo,oo,oo,oo,oo,oo,oo,oo,oo,oo,oo,oo,oo,oo,oo,oo,oo,oo,oo,oo,oo,oo,oo,oo,oo,oo,oo,oo,oo,oo,oo,oo,oo,oo,oo,oo,oo,oo,oo,oo,oo,oo,oo,oo,oo,oo,oo,oo,oo,oo,oo,oo,oo,oo,oo,oo,oo,oo,oo,oo,oo,oo,oo,oo,oo,oo,oo] [] (by rw [hg4];(simp only [ZZ,WW,Ze,reduceCtorEq,Nat.reduceAdd,Nat.reduceMul,Nat.reduceLeDiff,Nat.reduceLT,Nat.reduceEqDiff];try trivial)) zE_ ⟨rfl,rfl⟩
  rintro fr L ⟨rfl,rfl⟩
  clear hgF
  simp only [ZZ,WW,Ze,reduceCtorEq,Nat.reduceAdd,Nat.reduceMul,Nat.reduceLeDiff,Nat.reduceLT,Nat.reduceEqDiff]
  refine br ?_ ?_
  ·intro h6
   have h6:¬ gF k q d=0:=by simpa using h6
   have hs:=scan_hit hlt hno (by rw [hc];exact h6)
   simp only [ZZ,WW,Ze,reduceCtorEq,Nat.reduceAdd,Nat.reduceMul,Nat.reduceLeDiff,Nat.reduceLT,Nat.reduceEqDiff]
   rw [hs,hc,if_neg h6]
  ·intro h6
   have h6:gF k q d=0:=by simpa using h6
   simp only [ZZ,WW,Ze,reduceCtorEq,Nat.reduceAdd,Nat.reduceMul,Nat.reduceLeDiff,Nat.reduceLT,Nat.reduceEqDiff]
   ((repeat' (with_reducible apply And.intro))<;>try ((exact sc_)))
   refine end_round (l.length - (k+1)) [.p (.sl 12 (ddE l)),oo,.p (int 0),.p (int 0),oo,oo,oo,oo,oo,oo,oo,oo,oo,oo,oo,oo,.p (.sl 12 (ddE l)),.p (int (l.length:Nat)),.p (int ((k+1):Nat)),oo,oo,oo,oo,oo,oo,oo,oo,oo,oo,oo,oo,oo,oo,oo,oo,oo,oo,oo,oo,oo,oo,oo,oo,oo,oo,oo,oo,oo,oo,oo,oo,oo,oo,oo,oo,oo,oo,oo,oo,oo,oo,oo,oo,oo,oo,oo,oo,oo,oo,oo,oo,oo,oo,oo,oo,oo,oo,oo,oo,oo,oo,oo,oo,oo,oo,oo,oo,oo,oo,oo,oo,oo,oo,oo,oo,oo,oo,oo,oo,oo,oo,oo,oo,oo,oo,oo,oo,oo,oo,oo,oo,oo,oo,oo,oo,oo,oo,oo,oo,oo,oo,oo,oo,oo,oo] [] (by omega) (by (simp only [ZZ,WW,Ze,reduceCtorEq,Nat.reduceAdd,Nat.reduceMul,Nat.reduceLeDiff,Nat.reduceLT,Nat.reduceEqDiff];try trivial)) (by (simp only [ZZ,WW,Ze,reduceCtorEq,Nat.reduceAdd,Nat.reduceMul,Nat.reduceLeDiff,Nat.reduceLT,Nat.reduceEqDiff];try trivial)) ⟨k+1,by omega,rfl,by intro j hj;rcases Nat.lt_or_ge j k with h'|h';exact hno j h';rw [show j=k by omega,hc,h6],rfl,rfl⟩
 ·intro h
  have hge:l.length≤k:=by have:=of_decide_eq_false h;omega
  have hs:=scan_none (g:=chkI l) (N:=l.length) (fun j hj=>hno j (by omega))
  rw [hs]
  simp only [if_true]
  clear hs hno
  simp only [ZZ,WW,Ze,reduceCtorEq,Nat.reduceAdd,Nat.reduceMul,Nat.reduceLeDiff,Nat.reduceLT,Nat.reduceEqDiff,ddE_len]
  refine loop_intro (fun n fr L=>∃ (k:Nat),k≤l.length∧n=l.length - k∧(∀ j,j < k→ofI l j=0)∧fr=[.p (.sl 12 (ddE l)),oo,.p (int 0),.p (int 0),oo,oo,oo,oo,oo,oo,oo,oo,oo,oo,oo,oo,oo,oo,oo,oo,oo,oo,oo,oo,oo,oo,oo,oo,oo,oo,oo,oo,oo,oo,oo,oo,oo,oo,oo,oo,oo,oo,oo,oo,oo,oo,oo,oo,oo,oo,oo,oo,oo,oo,oo,oo,oo,oo,oo,oo,oo,oo,oo,oo,oo,oo,oo,oo,oo,oo,oo,oo,oo,oo,oo,oo,oo,oo,oo,oo,oo,oo,oo,oo,oo,oo,oo,oo,oo,oo,oo,oo,oo,oo,.p (.sl 12 (ddE l)),.p (int (l.length:Nat)),.p (int (k:Nat)),oo,oo,oo,oo,oo,oo,oo,oo,oo,oo,oo,oo,oo,oo,oo,oo,oo,oo,oo,oo,oo,oo,oo,oo,oo,oo,oo,oo]∧L=[]) (l.length) [.p (.sl 12 (ddE l)),oo,.p (int 0),.p (int 0),oo,oo,oo,oo,oo,oo,oo,oo,oo,oo,oo,oo,oo,oo,oo,oo,oo,oo,oo,oo,oo,oo,oo,oo,oo,oo,oo,oo,oo,oo,oo,oo,oo,oo,oo,oo,oo,oo,oo,oo,oo,oo,oo,oo,oo,oo,oo,oo,oo,oo,oo,oo,oo,oo,oo,oo,oo,oo,oo,oo,oo,oo,oo,oo,oo,oo,oo,oo,oo,oo,oo,oo,oo,oo,oo,oo,oo,oo,oo,oo,oo,oo,oo,oo,oo,oo,oo,oo,oo,oo,.p (.sl 12 (ddE l)),.p (int (l.length:Nat)),.p (int (0:Nat)),oo,oo,oo,oo,oo,oo,oo,oo,oo,oo,oo,oo,oo,oo,oo,oo,oo,oo,oo,oo,oo,oo,oo,oo,oo,oo,oo,oo] [] (by simp only [ddE_len,ZZ,WW,Ze,reduceCtorEq,Nat.reduceAdd,Nat.reduceMul,Nat.reduceLeDiff,Nat.reduceLT,Nat.reduceEqDiff];try trivial) (by (simp only [ZZ,WW,Ze,reduceCtorEq,Nat.reduceAdd,Nat.reduceMul,Nat.reduceLeDiff,Nat.reduceLT,Nat.reduceEqDiff];try trivial)) ⟨0,by omega,by omega,by omega,rfl,rfl⟩ ?_
  rintro n fr L ⟨k,hk,rfl,hno,rfl,rfl⟩
  simp only [ir_chaseref1_DeedsFault_L1,ZZ,WW,Ze,reduceCtorEq,Nat.reduceAdd,Nat.reduceMul,Nat.reduceLeDiff,Nat.reduceLT,Nat.reduceEqDiff]
  refine br ?_ ?_
  ·intro h
   have hlt:k < l.length:=by have:=of_decide_eq_true h;omega
   obtain ⟨d,hd⟩:∃ d,l[k]?=some d:=⟨_,List.getElem?_eq_getElem hlt⟩
   have hg:=ddE_get hd
   have hc:ofI l k=ofF l d:=by unfold ofI;rw [hd]
   simp only [ZZ,WW,Ze,reduceCtorEq,Nat.reduceAdd,Nat.reduceMul,Nat.reduceLeDiff,Nat.reduceLT,Nat.reduceEqDiff,hg,ddE_len,ddC]
   refine ⟨⟨by omega,by omega⟩,by omega,?_⟩
   refine br ?_ ?_
   ·intro h1
    have hb:backB d=false:=by simpa [backB] using h1
    have hz:ofF l d=0:=by rw [ofF,if_neg (by rw [hb];simp)]
    simp only [ZZ,WW,Ze,reduceCtorEq,Nat.reduceAdd,Nat.reduceMul,Nat.reduceLeDiff,Nat.reduceLT,Nat.reduceEqDiff]
    refine cut_same zE_ ?_
    simp only [ZZ,WW,Ze,reduceCtorEq,Nat.reduceAdd,Nat.reduceMul,Nat.reduceLeDiff,Nat.reduceLT,Nat.reduceEqDiff]
    ((repeat' (with_reducible apply And.intro))<;>try ((exact sc_)))
    refine end_round (l.length - (k+1)) [.p (.sl 12 (ddE l)),oo,.p (int 0),.p (int 0),oo,oo,oo,oo,oo,oo,oo,oo,oo,oo,oo,oo,oo,oo,oo,oo,oo,oo,oo,oo,oo,oo,oo,oo,oo,oo,oo,oo,oo,oo,oo,oo,oo,oo,oo,oo,oo,oo,oo,oo,oo,oo,oo,oo,oo,oo,oo,oo,oo,oo,oo,oo,oo,oo,oo,oo,oo,oo,oo,oo,oo,oo,oo,oo,oo,oo,oo,oo,oo,oo,oo,oo,oo,oo,oo,oo,oo,oo,oo,oo,oo,oo,oo,oo,oo,oo,oo,oo,oo,oo,.p (.sl 12 (ddE l)),.p (int (l.length:Nat)),.p (int ((k+1):Nat)),oo,oo,oo,oo,oo,oo,oo,oo,oo,oo,oo,oo,oo,oo,oo,oo,oo,oo,oo,oo,oo,oo,oo,oo,oo,oo,oo,oo] [] (by omega) (by (simp only [ZZ,WW,Ze,reduceCtorEq,Nat.reduceAdd,Nat.reduceMul,Nat.reduceLeDiff,Nat.reduceLT,Nat.reduceEqDiff];try trivial)) (by (simp only [ZZ,WW,Ze,reduceCtorEq,Nat.reduceAdd,Nat.reduceMul,Nat.reduceLeDiff,Nat.reduceLT,Nat.reduceEqDiff];try trivial)) ⟨k+1,by omega,rfl,by intro j hj;rcases Nat.lt_or_ge j k with h'|h';exact hno j h';rw [show j=k by omega,hc,hz],rfl,rfl⟩
   intro h1
   have hb:backB d=true:=by
    simp only [Bool.and_eq_false_iff,Bool.not_eq_false',decide_eq_true_eq] at h1
    simpa [backB] using h1
   have hof:ofF l d=ofX d (findD l d.osite d.ono):=by rw [ofF,if_pos hb]
   simp only [ZZ,WW,Ze,reduceCtorEq,Nat.reduceAdd,Nat.reduceMul,Nat.reduceLeDiff,Nat.reduceLT,Nat.reduceEqDiff]
   refine use1 (deedOf_ok l d.osite d.ono (by omega)) rfl (.inl rfl) ?_
   cases hx:findD l d.osite d.ono with
   |none=>
    rw [hx] at hof
    have hof:ofF l d=8:=hof
    have hs:=scan_hit hlt hno (by rw [hc,hof];decide)
    rw [hc,hof] at hs
    simp only [ZZ,WW,Ze,reduceCtorEq,Nat.reduceAdd,Nat.reduceMul,Nat.reduceLeDiff,Nat.reduceLT,Nat.reduceEqDiff,Option.getD_none,Option.isSome_none,dd0,ddC]
    rw [hs]
   |some x=>
    rw [hx] at hof
    simp only [ZZ,WW,Ze,reduceCtorEq,Nat.reduceAdd,Nat.reduceMul,Nat.reduceLeDiff,Nat.reduceLT,Nat.reduceEqDiff,Option.getD_some,Option.isSome_some,ddC]
    refine use1 (permitted_ok d x) rfl (.inl rfl) ?_
    simp only [ZZ,WW,Ze,reduceCtorEq,Nat.reduceAdd,Nat.reduceMul,Nat.reduceLeDiff,Nat.reduceLT,Nat.reduceEqDiff]
    refine br ?_ ?_
    ·intro h2
     have h2:permB d x=false:=by simpa using h2
     have hof:ofF l d=16:=by rw [hof,ofX,h2];rfl
     have hs:=scan_hit hlt hno (by rw [hc,hof];decide)
     rw [hc,hof] at hs
     simp only [ZZ,WW,Ze,reduceCtorEq,Nat.reduceAdd,Nat.reduceMul,Nat.reduceLeDiff,Nat.reduceLT,Nat.reduceEqDiff]
     rw [hs]
    ·intro h2
     have h2:permB d x=true:=by simpa using h2
     have hof:ofF l d=0:=by rw [hof,ofX,h2];rfl
     simp only [ZZ,WW,Ze,reduceCtorEq,Nat.reduceAdd,Nat.reduceMul,Nat.reduceLeDiff,Nat.reduceLT,Nat.reduceEqDiff]
     refine cut_same zE_ ?_
     simp only [ZZ,WW,Ze,reduceCtorEq,Nat.reduceAdd,Nat.reduceMul,Nat.reduceLeDiff,Nat.reduceLT,Nat.reduceEqDiff]
     ((repeat' (with_reducible apply And.intro))<;>try ((exact sc_)))
     refine end_round (l.length - (k+1)) [.p (.sl 12 (ddE l)),oo,.p (int 0),.p (int 0),oo,oo,oo,oo,oo,oo,oo,oo,oo,oo,oo,oo,oo,oo,oo,oo,oo,oo,oo,oo,oo,oo,oo,oo,oo,oo,oo,oo,oo,oo,oo,oo,oo,oo,oo,oo,oo,oo,oo,oo,oo,oo,oo,oo,oo,oo,oo,oo,oo,oo,oo,oo,oo,oo,oo,oo,oo,oo,oo,oo,oo,oo,oo,oo,oo,oo,oo,oo,oo,oo,oo,oo,oo,oo,oo,oo,oo,oo,oo,oo,oo,oo,oo,oo,oo,oo,oo,oo,oo,oo,.p (.sl 12 (ddE l)),.p (int (l.length:Nat)),.p (int ((k+1):Nat)),oo,oo,oo,oo,oo,oo,oo,oo,oo,oo,oo,oo,oo,oo,oo,oo,oo,oo,oo,oo,oo,oo,oo,oo,oo,oo,oo,oo] [] (by omega) (by (simp only [ZZ,WW,Ze,reduceCtorEq,Nat.reduceAdd,Nat.reduceMul,Nat.reduceLeDiff,Nat.reduceLT,Nat.reduceEqDiff];try trivial)) (by (simp only [ZZ,WW,Ze,reduceCtorEq,Nat.reduceAdd,Nat.reduceMul,Nat.reduceLeDiff,Nat.reduceLT,Nat.reduceEqDiff];try trivial)) ⟨k+1,by omega,rfl,by intro j hj;rcases Nat.lt_or_ge j k with h'|h';exact hno j h';rw [show j=k by omega,hc,hof],rfl,rfl⟩
  ·intro h
   have hge:l.length≤k:=by have:=of_decide_eq_false h;omega
   have hs:=scan_none (g:=ofI l) (N:=l.length) (fun j hj=>hno j (by omega))
   simp only [ZZ,WW,Ze,reduceCtorEq,Nat.reduceAdd,Nat.reduceMul,Nat.reduceLeDiff,Nat.reduceLT,Nat.reduceEqDiff]
   rw [hs]
end Go.Proofs.YtinffddgojhdfaaGreatDoor
namespace Go.Proofs.YtinffddgojhdfaaGreatDoor
open Go.Lib Go.RowKit Go.Shelf Go.Sort
section
variable {P:Program} {ρ:Ren} {E:Envt} {α:Type} [Inhabited α]
def encD (encP:α→List PV) (x:α):List Value:=(encP x).map valD
theorem flatK_list (enc:α→List Value) (k:Nat) (hk:∀ x,(enc x).length=k) (l:List α):(flatK enc k l.toArray).toList=(l.map enc).flatten:=by
 have hlen:∀ l:List α,((l.map enc).flatten).length=l.length * k:=by
  intro l
  induction l with
  |nil=>simp
  |cons x r ih=>rw [List.map_cons,List.flatten_cons,List.length_append,ih,hk,List.length_cons,Nat.add_mul];omega
 have hget:∀ (l:List α) (t:Nat),t < l.length * k→((l.map enc).flatten)[t]?=some (enc (l.toArray)[t / k]!)[t % k]!:=by
  intro l
  induction l with
  |nil=>intro t h;simp at h
  |cons x r ih=>
   intro t h
   have k0:0 < k:=by rcases Nat.eq_zero_or_pos k with h'|h';· subst h';simp at h
                     ·exact h'
   rw [List.map_cons,List.flatten_cons]
   by_cases ht:t < k
   ·rw [List.getElem?_append_left (by rw [hk];exact ht),Nat.div_eq_of_lt ht,Nat.mod_eq_of_lt ht]
    have:((x :: r).toArray)[0]! =x:=rfl
    rw [this,List.getElem?_eq_getElem (by rw [hk];exact ht),getElem!_pos (enc x) t (by rw [hk];exact ht)]
   ·rw [List.getElem?_append_right (by rw [hk];omega),hk,ih (t - k) (by rw [List.length_cons,Nat.add_mul] at h;omega)]
    obtain ⟨u,rfl⟩:∃ u,t=u+k:=⟨t - k,by omega⟩
    rw [Nat.add_sub_cancel,Nat.add_mod_right,Nat.add_div_right _ k0]
    congr 2
    simp
 apply List.ext_getElem?
 intro t
 by_cases ht:t < l.length * k
 ·rw [hget l t ht,Array.getElem?_toList,Array.getElem?_eq_getElem (by rw [size_flatK];simpa using ht)]
  have:=get_flatK enc k l.toArray t (by simpa using ht)
  rw [getElem!_pos _ t (by rw [size_flatK];simpa using ht)] at this
  rw [this]
 ·rw [List.getElem?_eq_none (by rw [Array.length_toList,size_flatK];simpa using ht),List.getElem?_eq_none (by rw [hlen];omega)]
theorem sorted_pairwise (lt:α→α→Bool) (d:Array α) (n:Nat) (hn:d.size=n) (h:SortedIn lt 0 n d):d.toList.Pairwise (fun u v=>lt v u=false):=by
 rw [List.pairwise_iff_getElem]
 intro i j hi hj hij
 have:=h i j (Nat.zero_le _) hij (by simpa [hn] using hj)
 rw [getElem!_pos d i (by simpa using hi),getElem!_pos d j (by simpa using hj)] at this
 simpa using this
theorem perm_list (d d':Array α) (h:PermIn 0 d.size d d'):d'.toList.Perm d.toList∧d'.size=d.size:=by
 refine ⟨?_,h.1⟩
 have:=h.2.2
 rw [Array.extract_eq_self_of_le (Nat.le_refl _),Array.extract_eq_self_of_le (by rw [h.1];exact Nat.le_refl _)] at this
 exact this
theorem sortFunc_row (L:SlLaysF0.n6 P ρ) (k:Nat) (aE:∀ w,(isAgg (ρ.t 24)).run P w=.ok true w) (zE:∀ w,(Go.sizeOf (ρ.t 24)).run P w=.ok k w) (et:TypeId) (encP:α→List PV) (hk:∀ x,(encP x).length=k) (hf:∀ x,(encP x).all flatD=true) (cf:α→α→Int) (hO:SWO (ltOf cf)) (g:Nat) (eg:∀ args w,(callFunc g args).run P w=.ok (.enter g args) w)
  (hcmp:∀ (w:World) (x y:α),Calls P g #[.agg (encD encP x).toArray,.agg (encD encP y).toArray] w fun e w'=>e=.returned (.int .i64 (cf x y))∧∃ q os',w'=grow (w.drewN q) os') (l:List α) (hl:l.length≤1000000000000) :
  RCall P E (ρ.f 6) et k (l.map encP) [.clo g []] (fun x es'=>x=.tup []∧∃ l':List α,es'=l'.map encP∧l'.Perm l∧l'.Pairwise (fun u v=>ltOf cf v u=false)):=by
 intro w U vs v0 hU hE hEb hA hB
 obtain ⟨hB1,us,hrow,h1,hrep,hz⟩:=hB
 have hvs:vs=[.func (.func g) #[] #[]]:=by
  simp only [PRepL,PRep] at hA
  obtain ⟨v,r,rfl,⟨us,h1,rfl⟩,rfl⟩:=hA
  rw [h1]
 subst hvs
 have hall:∀ l:List α,((l.map encP).flatten).all flatD=true:=by
  intro l
  induction l with
  |nil=>rfl
  |cons x r ih=>rw [List.map_cons,List.flatten_cons,List.all_append,hf,ih];rfl
 have hmapf:∀ l:List α,((l.map encP).flatten).map valD=(l.map (encD encP)).flatten:=by
  intro l
  induction l with
  |nil=>rfl
  |cons x r ih=>rw [List.map_cons,List.flatten_cons,List.map_append,ih];rfl
 rw [PRepL.valD (hall l),hmapf] at hrep
 subst hrep
 have hke:∀ x,(encD encP x).length=k:=fun x=>by simp [encD,hk]
 rw [List.length_map] at hrow
 rcases hrow.2 with ⟨rfl,hn⟩|⟨b,cap,cur,fz,rfl,hg,hn,hcap,hcs,htk,hfz⟩
 ·have hl0:l=[]:=List.eq_nil_of_length_eq_zero hn
  subst hl0
  refine (AnyF.slices_SortFunc_none L none 0 (.func (.func g) #[] #[]) w).mono ?_
  rintro e w' ⟨rfl,rfl⟩
  exact ⟨_,.p (.tup []),.row et k [],rfl,⟨_,_,rfl,rfl,rfl,[],rfl,.refl _,.nil⟩,⟨[],rfl,by simp [PRepL]⟩,Grow.refl _ _,⟨[],⟨by simp,.inl ⟨rfl,rfl⟩⟩,by simp,by simp [PRepL],by simp⟩⟩
 ·have hf0:fz=(0,0):=by rcases hfz with h|h;exact h;exact absurd h.1 (by simp)
  subst hf0
  have hb:b < w.heap.size:=by
   rcases Nat.lt_or_ge b w.heap.size with h|h
   ·exact h
   ·rw [Array.getElem?_eq_none h] at hg;cases hg
  have hlk:=flatK_list (encD encP) k hke l
  have hsz:(flatK (encD encP) k l.toArray).size=l.length * k:=by rw [size_flatK];simp
  have hH:HoldsK (encD encP) k w b 0 l.toArray:=by
   intro j hj
   rw [hsz] at hj
   have e1:cur[j]?=some ((flatK (encD encP) k l.toArray)[j]!):=by
    rw [getElem!_pos _ j (by rw [hsz];exact hj),← Array.getElem_toList,← List.getElem?_eq_getElem,hlk,← htk,List.getElem?_take_of_lt hj,Array.getElem?_toList]
   refine ⟨?_,?_⟩
   ·simp only [World.cell?,hg]
    simpa using e1
   ·simp [World.frozen?,hg]
  have hcmp':CmpLays P g #[] (encD encP) k cf b 0 l.toArray.size w:=fun m os dk hs x y=>by simpa using hcmp _ x y
  refine (AnyQ.slices_SortFunc L k aE zE (encD encP) hke (fun x v hv=>by
   simp only [encD,List.mem_map] at hv
   obtain ⟨q,hq,rfl⟩:=hv
   exact valD_one (List.all_eq_true.1 (hf x) q hq)) cf hO g #[] b 0 cap l.toArray w eg hcmp' hH hb (by simp;omega)).mono ?_
  rintro e w' ⟨rfl,d',n,os,hperm,hsort,rfl⟩
  obtain ⟨hp1,hp2⟩:=perm_list _ _ hperm
  have hp2':d'.size=l.length:=by simpa using hp2
  have hds:=sorted_pairwise (ltOf cf) d' l.toArray.size hp2 hsort
  have hblk:∀ c,c≠b→c < w.heap.size→(sortWorldK (encD encP) k w b 0 n d' os).heap[c]?=w.heap[c]?:=by
   intro c hc hlt
   simp only [sortWorldK,grow,putRowK,putRow,mapBlock]
   rw [Array.getElem?_append_left (by simpa using hlt),Array.getElem?_modify,if_neg (fun e=>hc e.symm)]
   rfl
  have hnew:(sortWorldK (encD encP) k w b 0 n d' os).heap[b]?=some (.cells (putCells id 0 (flatK (encD encP) k d') cur) et (0,0)):=by
   simp only [sortWorldK,grow,putRowK,putRow,mapBlock]
   rw [Array.getElem?_append_left (by simpa using hb),Array.getElem?_modify,if_pos rfl]
   show Option.map _ w.heap[b]?=_
   rw [hg]
   rfl
  have hGr:Grow w (sortWorldK (encD encP) k w b 0 n d' os) (fun c=>blk (.slice (some ⟨b,0,none⟩) l.length cap)=some c):=by
   refine ⟨rfl,rfl,rfl,?_,fun c hc hne=>hblk c (fun e=>hne (by rw [e];rfl)) hc⟩
   simp [sortWorldK,grow,putRowK,putRow,mapBlock]
  refine ⟨_,.p (.tup []),.row et k (d'.toList.map encP),rfl,⟨_,_,rfl,rfl,rfl,d'.toList,rfl,by simpa using hp1,hds⟩,⟨[],rfl,by simp [PRepL]⟩,hGr,?_⟩
  have hlen':((d'.toList.map (encD encP)).flatten).length=l.length * k:=by
   rw [← flatK_list (encD encP) k hke d'.toList,Array.length_toList,size_flatK]
   simp [hp2']
  have hdl:(d'.toList.map encP).length=l.length:=by simp [hp2']
  refine ⟨(d'.toList.map (encD encP)).flatten,⟨by rw [hlen',hdl],.inr ⟨b,cap,_,(0,0),by rw [hdl],hnew,by rw [hdl];exact hn,hcap,by simp [putCells,hcs],?_,.inl rfl⟩⟩,?_,?_,?_⟩
  ·rw [hdl]
   have hle:l.length * k≤cur.size:=by rw [hcs];exact Nat.mul_le_mul_right _ hn
   have hfk:=flatK_list (encD encP) k hke d'.toList
   apply List.ext_getElem?
   intro j
   by_cases hj:j < l.length * k
   ·rw [List.getElem?_take_of_lt hj,Array.getElem?_toList,← hfk,Array.getElem?_toList]
    have hsz':(flatK (encD encP) k d').size=l.length * k:=by rw [size_flatK,hp2']
    simp only [putCells,Array.getElem?_mapIdx,hsz']
    rw [Array.getElem?_eq_getElem (by omega),Option.map_some,if_pos ⟨Nat.zero_le _,by omega⟩,Nat.sub_zero,getElem!_pos _ j (by rw [hsz'];exact hj)]
    simp
   ·rw [List.getElem?_eq_none (by rw [List.length_take];omega),List.getElem?_eq_none (by rw [hlen'];omega)]
  ·intro u hu
   obtain ⟨q,hq,hu⟩:=List.mem_flatten.1 hu
   obtain ⟨x,hx,rfl⟩:=List.mem_map.1 hq
   simp only [encD,List.mem_map] at hu
   obtain ⟨q,hq,rfl⟩:=hu
   exact valD_one (List.all_eq_true.1 (hf x) q hq)
  ·rw [PRepL.valD (hall d'.toList),hmapf]
  ·intro x hx
   obtain ⟨y,_,rfl⟩:=List.mem_map.1 hx
   exact hk y
end
end Go.Proofs.YtinffddgojhdfaaGreatDoor
namespace Go.Proofs.YtinffddgojhdfaaGreatDoor
open Go.RowKit Go.Sort
theorem or2_any (x y:Int) (b:Nat) (w:World) (h0:w.cell? ⟨b,0,none⟩=some (.int .i64 x)) (h1:w.cell? ⟨b,1,none⟩=some (.int .i64 y)) :
  Calls Tryz.prog 77 #[.slice (some ⟨b,0,none⟩) 2 2] w fun e w'=>e=.returned (.int .i64 (firstE [x,y]))∧w'=w:=by
 by_cases hx:x=0
 ·by_cases hy:y=0
  ·subst hx hy
   go_enter Tryz.func77,Tryz.ntmps77
   go_wp2_with fail
   go_rounds 3
   go_ret
   exact ⟨rfl,rfl⟩
  ·subst hx
   go_enter Tryz.func77,Tryz.ntmps77
   go_wp2_with fail
   go_rounds 3
   go_ret
   exact ⟨by simp [firstE,hy],rfl⟩
 ·go_enter Tryz.func77,Tryz.ntmps77
  go_wp2_with fail
  go_rounds 3
  go_ret
  exact ⟨by simp [firstE,hx],rfl⟩
theorem grow2d (w:World) (a b:Obj):∃ q os',(w.alloc a).alloc b=grow (w.drewN q) os':=
 ⟨0,#[a,b],by cases w;simp only [World.alloc,grow,World.drewN,World.mk.injEq,and_true,Nat.add_zero];apply Array.ext';simp⟩
theorem grow_push (w:World) (os:Array Obj) (o:Obj):(grow w os).alloc o=grow w (os.push o):=by
 cases w
 simp only [World.alloc,grow,World.mk.injEq,and_true]
 apply Array.ext'
 simp
theorem cell_a0 (w:World) (c1:Array Value) (e1:TypeId) (i:Nat):(w.alloc (.cells c1 e1)).cell? ⟨w.heap.size,i,none⟩=c1[i]?:=by
 unfold World.cell?
 simp only [heap_alloc_new w (.cells c1 e1)]
 rfl
theorem cell_a1 (w:World) (c1 c2:Array Value) (e1 e2:TypeId) (i:Nat):((w.alloc (.cells c1 e1)).alloc (.cells c2 e2)).cell? ⟨w.heap.size,i,none⟩=c1[i]?:=by
 have h:((w.alloc (.cells c1 e1)).alloc (.cells c2 e2)).heap[w.heap.size]?=some (.cells c1 e1):=(heap_alloc_old (w.alloc (.cells c1 e1)) (.cells c2 e2) (by simp)).trans (heap_alloc_new w (.cells c1 e1))
 unfold World.cell?
 simp only [h]
 rfl
theorem cell_a2 (w:World) (c1 c2:Array Value) (e1 e2:TypeId) (i:Nat):((w.alloc (.cells c1 e1)).alloc (.cells c2 e2)).cell? ⟨w.heap.size+1,i,none⟩=c2[i]?:=by
 have h:((w.alloc (.cells c1 e1)).alloc (.cells c2 e2)).heap[w.heap.size+1]?=some (.cells c2 e2):=by
  have:=heap_alloc_new (w.alloc (.cells c1 e1)) (.cells c2 e2)
  simpa using this
 unfold World.cell?
 simp only [h]
 rfl
def ddV (d:Dd):Array Value:=(encD ddC d).toArray
set_option maxRecDepth 100000 in
set_option maxHeartbeats 2000000 in
theorem stampOrder_any (a b:Dd) (w:World):Calls Tryz.prog 50 #[.agg (ddV a),.agg (ddV b)] w fun e w'=>e=.returned (.int .i64 (cmpD a b))∧∃ q os',w'=grow (w.drewN q) os':=by
 have ea:ddV a=#[.string ⟨a.site.toArray⟩,.int .i64 a.no,.int .i64 a.tm,.int .i64 a.kind,.string ⟨a.id.toArray⟩,.string ⟨a.field.toArray⟩,.string ⟨a.value.toArray⟩,.int .i64 a.frm,.int .i64 a.upto,.string ⟨a.osite.toArray⟩,.int .i64 a.ono,.string ⟨a.sum.toArray⟩]:=rfl
 have eb:ddV b=#[.string ⟨b.site.toArray⟩,.int .i64 b.no,.int .i64 b.tm,.int .i64 b.kind,.string ⟨b.id.toArray⟩,.string ⟨b.field.toArray⟩,.string ⟨b.value.toArray⟩,.int .i64 b.frm,.int .i64 b.upto,.string ⟨b.osite.toArray⟩,.int .i64 b.ono,.string ⟨b.sum.toArray⟩]:=rfl
 rw [ea,eb]
 go_enter Tryz.func50,Tryz.ntmps50
 go_wp2_with fail
 generalize hW:World.alloc (World.alloc w _) _=W
 have c0:W.cell? ⟨w.heap.size,0,none⟩=some (.string ⟨a.site.toArray⟩):=by rw [← hW,cell_a1];rfl
 have c1:W.cell? ⟨w.heap.size,1,none⟩=some (.int .i64 a.no):=by rw [← hW,cell_a1];rfl
 have c2:W.cell? ⟨w.heap.size+1,0,none⟩=some (.string ⟨b.site.toArray⟩):=by rw [← hW,cell_a2];rfl
 have c3:W.cell? ⟨w.heap.size+1,1,none⟩=some (.int .i64 b.no):=by rw [← hW,cell_a2];rfl
 have hG:∃ q os',W=grow (w.drewN q) os':=hW ▸ grow2d w _ _
 clear hW ea eb
 generalize w.heap.size=n at *
 refine wp_region_still_tail 14 (by kernel_rfl) (by kernel_rfl) ?_
 simp only [List.take_succ_cons,List.take_zero,List.drop_succ_cons,List.drop_zero]
 have hG2:∃ q os',({ W with drawn:=W.drawn+1 }:World)=grow (w.drewN q) os':=by
  obtain ⟨q,os',rfl⟩:=hG
  exact ⟨q+1,os',rfl⟩
 replace c0:({ W with drawn:=W.drawn+1 }:World).cell? ⟨n,0,none⟩=some (.string ⟨a.site.toArray⟩):=c0
 replace c1:({ W with drawn:=W.drawn+1 }:World).cell? ⟨n,1,none⟩=some (.int .i64 a.no):=c1
 replace c2:({ W with drawn:=W.drawn+1 }:World).cell? ⟨n+1,0,none⟩=some (.string ⟨b.site.toArray⟩):=c2
 replace c3:({ W with drawn:=W.drawn+1 }:World).cell? ⟨n+1,1,none⟩=some (.int .i64 b.no):=c3
 clear hG
 generalize ({ W with drawn:=W.drawn+1 }:World)=V at *
 refine wpStill_step (fun K hK=>?_)
 go_simp
 refine hK _ ?_
 clear hK K
 refine wpStill_step (fun K hK=>?_)
 go_simp
 refine hK _ ?_
 clear hK K
 refine wpStill_step (fun K hK=>?_)
 go_simp
 refine hK _ ?_
 clear hK K
 refine wpStill_step (fun K hK=>?_)
 go_simp
 refine hK _ ?_
 clear hK K
 refine wpStill_step (fun K hK=>?_)
 go_simp
 refine hK _ ?_
 clear hK K
 refine wpStill_step (fun K hK=>?_)
 go_simp
 refine hK _ ?_
 clear hK K
 refine wpStill_step (fun K hK=>?_)
 go_simp
 refine ⟨_,Any.strings_Compare Tryz.layCompare _ _ _,hK _ ?_⟩
 clear hK K
 refine wpStill_step (fun K hK=>?_)
 go_simp
 refine hK _ ?_
 clear hK K
 refine wpStill_step (fun K hK=>?_)
 go_simp
 refine hK _ ?_
 clear hK K
 refine wpStill_step (fun K hK=>?_)
 go_simp
 refine hK _ ?_
 clear hK K
 refine wpStill_step (fun K hK=>?_)
 go_simp
 refine hK _ ?_
 clear hK K
 refine wpStill_step (fun K hK=>?_)
 go_simp
 refine hK _ ?_
 clear hK K
 refine wpStill_step (fun K hK=>?_)
 go_simp
 refine hK _ ?_
 clear hK K
 refine wpStill_step (fun K hK=>?_)
 go_simp
 refine ⟨_,Any.cmp_Compare_int Tryz.layCmpInt _ _ _,hK _ ?_⟩
 clear hK K
 refine wpStill_nil ?_
 clear c0 c1 c2 c3
 have hv:firstE [Lib.compareBytes a.site b.site,Lib.compareInt a.no b.no]=cmpD a b:=by
  have e:Lib.compareInt a.no b.no=sgnC a.no b.no:=by
   unfold Lib.compareInt sgnC
   split
   ·rfl
   ·split<;>rfl
  rw [e]
  rfl
 generalize Lib.compareBytes a.site b.site=x at *
 generalize Lib.compareInt a.no b.no=y at *
 go_wp2_with (refine (or2_any x y V.heap.size (V.alloc (.cells #[.int .i64 x,.int .i64 y] 3)) (cell_a0 V _ _ 0) (cell_a0 V _ _ 1)).mono ?_;rintro e w' ⟨rfl,rfl⟩)
 go_ret
 refine ⟨rfl,?_⟩
 obtain ⟨q,os',rfl⟩:=hG2
 exact ⟨q,os'.push _,grow_push _ _ _⟩
def SortedD (E:Envt) (g:FuncId) (l:List Dd):Prop:=RCall Tryz.prog E 66 tDd 12 (ddE l) [.clo g []] (fun x es'=>x=.tup []∧∃ l':List Dd,es'=ddE l'∧l'.Perm l∧l'.Pairwise (fun u v=>cmpD u v≤0))
theorem stamp_sort (E:Envt) (l:List Dd) (hl:l.length≤1000000000000):SortedD E 50 l:=by
 have tr:=cmpD_p.tr
 have an:=cmpD_p.anti
 have h:=sortFunc_row (E:=E) Tryz.layDeedSort 12 (fun w=>Tryz.isAgg45 w) (fun w=>Tryz.sizeOf45 w) tDd ddC (fun x=>rfl) (fun x=>rfl) cmpD
  ⟨fun x=>by have:=an x x;simp [ltOf];omega,fun x y z h1 h2=>by simp only [ltOf,decide_eq_true_eq] at *;have a1:=an x y;have a2:=an y z;have a3:=an x z;have a4:=an z x;have t1:=tr x y z;have t2:=tr z x y;omega,fun x y z h1 h2=>by simp only [ltOf,decide_eq_false_iff_not] at *;have a1:=an x y;have a2:=an y z;have a3:=an x z;have t1:=tr z y x;have a4:=an z y;have a5:=an y x;omega⟩ 50 (fun args w=>run_enter (by kernel_rfl) args w)
  (fun w x y=>stampOrder_any _ _ w) l hl
 refine RCall.mono h ?_
 rintro x es ⟨rfl,l',rfl,hp,hs⟩
 refine ⟨rfl,l',rfl,hp,hs.imp ?_⟩
 intro u v h
 have:=an v u
 simp only [ltOf,decide_eq_false_iff_not] at h
 omega
def srtD (q:List Dd):List Dd:=q.mergeSort fun a b=>decide (cmpD a b≤0)
theorem srt_perm (q:List Dd):(srtD q).Perm q:=List.mergeSort_perm _ _
theorem srt_srt (q:List Dd):(srtD q).Pairwise fun u v=>cmpD u v≤0:=by
 have tr:=cmpD_p.tr
 have an:=cmpD_p.anti
 have:=List.pairwise_mergeSort (le:=fun a b:Dd=>decide (cmpD a b≤0)) (fun a b c h1 h2=>by simp only [decide_eq_true_eq] at *;exact tr a b c h1 h2) (fun a b=>by simp only [Bool.or_eq_true,decide_eq_true_eq];have:=an a b;have:=an b a;omega) q
 exact this.imp fun h=>by simpa using h
def UnqD (q:List Dd):Prop:=q.Pairwise fun a b=>¬ cmpD a b=0
theorem unq_eq {q:List Dd} (h:UnqD q) {x y:Dd} (hx:x∈q) (hy:y∈q) (h0:cmpD x y=0):x=y:=by
 have an:=cmpD_p.anti
 obtain ⟨i,hi,rfl⟩:=List.mem_iff_getElem.1 hx
 obtain ⟨j,hj,rfl⟩:=List.mem_iff_getElem.1 hy
 unfold UnqD at h
 rw [List.pairwise_iff_getElem] at h
 rcases Nat.lt_trichotomy i j with h1|h1|h1
 ·exact absurd h0 (h i j hi hj h1)
 ·subst h1;rfl
 ·have h2:=h j i hj hi h1
  have a1:=an q[i] q[j]
  have a2:=an q[j] q[i]
  exact absurd (by omega) h2
theorem srt_eq {q l:List Dd} (hq:UnqD q) (hp:l.Perm q) (hs:l.Pairwise fun u v=>cmpD u v≤0):l=srtD q:=by
 have an:=cmpD_p.anti
 exact List.Perm.eq_of_pairwise (le:=fun u v=>cmpD u v≤0) (fun a b ha hb h1 h2=>unq_eq hq (hp.mem_iff.1 ha) ((srt_perm q).mem_iff.1 hb) (by have:=an a b;have:=an b a;omega)) hs (srt_srt q) (hp.trans (srt_perm q).symm)
theorem stamp_srt (E:Envt) (l:List Dd) (hl:l.length≤1000000000000) (hq:UnqD l):RCall Tryz.prog E 66 tDd 12 (ddE l) [.clo 50 []] (fun x es'=>x=.tup []∧es'=ddE (srtD l)):=by
 refine RCall.mono (stamp_sort E l hl) ?_
 rintro x es ⟨rfl,l',rfl,hp,hs⟩
 exact ⟨rfl,by rw [srt_eq hq hp hs]⟩
end Go.Proofs.YtinffddgojhdfaaGreatDoor
