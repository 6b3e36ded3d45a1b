
/- Own texts, put together: E1 G7 I3 I4 I5 I6. -/
import Derived.Test.YtndjmidmfmcbkaaGreatDoorM4
import Derived.Test.YtndjmidmfmcbkaaGreatDoorM6
import Derived.Test.YtndjmidmfmcbkaaGreatDoorM5
import Derived.Sort.Walk0
/- slices.Equal of strings. -/
namespace Go.Proofs.YtndjmidmfmcbkaaGreatDoor
set_option linter.unusedVariables false
set_option linter.unusedSimpArgs false
set_option linter.defProp false
section
variable {E : Envt}
end
end Go.Proofs.YtndjmidmfmcbkaaGreatDoor

/- Terms: their checks, on both sides; the terms of a string. -/
namespace Go.Proofs.YtndjmidmfmcbkaaGreatDoor
open Go.RowKit
set_option linter.unusedVariables false
set_option linter.unusedSimpArgs false
set_option linter.defProp false



def leS (x y : List UInt8) : Bool := bytesLess x y || decide (x = y)
section
end
end Go.Proofs.YtndjmidmfmcbkaaGreatDoor

/- Parties and domains: their checks, on both sides. -/
namespace Go.Proofs.YtndjmidmfmcbkaaGreatDoor
open Go.RowKit
set_option linter.unusedVariables false
set_option linter.unusedSimpArgs false
set_option linter.defProp false

/- paperchase/privilege.kindError -/
def ir_privilege_kindError : IC :=
  (.seq (.reg [⟨some 4, .mov (.c (.int .i64 0)), none⟩])
    (.seq (.reg [⟨some 5, .mov (.t 0), none⟩,
      ⟨some 6, .call 133 [.t 5, .c (.int .i64 1), .c (.int .i64 3)], none⟩,
      ⟨some 7, .not (.t 6), none⟩,
      ⟨some 8, .mov (.t 7), none⟩,
      ⟨some 9, .mov (.t 1), (some (8, false))⟩,
      ⟨some 10, .call 133 [.t 9, .c (.int .i64 1), .c (.int .i64 4)], (some (8, false))⟩,
      ⟨some 11, .not (.t 10), (some (8, false))⟩,
      ⟨some 12, .pick (.t 8) (.c (.bool true)) (.t 11), none⟩,
      ⟨some 13, .call 74 [.t 12, .c (.int .i64 4)], none⟩,
      ⟨some 4, .mov (.t 13), none⟩])
    .ret))
def rs_privilege_kindError : List IRes := [.t 4]
theorem ck_privilege_kindError : chkF Tryz.prog Tryz.f76 ir_privilege_kindError rs_privilege_kindError 14 = true := by kernel_rfl
/- paperchase/privilege.mailError -/
def ir_privilege_mailError : IC :=
  (.seq (.reg [⟨some 2, .mov (.c (.int .i64 0)), none⟩])
    (.seq (.reg [⟨some 3, .mov (.t 0), none⟩,
      ⟨some 4, .call 75 [.t 3], none⟩,
      ⟨some 5, .not (.t 4), none⟩,
      ⟨some 6, .call 74 [.t 5, .c (.int .i64 3)], none⟩,
      ⟨some 2, .mov (.t 6), none⟩])
    .ret))
def rs_privilege_mailError : List IRes := [.t 2]
theorem ck_privilege_mailError : chkF Tryz.prog Tryz.f77 ir_privilege_mailError rs_privilege_mailError 7 = true := by kernel_rfl
/- paperchase/privilege.CheckPeople -/
def ir_privilege_CheckPeople_L0 : IC :=
  (.seq (.reg [⟨some 12, .bin .lss (.t 11) (.t 10), none⟩])
    (.seq (.cond (.t 12) .skip (.exit 0))
    (.seq (.block 1 (.seq (.reg [⟨some 13, .mov (.t 11), none⟩,
      ⟨some 14, .ixa 3 (.t 9) (.t 11), none⟩,
      ⟨some 15, .ld 3 true (.t 14), none⟩,
      ⟨some 4, .alc 36 [.str [], .int .i64 0, .int .i64 0], none⟩,
      ⟨some 3, .mov (.t 13), none⟩,
      ⟨none, .st 3 (.t 4) (.t 15), none⟩])
    (.seq (.drg [⟨some 16, .fla 0 (.t 4), none⟩,
      ⟨some 17, .ld 1 false (.t 16), none⟩,
      ⟨some 18, .pcall 0 75 [.t 17], none⟩,
      ⟨some 19, .not (.t 18), none⟩,
      ⟨some 20, .pcall 1 74 [.t 19, .c (.int .i64 3)], none⟩,
      ⟨some 21, .mov (.t 3), none⟩,
      ⟨some 22, .bin .gtr (.t 21) (.c (.int .i64 0)), none⟩,
      ⟨some 23, .mov (.t 22), none⟩,
      ⟨some 24, .fla 0 (.t 4), (some (23, true))⟩,
      ⟨some 25, .ld 1 false (.t 24), (some (23, true))⟩,
      ⟨some 26, .mov (.t 0), (some (23, true))⟩,
      ⟨some 27, .mov (.t 3), (some (23, true))⟩,
      ⟨some 28, .mx (.t 27) (.c (.int .i64 1)), (some (23, true))⟩,
      ⟨some 29, .bin .sub (.t 28) (.c (.int .i64 1)), (some (23, true))⟩,
      ⟨some 30, .ixa 3 (.t 26) (.t 29), (some (23, true))⟩,
      ⟨some 31, .fla 0 (.t 30), (some (23, true))⟩,
      ⟨some 32, .ld 1 false (.t 31), (some (23, true))⟩,
      ⟨some 33, .bin .leq (.t 25) (.t 32), (some (23, true))⟩,
      ⟨some 34, .pick (.t 23) (.t 33) (.c (.bool false)), none⟩,
      ⟨some 35, .pcall 2 74 [.t 34, .c (.int .i64 7)], none⟩,
      ⟨some 36, .fla 1 (.t 4), none⟩,
      ⟨some 37, .ld 1 false (.t 36), none⟩,
      ⟨some 38, .fla 2 (.t 4), none⟩,
      ⟨some 39, .ld 1 false (.t 38), none⟩,
      ⟨some 40, .pcall 3 76 [.t 37, .t 39], none⟩,
      ⟨some 41, .bsl 1 [.t 20, .t 35, .t 40], none⟩,
      ⟨some 42, .pcall 4 73 [.t 41], none⟩,
      ⟨some 5, .mov (.t 42), none⟩])
    (.seq (.reg [⟨some 43, .mov (.t 5), none⟩,
      ⟨some 44, .bin .neq (.t 43) (.c (.int .i64 0)), none⟩])
    (.cond (.t 44) (.seq (.reg [⟨some 45, .mov (.t 5), none⟩,
      ⟨some 2, .mov (.t 45), none⟩])
    .ret) .skip)))))
    (.reg [⟨some 46, .bin .add (.t 11) (.c (.int .i64 1)), none⟩,
      ⟨some 11, .mov (.t 46), none⟩]))))
def ir_privilege_CheckPeople : IC :=
  (.seq (.reg [⟨some 2, .mov (.c (.int .i64 0)), none⟩])
    (.seq (.seq (.reg [⟨some 6, .mov (.t 0), none⟩,
      ⟨some 7, .len (.t 6), none⟩,
      ⟨some 8, .bin .gtr (.t 7) (.c (.int .i64 200)), none⟩])
    (.cond (.t 8) (.seq (.reg [⟨some 2, .mov (.c (.int .i64 2)), none⟩])
    .ret) .skip))
    (.seq (.seq (.reg [⟨some 9, .mov (.t 0), none⟩,
      ⟨some 10, .len (.t 9), none⟩,
      ⟨some 11, .mov (.c (.int .i64 0)), none⟩])
    (.block 0 (.loop ir_privilege_CheckPeople_L0)))
    (.seq (.reg [⟨some 2, .mov (.c (.int .i64 0)), none⟩])
    .ret))))
def rs_privilege_CheckPeople : List IRes := [.t 2]
theorem ck_privilege_CheckPeople : chkF Tryz.prog Tryz.f11 ir_privilege_CheckPeople rs_privilege_CheckPeople 47 = true := by kernel_rfl
/- paperchase/chaseref1.PeopleFault -/
def ir_chaseref1_PeopleFault_L0 : IC :=
  (.seq (.reg [⟨some 11, .bin .lss (.t 10) (.t 9), none⟩])
    (.seq (.cond (.t 11) .skip (.exit 0))
    (.seq (.block 1 (.seq (.reg [⟨some 12, .mov (.t 10), none⟩,
      ⟨some 13, .ixa 3 (.t 8) (.t 10), none⟩,
      ⟨some 14, .ld 3 true (.t 13), none⟩,
      ⟨some 4, .alc 36 [.str [], .int .i64 0, .int .i64 0], none⟩,
      ⟨some 3, .mov (.t 12), none⟩,
      ⟨none, .st 3 (.t 4) (.t 14), none⟩])
    (.block 2 (.seq (.reg [⟨some 16, .fla 0 (.t 4), none⟩,
      ⟨some 17, .ld 1 false (.t 16), none⟩,
      ⟨some 18, .call 17 [.t 17], none⟩,
      ⟨some 19, .not (.t 18), none⟩,
      ⟨some 15, .mov (.t 19), none⟩])
    (.cond (.t 15) (.seq (.reg [⟨some 2, .mov (.c (.int .i64 3)), none⟩])
    .ret) (.seq (.drg [⟨some 21, .mov (.t 3), none⟩,
      ⟨some 22, .bin .gtr (.t 21) (.c (.int .i64 0)), none⟩,
      ⟨some 23, .mov (.t 22), none⟩,
      ⟨some 24, .fla 0 (.t 4), (some (23, true))⟩,
      ⟨some 25, .ld 1 false (.t 24), (some (23, true))⟩,
      ⟨some 26, .mov (.t 0), (some (23, true))⟩,
      ⟨some 27, .mov (.t 3), (some (23, true))⟩,
      ⟨some 28, .bin .sub (.t 27) (.c (.int .i64 1)), (some (23, true))⟩,
      ⟨some 29, .ixa 3 (.t 26) (.t 28), (some (23, true))⟩,
      ⟨some 30, .fla 0 (.t 29), (some (23, true))⟩,
      ⟨some 31, .ld 1 false (.t 30), (some (23, true))⟩,
      ⟨some 32, .bin .leq (.t 25) (.t 31), (some (23, true))⟩,
      ⟨some 33, .pick (.t 23) (.t 32) (.c (.bool false)), none⟩,
      ⟨some 20, .mov (.t 33), none⟩])
    (.cond (.t 20) (.seq (.reg [⟨some 2, .mov (.c (.int .i64 7)), none⟩])
    .ret) (.seq (.reg [⟨some 35, .fla 1 (.t 4), none⟩,
      ⟨some 36, .ld 1 false (.t 35), none⟩,
      ⟨some 37, .bin .lss (.t 36) (.c (.int .i64 1)), none⟩,
      ⟨some 38, .mov (.t 37), none⟩,
      ⟨some 39, .fla 1 (.t 4), (some (38, false))⟩,
      ⟨some 40, .ld 1 false (.t 39), (some (38, false))⟩,
      ⟨some 41, .bin .gtr (.t 40) (.c (.int .i64 3)), (some (38, false))⟩,
      ⟨some 42, .pick (.t 38) (.c (.bool true)) (.t 41), none⟩,
      ⟨some 43, .mov (.t 42), none⟩,
      ⟨some 44, .fla 2 (.t 4), (some (43, false))⟩,
      ⟨some 45, .ld 1 false (.t 44), (some (43, false))⟩,
      ⟨some 46, .bin .lss (.t 45) (.c (.int .i64 1)), (some (43, false))⟩,
      ⟨some 47, .pick (.t 43) (.c (.bool true)) (.t 46), none⟩,
      ⟨some 48, .mov (.t 47), none⟩,
      ⟨some 49, .fla 2 (.t 4), (some (48, false))⟩,
      ⟨some 50, .ld 1 false (.t 49), (some (48, false))⟩,
      ⟨some 51, .bin .gtr (.t 50) (.c (.int .i64 4)), (some (48, false))⟩,
      ⟨some 52, .pick (.t 48) (.c (.bool true)) (.t 51), none⟩,
      ⟨some 34, .mov (.t 52), none⟩])
    (.cond (.t 34) (.seq (.reg [⟨some 2, .mov (.c (.int .i64 4)), none⟩])
    .ret) .skip)))))))))
    (.reg [⟨some 53, .bin .add (.t 10) (.c (.int .i64 1)), none⟩,
      ⟨some 10, .mov (.t 53), none⟩]))))
def ir_chaseref1_PeopleFault : IC :=
  (.seq (.reg [⟨some 2, .mov (.c (.int .i64 0)), none⟩])
    (.seq (.seq (.reg [⟨some 5, .mov (.t 0), none⟩,
      ⟨some 6, .len (.t 5), none⟩,
      ⟨some 7, .bin .gtr (.t 6) (.c (.int .i64 200)), none⟩])
    (.cond (.t 7) (.seq (.reg [⟨some 2, .mov (.c (.int .i64 2)), none⟩])
    .ret) .skip))
    (.seq (.seq (.reg [⟨some 8, .mov (.t 0), none⟩,
      ⟨some 9, .len (.t 8), none⟩,
      ⟨some 10, .mov (.c (.int .i64 0)), none⟩])
    (.block 0 (.loop ir_chaseref1_PeopleFault_L0)))
    (.seq (.reg [⟨some 2, .mov (.c (.int .i64 0)), none⟩])
    .ret))))
def rs_chaseref1_PeopleFault : List IRes := [.t 2]
theorem ck_chaseref1_PeopleFault : chkF Tryz.prog Tryz.f12 ir_chaseref1_PeopleFault rs_chaseref1_PeopleFault 54 = true := by kernel_rfl
/- paperchase/privilege.domainsError -/
def ir_privilege_domainsError_L0 : IC :=
  (.seq (.reg [⟨some 14, .bin .lss (.t 13) (.t 12), none⟩])
    (.seq (.cond (.t 14) .skip (.exit 0))
    (.seq (.block 1 (.seq (.reg [⟨some 15, .ixa 3 (.t 11) (.t 13), none⟩,
      ⟨some 16, .ld 3 true (.t 15), none⟩,
      ⟨some 5, .alc 96 [.str [], .int .i64 0, .int .i64 0], none⟩,
      ⟨none, .st 3 (.t 5) (.t 16), none⟩])
    (.seq (.seq (.drg [⟨some 17, .fla 0 (.t 5), none⟩,
      ⟨some 18, .ld 1 false (.t 17), none⟩,
      ⟨some 19, .bin .add (.c (.str [120, 64])) (.t 18), none⟩,
      ⟨some 20, .pcall 0 77 [.t 19], none⟩,
      ⟨some 21, .mov (.t 3), none⟩,
      ⟨some 22, .fla 0 (.t 5), none⟩,
      ⟨some 23, .ld 1 false (.t 22), none⟩,
      ⟨some 24, .mpl false (.bool false) (.t 21) (.t 23), none⟩,
      ⟨some 25, .pcall 1 74 [.t 24, .c (.int .i64 6)], none⟩,
      ⟨some 26, .fla 1 (.t 5), none⟩,
      ⟨some 27, .ld 1 false (.t 26), none⟩,
      ⟨some 28, .fla 2 (.t 5), none⟩,
      ⟨some 29, .ld 1 false (.t 28), none⟩,
      ⟨some 30, .pcall 2 76 [.t 27, .t 29], none⟩,
      ⟨some 31, .bsl 1 [.t 20, .t 25, .t 30], none⟩,
      ⟨some 32, .pcall 3 73 [.t 31], none⟩,
      ⟨some 6, .mov (.t 32), none⟩])
    (.seq (.reg [⟨some 33, .mov (.t 6), none⟩,
      ⟨some 34, .bin .neq (.t 33) (.c (.int .i64 0)), none⟩])
    (.cond (.t 34) (.seq (.reg [⟨some 35, .mov (.t 6), none⟩,
      ⟨some 2, .mov (.t 35), none⟩])
    .ret) .skip)))
    (.reg [⟨some 36, .mov (.t 3), none⟩,
      ⟨some 37, .fla 0 (.t 5), none⟩,
      ⟨some 38, .ld 1 false (.t 37), none⟩,
      ⟨none, .mpu (.t 36) (.t 38) (.c (.bool true)), none⟩]))))
    (.reg [⟨some 39, .bin .add (.t 13) (.c (.int .i64 1)), none⟩,
      ⟨some 13, .mov (.t 39), none⟩]))))
def ir_privilege_domainsError : IC :=
  (.seq (.reg [⟨some 2, .mov (.c (.int .i64 0)), none⟩])
    (.seq (.seq (.reg [⟨some 7, .mov (.t 0), none⟩,
      ⟨some 8, .len (.t 7), none⟩,
      ⟨some 9, .bin .gtr (.t 8) (.c (.int .i64 100)), none⟩])
    (.cond (.t 9) (.seq (.reg [⟨some 2, .mov (.c (.int .i64 2)), none⟩])
    .ret) .skip))
    (.seq (.reg [⟨some 10, .mkm 9 4, none⟩,
      ⟨some 3, .mov (.t 10), none⟩])
    (.seq (.seq (.reg [⟨some 11, .mov (.t 0), none⟩,
      ⟨some 12, .len (.t 11), none⟩,
      ⟨some 13, .mov (.c (.int .i64 0)), none⟩])
    (.block 0 (.loop ir_privilege_domainsError_L0)))
    (.seq (.reg [⟨some 2, .mov (.c (.int .i64 0)), none⟩])
    .ret)))))
def rs_privilege_domainsError : List IRes := [.t 2]
theorem ck_privilege_domainsError : chkF Tryz.prog Tryz.f79 ir_privilege_domainsError rs_privilege_domainsError 40 = true := by kernel_rfl
/- paperchase/chaseref1.DomainsFault -/
def ir_chaseref1_DomainsFault_L0 : IC :=
  (.seq (.reg [⟨some 11, .bin .lss (.t 10) (.t 9), none⟩])
    (.seq (.cond (.t 11) .skip (.exit 0))
    (.seq (.block 1 (.seq (.reg [⟨some 12, .mov (.t 10), none⟩,
      ⟨some 13, .ixa 3 (.t 8) (.t 10), none⟩,
      ⟨some 14, .ld 3 true (.t 13), none⟩,
      ⟨some 4, .alc 96 [.str [], .int .i64 0, .int .i64 0], none⟩,
      ⟨some 3, .mov (.t 12), none⟩,
      ⟨none, .st 3 (.t 4) (.t 14), none⟩])
    (.block 2 (.seq (.reg [⟨some 16, .fla 0 (.t 4), none⟩,
      ⟨some 17, .ld 1 false (.t 16), none⟩,
      ⟨some 18, .bin .add (.c (.str [120, 64])) (.t 17), none⟩,
      ⟨some 19, .call 17 [.t 18], none⟩,
      ⟨some 20, .not (.t 19), none⟩,
      ⟨some 15, .mov (.t 20), none⟩])
    (.cond (.t 15) (.seq (.reg [⟨some 2, .mov (.c (.int .i64 3)), none⟩])
    .ret) (.seq (.reg [⟨some 22, .mov (.t 0), none⟩,
      ⟨some 23, .mov (.t 3), none⟩,
      ⟨some 24, .vsl 3 (.t 22) none (some (.t 23)), none⟩,
      ⟨some 25, .mkf 82 [.t 4], none⟩,
      ⟨some 26, .call 81 [.t 24, .t 25], none⟩,
      ⟨some 21, .mov (.t 26), none⟩])
    (.cond (.t 21) (.seq (.reg [⟨some 2, .mov (.c (.int .i64 6)), none⟩])
    .ret) (.seq (.reg [⟨some 28, .fla 1 (.t 4), none⟩,
      ⟨some 29, .ld 1 false (.t 28), none⟩,
      ⟨some 30, .bin .lss (.t 29) (.c (.int .i64 1)), none⟩,
      ⟨some 31, .mov (.t 30), none⟩,
      ⟨some 32, .fla 1 (.t 4), (some (31, false))⟩,
      ⟨some 33, .ld 1 false (.t 32), (some (31, false))⟩,
      ⟨some 34, .bin .gtr (.t 33) (.c (.int .i64 3)), (some (31, false))⟩,
      ⟨some 35, .pick (.t 31) (.c (.bool true)) (.t 34), none⟩,
      ⟨some 36, .mov (.t 35), none⟩,
      ⟨some 37, .fla 2 (.t 4), (some (36, false))⟩,
      ⟨some 38, .ld 1 false (.t 37), (some (36, false))⟩,
      ⟨some 39, .bin .lss (.t 38) (.c (.int .i64 1)), (some (36, false))⟩,
      ⟨some 40, .pick (.t 36) (.c (.bool true)) (.t 39), none⟩,
      ⟨some 41, .mov (.t 40), none⟩,
      ⟨some 42, .fla 2 (.t 4), (some (41, false))⟩,
      ⟨some 43, .ld 1 false (.t 42), (some (41, false))⟩,
      ⟨some 44, .bin .gtr (.t 43) (.c (.int .i64 4)), (some (41, false))⟩,
      ⟨some 45, .pick (.t 41) (.c (.bool true)) (.t 44), none⟩,
      ⟨some 27, .mov (.t 45), none⟩])
    (.cond (.t 27) (.seq (.reg [⟨some 2, .mov (.c (.int .i64 4)), none⟩])
    .ret) .skip)))))))))
    (.reg [⟨some 46, .bin .add (.t 10) (.c (.int .i64 1)), none⟩,
      ⟨some 10, .mov (.t 46), none⟩]))))
def ir_chaseref1_DomainsFault : IC :=
  (.seq (.reg [⟨some 2, .mov (.c (.int .i64 0)), none⟩])
    (.seq (.seq (.reg [⟨some 5, .mov (.t 0), none⟩,
      ⟨some 6, .len (.t 5), none⟩,
      ⟨some 7, .bin .gtr (.t 6) (.c (.int .i64 100)), none⟩])
    (.cond (.t 7) (.seq (.reg [⟨some 2, .mov (.c (.int .i64 2)), none⟩])
    .ret) .skip))
    (.seq (.seq (.reg [⟨some 8, .mov (.t 0), none⟩,
      ⟨some 9, .len (.t 8), none⟩,
      ⟨some 10, .mov (.c (.int .i64 0)), none⟩])
    (.block 0 (.loop ir_chaseref1_DomainsFault_L0)))
    (.seq (.reg [⟨some 2, .mov (.c (.int .i64 0)), none⟩])
    .ret))))
def rs_chaseref1_DomainsFault : List IRes := [.t 2]
theorem ck_chaseref1_DomainsFault : chkF Tryz.prog Tryz.f16 ir_chaseref1_DomainsFault rs_chaseref1_DomainsFault 47 = true := by kernel_rfl
/- paperchase/chaseref1.DomainsFault$1 -/
def ir_chaseref1_DomainsFault_1 : IC :=
  (.seq (.reg [⟨some 2, .box 96 (.t 0), none⟩,
      ⟨some 3, .mov (.c (.bool false)), none⟩])
    (.seq (.reg [⟨some 4, .fla 0 (.t 2), none⟩,
      ⟨some 5, .ld 1 false (.t 4), none⟩,
      ⟨some 6, .fla 0 (.t 1), none⟩,
      ⟨some 7, .ld 1 false (.t 6), none⟩,
      ⟨some 8, .bin .eql (.t 5) (.t 7), none⟩,
      ⟨some 3, .mov (.t 8), none⟩])
    .ret))
def rs_chaseref1_DomainsFault_1 : List IRes := [.t 3]
theorem ck_chaseref1_DomainsFault_1 : chkF Tryz.prog Tryz.f82 ir_chaseref1_DomainsFault_1 rs_chaseref1_DomainsFault_1 9 = true := by kernel_rfl
/- slices.IndexFunc[[]paperchase/api.Domain,paperchase/api.Domain] -/
def ir_slices_IndexFunc_api_Domain_api_Domain_L0 : IC :=
  (.seq (.reg [⟨some 9, .bin .lss (.t 8) (.t 7), none⟩])
    (.seq (.cond (.t 9) .skip (.exit 0))
    (.seq (.block 1 (.seq (.reg [⟨some 10, .mov (.t 8), none⟩,
      ⟨some 5, .mov (.t 10), none⟩])
    (.seq (.reg [⟨some 11, .mov (.t 1), none⟩,
      ⟨some 12, .mov (.t 0), none⟩,
      ⟨some 13, .mov (.t 5), none⟩,
      ⟨some 14, .ixa 3 (.t 12) (.t 13), none⟩,
      ⟨some 15, .ld 3 true (.t 14), none⟩,
      ⟨some 16, .callv (.t 11) [.t 15], none⟩])
    (.cond (.t 16) (.seq (.reg [⟨some 17, .mov (.t 5), none⟩,
      ⟨some 4, .mov (.t 17), none⟩])
    .ret) .skip))))
    (.reg [⟨some 18, .bin .add (.t 8) (.c (.int .i64 1)), none⟩,
      ⟨some 8, .mov (.t 18), none⟩]))))
def ir_slices_IndexFunc_api_Domain_api_Domain : IC :=
  (.seq (.reg [⟨some 4, .mov (.c (.int .i64 0)), none⟩])
    (.seq (.seq (.reg [⟨some 6, .mov (.t 0), none⟩,
      ⟨some 7, .len (.t 6), none⟩,
      ⟨some 8, .mov (.c (.int .i64 0)), none⟩])
    (.block 0 (.loop ir_slices_IndexFunc_api_Domain_api_Domain_L0)))
    (.seq (.reg [⟨some 4, .mov (.c (.int .i64 (-1))), none⟩])
    .ret)))
def rs_slices_IndexFunc_api_Domain_api_Domain : List IRes := [.t 4]
theorem ck_slices_IndexFunc_api_Domain_api_Domain : chkF Tryz.prog Tryz.f157 ir_slices_IndexFunc_api_Domain_api_Domain rs_slices_IndexFunc_api_Domain_api_Domain 19 = true := by kernel_rfl
/- slices.ContainsFunc[[]paperchase/api.Domain,paperchase/api.Domain] -/
def ir_slices_ContainsFunc_api_Domain_api_Domain : IC :=
  (.seq (.reg [⟨some 4, .mov (.c (.bool false)), none⟩])
    (.seq (.reg [⟨some 5, .mov (.t 0), none⟩,
      ⟨some 6, .mov (.t 1), none⟩,
      ⟨some 7, .call 157 [.t 5, .t 6], none⟩,
      ⟨some 8, .bin .geq (.t 7) (.c (.int .i64 0)), none⟩,
      ⟨some 4, .mov (.t 8), none⟩])
    .ret))
def rs_slices_ContainsFunc_api_Domain_api_Domain : List IRes := [.t 4]
theorem ck_slices_ContainsFunc_api_Domain_api_Domain : chkF Tryz.prog Tryz.f81 ir_slices_ContainsFunc_api_Domain_api_Domain rs_slices_ContainsFunc_api_Domain_api_Domain 9 = true := by kernel_rfl


def parE (l : List Par) : List (List PV) := l.map par
theorem parE_len (l : List Par) : (parE l).length = l.length := by simp [parE]
theorem parE_get {l : List Par} {k : Nat} {x : Par} (h : l[k]? = some x) : (parE l).getD k [] = [.str x.1, int x.2.1, int x.2.2] := getD_map h
def p00 : Par := ([], 0, 0)
def kindB (p : Par) : Bool := inE p.2.1 1 3 && inE p.2.2 1 4
def kindE (p : Par) : Int := whenE (!kindB p) 4
section
variable {E : Envt}
theorem kindError_ok (a b : Int) : PCall Tryz.prog E 76 [int a, int b] (· = int (kindE ([], a, b))) := by
  refine pcallF mixed Tryz.func76 ck_privilege_kindError ?_
  simp only [a0, l0, OS.ao, List.map_cons, List.map_nil, List.length_cons, List.length_nil, List.cons_append, List.nil_append, Nat.reduceSub, Nat.reduceAdd, List.replicate_succ, List.replicate_zero, ir_privilege_kindError, rs_privilege_kindError, ZZ, FnG_some, IsnK_some, Za, Zb, Zc, Zd, Ze, Zf, Zg, Zh, rd, AV.un, AV.unA, AV.ad, Zi, Zj, Zk, Zl, Zm, Zn, Zo, Zp, Zq, Zr, Zs, Zt, Zu, Zv, Zw, Zx, Zy, Zz, Zaa, Zab, Zac, Zad, Zae, Zaf, Zag, Zah, Zai, Zaj, Zak, Zal, Zam, Zan, wk1, wk, Zao, Zap, Zaq, Zar, Zas, Zat, Zau, Zav, AV.kill, AO.kill, AV.thaw, AO.thaw, Zaw, Zax, Zay, Zaz, Zba, Zbb, Zbc, Zbd, Zbe, ite_true, ite_false, reduceCtorEq, Nat.reduceAdd, Nat.reduceMul, Nat.reduceLeDiff, Nat.reduceLT, Nat.reduceEqDiff, forall_const]
  refine use1 (In_ok _ _ _) rfl (.inl rfl) ?_
  simp only [ZZ, FnG_some, IsnK_some, Za, Zb, Zc, Zd, Ze, Zf, Zg, Zh, rd, AV.un, AV.unA, AV.ad, Zi, Zj, Zk, Zl, Zm, Zn, Zo, Zp, Zq, Zr, Zs, Zt, Zu, Zv, Zw, Zx, Zy, Zz, Zaa, Zab, Zac, Zad, Zae, Zaf, Zag, Zah, Zai, Zaj, Zak, Zal, Zam, Zan, wk1, wk, Zao, Zap, Zaq, Zar, Zas, Zat, Zau, Zav, AV.kill, AO.kill, AV.thaw, AO.thaw, Zaw, Zax, Zay, Zaz, Zba, Zbb, Zbc, Zbd, Zbe, ite_true, ite_false, reduceCtorEq, Nat.reduceAdd, Nat.reduceMul, Nat.reduceLeDiff, Nat.reduceLT, Nat.reduceEqDiff, forall_const]
  refine useG (fun _ => In_ok _ _ _) rfl (.inl rfl) ?_
  simp only [ZZ, FnG_some, IsnK_some, Za, Zb, Zc, Zd, Ze, Zf, Zg, Zh, rd, AV.un, AV.unA, AV.ad, Zi, Zj, Zk, Zl, Zm, Zn, Zo, Zp, Zq, Zr, Zs, Zt, Zu, Zv, Zw, Zx, Zy, Zz, Zaa, Zab, Zac, Zad, Zae, Zaf, Zag, Zah, Zai, Zaj, Zak, Zal, Zam, Zan, wk1, wk, Zao, Zap, Zaq, Zar, Zas, Zat, Zau, Zav, AV.kill, AO.kill, AV.thaw, AO.thaw, Zaw, Zax, Zay, Zaz, Zba, Zbb, Zbc, Zbd, Zbe, ite_true, ite_false, reduceCtorEq, Nat.reduceAdd, Nat.reduceMul, Nat.reduceLeDiff, Nat.reduceLT, Nat.reduceEqDiff, forall_const]
  ((repeat' (with_reducible apply And.intro)) <;> try ((first | first | assumption | trivial | exact (fun hq => by rw [hq]; rfl) | exact i64_of (by omega) (by omega) | omega | (simp; done) | (simp; omega) | (intro hsc; have hs0 := hsc; (try have hsd := of_decide_eq_true hsc); (try simp only [Bool.not_eq_true', Bool.or_eq_false_iff, Bool.and_eq_true, Bool.or_eq_true, decide_eq_true_eq, decide_eq_false_iff_not] at hsc); (repeat' (with_reducible apply And.intro)) <;> (first | assumption | trivial | exact (fun hq => by rw [hq]; rfl) | exact i64_of (by omega) (by omega) | omega | (simp; done) | (simp; omega) | (intro hse; simp [hse, hs0]; done) | (intro hse; simp only [hse, hs0, Bool.true_and, Bool.and_true, Bool.not_false, Bool.not_true, Bool.and_self]; done))))))
  refine use1 (When_ok _ _) rfl (.inl rfl) ?_
  simp only [ZZ, FnG_some, IsnK_some, Za, Zb, Zc, Zd, Ze, Zf, Zg, Zh, rd, AV.un, AV.unA, AV.ad, Zi, Zj, Zk, Zl, Zm, Zn, Zo, Zp, Zq, Zr, Zs, Zt, Zu, Zv, Zw, Zx, Zy, Zz, Zaa, Zab, Zac, Zad, Zae, Zaf, Zag, Zah, Zai, Zaj, Zak, Zal, Zam, Zan, wk1, wk, Zao, Zap, Zaq, Zar, Zas, Zat, Zau, Zav, AV.kill, AO.kill, AV.thaw, AO.thaw, Zaw, Zax, Zay, Zaz, Zba, Zbb, Zbc, Zbd, Zbe, ite_true, ite_false, reduceCtorEq, Nat.reduceAdd, Nat.reduceMul, Nat.reduceLeDiff, Nat.reduceLT, Nat.reduceEqDiff, forall_const]
  unfold kindE kindB
  congr 2
  cases inE a 1 3 <;> cases inE b 1 4 <;> rfl
end
theorem mailError_ok (s : List UInt8) (hs : s.length ≤ 1000000000) : PCall Tryz.prog E0 77 [.str s] (· = int (whenE (!mailF s) 3)) := by
  refine pcallF mixed Tryz.func77 ck_privilege_mailError ?_
  simp only [a0, l0, OS.ao, List.map_cons, List.map_nil, List.length_cons, List.length_nil, List.cons_append, List.nil_append, Nat.reduceSub, Nat.reduceAdd, List.replicate_succ, List.replicate_zero, ir_privilege_mailError, rs_privilege_mailError, ZZ, FnG_some, IsnK_some, Za, Zb, Zc, Zd, Ze, Zf, Zg, Zh, rd, AV.un, AV.unA, AV.ad, Zi, Zj, Zk, Zl, Zm, Zn, Zo, Zp, Zq, Zr, Zs, Zt, Zu, Zv, Zw, Zx, Zy, Zz, Zaa, Zab, Zac, Zad, Zae, Zaf, Zag, Zah, Zai, Zaj, Zak, Zal, Zam, Zan, wk1, wk, Zao, Zap, Zaq, Zar, Zas, Zat, Zau, Zav, AV.kill, AO.kill, AV.thaw, AO.thaw, Zaw, Zax, Zay, Zaz, Zba, Zbb, Zbc, Zbd, Zbe, ite_true, ite_false, reduceCtorEq, Nat.reduceAdd, Nat.reduceMul, Nat.reduceLeDiff, Nat.reduceLT, Nat.reduceEqDiff, forall_const]
  refine use1 (IsMail_ok s hs) rfl (.inl rfl) ?_
  simp only [ZZ, FnG_some, IsnK_some, Za, Zb, Zc, Zd, Ze, Zf, Zg, Zh, rd, AV.un, AV.unA, AV.ad, Zi, Zj, Zk, Zl, Zm, Zn, Zo, Zp, Zq, Zr, Zs, Zt, Zu, Zv, Zw, Zx, Zy, Zz, Zaa, Zab, Zac, Zad, Zae, Zaf, Zag, Zah, Zai, Zaj, Zak, Zal, Zam, Zan, wk1, wk, Zao, Zap, Zaq, Zar, Zas, Zat, Zau, Zav, AV.kill, AO.kill, AV.thaw, AO.thaw, Zaw, Zax, Zay, Zaz, Zba, Zbb, Zbc, Zbd, Zbe, ite_true, ite_false, reduceCtorEq, Nat.reduceAdd, Nat.reduceMul, Nat.reduceLeDiff, Nat.reduceLT, Nat.reduceEqDiff, forall_const]
  refine use1 (When_ok _ _) rfl (.inl rfl) ?_
  simp only [ZZ, FnG_some, IsnK_some, Za, Zb, Zc, Zd, Ze, Zf, Zg, Zh, rd, AV.un, AV.unA, AV.ad, Zi, Zj, Zk, Zl, Zm, Zn, Zo, Zp, Zq, Zr, Zs, Zt, Zu, Zv, Zw, Zx, Zy, Zz, Zaa, Zab, Zac, Zad, Zae, Zaf, Zag, Zah, Zai, Zaj, Zak, Zal, Zam, Zan, wk1, wk, Zao, Zap, Zaq, Zar, Zas, Zat, Zau, Zav, AV.kill, AO.kill, AV.thaw, AO.thaw, Zaw, Zax, Zay, Zaz, Zba, Zbb, Zbc, Zbd, Zbe, ite_true, ite_false, reduceCtorEq, Nat.reduceAdd, Nat.reduceMul, Nat.reduceLeDiff, Nat.reduceLT, Nat.reduceEqDiff, forall_const]
def ordB (l : List Par) (k : Nat) : Bool := decide (0 < k) && leS (l.getD k p00).1 (l.getD (k - 1) p00).1
def peopleE (l : List Par) (k : Nat) : Int := firstE [whenE (!mailF (l.getD k p00).1) 3, whenE (ordB l k) 7, kindE (l.getD k p00)]
def peopleF (l : List Par) : Int := if 200 < l.length then 2 else firstE ((List.range l.length).map (peopleE l))
theorem tabE_get {n : Nat} (f : Nat → Int) {k : Nat} (h : k < n) : ((List.range n).map f)[k]? = some (f k) := by
  rw [List.getElem?_map, List.getElem?_range h]; rfl

theorem CheckPeople_ok (l : List Par) (hl : l.length ≤ 1000000) (hb : ∀ p ∈ l, p.1.length ≤ 1000000) : PCall Tryz.prog E0 11 [.sl 3 (parE l)] (· = int (peopleF l)) := by
  refine pcallF mixed Tryz.func11 ck_privilege_CheckPeople ?_
  simp only [a0, l0, OS.ao, List.map_cons, List.map_nil, List.length_cons, List.length_nil, List.cons_append, List.nil_append, Nat.reduceSub, Nat.reduceAdd, List.replicate_succ, List.replicate_zero, ir_privilege_CheckPeople, rs_privilege_CheckPeople, ZZ, FnG_some, IsnK_some, Za, Zb, Zc, Zd, Ze, Zf, Zg, Zh, rd, AV.un, AV.unA, AV.ad, Zi, Zj, Zk, Zl, Zm, Zn, Zo, Zp, Zq, Zr, Zs, Zt, Zu, Zv, Zw, Zx, Zy, Zz, Zaa, Zab, Zac, Zad, Zae, Zaf, Zag, Zah, Zai, Zaj, Zak, Zal, Zam, Zan, wk1, wk, Zao, Zap, Zaq, Zar, Zas, Zat, Zau, Zav, AV.kill, AO.kill, AV.thaw, AO.thaw, Zaw, Zax, Zay, Zaz, Zba, Zbb, Zbc, Zbd, Zbe, ite_true, ite_false, reduceCtorEq, Nat.reduceAdd, Nat.reduceMul, Nat.reduceLeDiff, Nat.reduceLT, Nat.reduceEqDiff, forall_const]
  simp only [ZZ, FnG_some, IsnK_some, Za, Zb, Zc, Zd, Ze, Zf, Zg, Zh, rd, AV.un, AV.unA, AV.ad, Zi, Zj, Zk, Zl, Zm, Zn, Zo, Zp, Zq, Zr, Zs, Zt, Zu, Zv, Zw, Zx, Zy, Zz, Zaa, Zab, Zac, Zad, Zae, Zaf, Zag, Zah, Zai, Zaj, Zak, Zal, Zam, Zan, wk1, wk, Zao, Zap, Zaq, Zar, Zas, Zat, Zau, Zav, AV.kill, AO.kill, AV.thaw, AO.thaw, Zaw, Zax, Zay, Zaz, Zba, Zbb, Zbc, Zbd, Zbe, ite_true, ite_false, reduceCtorEq, Nat.reduceAdd, Nat.reduceMul, Nat.reduceLeDiff, Nat.reduceLT, Nat.reduceEqDiff, forall_const, parE_len]
  refine br ?_ ?_
  · intro h
    simp only [ZZ, FnG_some, IsnK_some, Za, Zb, Zc, Zd, Ze, Zf, Zg, Zh, rd, AV.un, AV.unA, AV.ad, Zi, Zj, Zk, Zl, Zm, Zn, Zo, Zp, Zq, Zr, Zs, Zt, Zu, Zv, Zw, Zx, Zy, Zz, Zaa, Zab, Zac, Zad, Zae, Zaf, Zag, Zah, Zai, Zaj, Zak, Zal, Zam, Zan, wk1, wk, Zao, Zap, Zaq, Zar, Zas, Zat, Zau, Zav, AV.kill, AO.kill, AV.thaw, AO.thaw, Zaw, Zax, Zay, Zaz, Zba, Zbb, Zbc, Zbd, Zbe, ite_true, ite_false, reduceCtorEq, Nat.reduceAdd, Nat.reduceMul, Nat.reduceLeDiff, Nat.reduceLT, Nat.reduceEqDiff, forall_const]
    have := of_decide_eq_true h
    rw [peopleF, if_pos (by omega)]
  intro h
  have hle : ¬ 200 < l.length := by have := of_decide_eq_false h; omega
  simp only [ZZ, FnG_some, IsnK_some, Za, Zb, Zc, Zd, Ze, Zf, Zg, Zh, rd, AV.un, AV.unA, AV.ad, Zi, Zj, Zk, Zl, Zm, Zn, Zo, Zp, Zq, Zr, Zs, Zt, Zu, Zv, Zw, Zx, Zy, Zz, Zaa, Zab, Zac, Zad, Zae, Zaf, Zag, Zah, Zai, Zaj, Zak, Zal, Zam, Zan, wk1, wk, Zao, Zap, Zaq, Zar, Zas, Zat, Zau, Zav, AV.kill, AO.kill, AV.thaw, AO.thaw, Zaw, Zax, Zay, Zaz, Zba, Zbb, Zbc, Zbd, Zbe, ite_true, ite_false, reduceCtorEq, Nat.reduceAdd, Nat.reduceMul, Nat.reduceLeDiff, Nat.reduceLT, Nat.reduceEqDiff, forall_const]
  rw [show peopleF l = firstE ((List.range l.length).map (peopleE l)) from by rw [peopleF, if_neg hle]]
  have hget := fun {k : Nat} (h : k < l.length) => firstE_drop _ k _ (tabE_get (peopleE l) h)
  generalize hG : (List.range l.length).map (peopleE l) = G at *
  have hGl : G.length = l.length := by rw [← hG]; simp
  refine loop_intro (fun n fr L => ∃ (k : Nat), k ≤ l.length ∧ n = l.length - k ∧ (firstE G = firstE (G.drop k)) ∧ fr = [.p (.sl 3 (parE l)), .any, .any, .any, .any, .any, .any, .any, .any, .p (.sl 3 (parE l)), .p (int (l.length : Nat)), .p (int (k : Nat)), .any, .any, .any, .any, .any, .any, .any, .any, .any, .any, .any, .any, .any, .any, .any, .any, .any, .any, .any, .any, .any, .any, .any, .any, .any, .any, .any, .any, .any, .any, .any, .any, .any, .any, .any] ∧ L = []) (l.length) [.p (.sl 3 (parE l)), .any, .any, .any, .any, .any, .any, .any, .any, .p (.sl 3 (parE l)), .p (int (l.length : Nat)), .p (int (0 : Nat)), .any, .any, .any, .any, .any, .any, .any, .any, .any, .any, .any, .any, .any, .any, .any, .any, .any, .any, .any, .any, .any, .any, .any, .any, .any, .any, .any, .any, .any, .any, .any, .any, .any, .any, .any] [] (by simp only [ZZ, FnG_some, IsnK_some, Za, Zb, Zc, Zd, Ze, Zf, Zg, Zh, rd, AV.un, AV.unA, AV.ad, Zi, Zj, Zk, Zl, Zm, Zn, Zo, Zp, Zq, Zr, Zs, Zt, Zu, Zv, Zw, Zx, Zy, Zz, Zaa, Zab, Zac, Zad, Zae, Zaf, Zag, Zah, Zai, Zaj, Zak, Zal, Zam, Zan, wk1, wk, Zao, Zap, Zaq, Zar, Zas, Zat, Zau, Zav, AV.kill, AO.kill, AV.thaw, AO.thaw, Zaw, Zax, Zay, Zaz, Zba, Zbb, Zbc, Zbd, Zbe, ite_true, ite_false, reduceCtorEq, Nat.reduceAdd, Nat.reduceMul, Nat.reduceLeDiff, Nat.reduceLT, Nat.reduceEqDiff, forall_const, parE_len]; try trivial) (by (simp only [ZZ, FnG_some, IsnK_some, Za, Zb, Zc, Zd, Ze, Zf, Zg, Zh, rd, AV.un, AV.unA, AV.ad, Zi, Zj, Zk, Zl, Zm, Zn, Zo, Zp, Zq, Zr, Zs, Zt, Zu, Zv, Zw, Zx, Zy, Zz, Zaa, Zab, Zac, Zad, Zae, Zaf, Zag, Zah, Zai, Zaj, Zak, Zal, Zam, Zan, wk1, wk, Zao, Zap, Zaq, Zar, Zas, Zat, Zau, Zav, AV.kill, AO.kill, AV.thaw, AO.thaw, Zaw, Zax, Zay, Zaz, Zba, Zbb, Zbc, Zbd, Zbe, ite_true, ite_false, reduceCtorEq, Nat.reduceAdd, Nat.reduceMul, Nat.reduceLeDiff, Nat.reduceLT, Nat.reduceEqDiff, forall_const]; try trivial)) ⟨0, by omega, by omega, by simp, rfl, rfl⟩ ?_
  rintro n fr L ⟨k, hk, rfl, hf, rfl, rfl⟩
  simp only [ir_privilege_CheckPeople_L0, ZZ, FnG_some, IsnK_some, Za, Zb, Zc, Zd, Ze, Zf, Zg, Zh, rd, AV.un, AV.unA, AV.ad, Zi, Zj, Zk, Zl, Zm, Zn, Zo, Zp, Zq, Zr, Zs, Zt, Zu, Zv, Zw, Zx, Zy, Zz, Zaa, Zab, Zac, Zad, Zae, Zaf, Zag, Zah, Zai, Zaj, Zak, Zal, Zam, Zan, wk1, wk, Zao, Zap, Zaq, Zar, Zas, Zat, Zau, Zav, AV.kill, AO.kill, AV.thaw, AO.thaw, Zaw, Zax, Zay, Zaz, Zba, Zbb, Zbc, Zbd, Zbe, ite_true, ite_false, reduceCtorEq, Nat.reduceAdd, Nat.reduceMul, Nat.reduceLeDiff, Nat.reduceLT, Nat.reduceEqDiff, forall_const]
  refine br ?_ ?_
  · intro h
    have hlt : k < l.length := by have := of_decide_eq_true h; omega
    obtain ⟨x, hx⟩ : ∃ x, l[k]? = some x := ⟨_, List.getElem?_eq_getElem hlt⟩
    obtain ⟨y, hy⟩ : ∃ y, l[k - 1]? = some y := ⟨_, List.getElem?_eq_getElem (by omega)⟩
    have hg := parE_get hx
    have hg2 := parE_get hy
    have hxd : l.getD k p00 = x := by simp [List.getD, hx]
    have hyd : l.getD (k - 1) p00 = y := by simp [List.getD, hy]
    have hbx := hb x (List.mem_of_getElem? hx)
    have hd := hget hlt
    have hn1 : (max (k : Int) 1 - 1).toNat = k - 1 := by omega
    have he : firstE [whenE (!mailF x.1) 3, whenE (decide (0 < (k : Int)) && (bytesLess x.1 y.1 || decide (x.1 = y.1))) 7, kindE ([], x.2.1, x.2.2)] = peopleE l k := by
      rw [peopleE, ordB, hxd, hyd, leS]
      have : decide (0 < (k : Int)) = decide (0 < k) := by simp
      rw [this]
      rfl
    simp only [ZZ, FnG_some, IsnK_some, Za, Zb, Zc, Zd, Ze, Zf, Zg, Zh, rd, AV.un, AV.unA, AV.ad, Zi, Zj, Zk, Zl, Zm, Zn, Zo, Zp, Zq, Zr, Zs, Zt, Zu, Zv, Zw, Zx, Zy, Zz, Zaa, Zab, Zac, Zad, Zae, Zaf, Zag, Zah, Zai, Zaj, Zak, Zal, Zam, Zan, wk1, wk, Zao, Zap, Zaq, Zar, Zas, Zat, Zau, Zav, AV.kill, AO.kill, AV.thaw, AO.thaw, Zaw, Zax, Zay, Zaz, Zba, Zbb, Zbc, Zbd, Zbe, ite_true, ite_false, reduceCtorEq, Nat.reduceAdd, Nat.reduceMul, Nat.reduceLeDiff, Nat.reduceLT, Nat.reduceEqDiff, forall_const, hg, parE_len]
    ((repeat' (with_reducible apply And.intro)) <;> try ((first | first | assumption | trivial | exact (fun hq => by rw [hq]; rfl) | exact i64_of (by omega) (by omega) | omega | (simp; done) | (simp; omega) | (intro hsc; have hs0 := hsc; (try have hsd := of_decide_eq_true hsc); (try simp only [Bool.not_eq_true', Bool.or_eq_false_iff, Bool.and_eq_true, Bool.or_eq_true, decide_eq_true_eq, decide_eq_false_iff_not] at hsc); (repeat' (with_reducible apply And.intro)) <;> (first | assumption | trivial | exact (fun hq => by rw [hq]; rfl) | exact i64_of (by omega) (by omega) | omega | (simp; done) | (simp; omega) | (intro hse; simp [hse, hs0]; done) | (intro hse; simp only [hse, hs0, Bool.true_and, Bool.and_true, Bool.not_false, Bool.not_true, Bool.and_self]; done))))))
    refine drg5 (x1 := .bool (mailF x.1)) (x2 := int (whenE (!mailF x.1) 3)) (x3 := int (whenE (decide (0 < (k : Int)) && (bytesLess x.1 y.1 || decide (x.1 = y.1))) 7)) (x4 := int (kindE ([], x.2.1, x.2.2))) (x5 := int (peopleE l k)) ?_
    simp only [ZZ, FnG_some, IsnK_some, Za, Zb, Zc, Zd, Ze, Zf, Zg, Zh, rd, AV.un, AV.unA, AV.ad, Zi, Zj, Zk, Zl, Zm, Zn, Zo, Zp, Zq, Zr, Zs, Zt, Zu, Zv, Zw, Zx, Zy, Zz, Zaa, Zab, Zac, Zad, Zae, Zaf, Zag, Zah, Zai, Zaj, Zak, Zal, Zam, Zan, wk1, wk, Zao, Zap, Zaq, Zar, Zas, Zat, Zau, Zav, AV.kill, AO.kill, AV.thaw, AO.thaw, Zaw, Zax, Zay, Zaz, Zba, Zbb, Zbc, Zbd, Zbe, ite_true, ite_false, reduceCtorEq, Nat.reduceAdd, Nat.reduceMul, Nat.reduceLeDiff, Nat.reduceLT, Nat.reduceEqDiff, forall_const, hn1, hg2, parE_len]
    ((repeat' (with_reducible apply And.intro)) <;> try (first | exact usep (IsMail_ok x.1 (by omega)) rfl (.inl rfl) | exact usep (When_ok _ _) rfl (.inl rfl) | exact usep (kindError_ok _ _) rfl (.inl rfl) | (rw [← he]; exact usep (First_ok [_, _, _] (by simp)) rfl (.inl rfl)) | (first | first | assumption | trivial | exact (fun hq => by rw [hq]; rfl) | exact i64_of (by omega) (by omega) | omega | (simp; done) | (simp; omega) | (intro hsc; have hs0 := hsc; (try have hsd := of_decide_eq_true hsc); (try simp only [Bool.not_eq_true', Bool.or_eq_false_iff, Bool.and_eq_true, Bool.or_eq_true, decide_eq_true_eq, decide_eq_false_iff_not] at hsc); (repeat' (with_reducible apply And.intro)) <;> (first | assumption | trivial | exact (fun hq => by rw [hq]; rfl) | exact i64_of (by omega) (by omega) | omega | (simp; done) | (simp; omega) | (intro hse; simp [hse, hs0]; done) | (intro hse; simp only [hse, hs0, Bool.true_and, Bool.and_true, Bool.not_false, Bool.not_true, Bool.and_self]; done))))))
    refine br ?_ ?_
    · intro h7
      have : ¬ peopleE l k = 0 := by simpa using h7
      simp only [ZZ, FnG_some, IsnK_some, Za, Zb, Zc, Zd, Ze, Zf, Zg, Zh, rd, AV.un, AV.unA, AV.ad, Zi, Zj, Zk, Zl, Zm, Zn, Zo, Zp, Zq, Zr, Zs, Zt, Zu, Zv, Zw, Zx, Zy, Zz, Zaa, Zab, Zac, Zad, Zae, Zaf, Zag, Zah, Zai, Zaj, Zak, Zal, Zam, Zan, wk1, wk, Zao, Zap, Zaq, Zar, Zas, Zat, Zau, Zav, AV.kill, AO.kill, AV.thaw, AO.thaw, Zaw, Zax, Zay, Zaz, Zba, Zbb, Zbc, Zbd, Zbe, ite_true, ite_false, reduceCtorEq, Nat.reduceAdd, Nat.reduceMul, Nat.reduceLeDiff, Nat.reduceLT, Nat.reduceEqDiff, forall_const]
      rw [hf, hd, if_neg this]
    intro h7
    have : peopleE l k = 0 := by simpa using h7
    simp only [ZZ, FnG_some, IsnK_some, Za, Zb, Zc, Zd, Ze, Zf, Zg, Zh, rd, AV.un, AV.unA, AV.ad, Zi, Zj, Zk, Zl, Zm, Zn, Zo, Zp, Zq, Zr, Zs, Zt, Zu, Zv, Zw, Zx, Zy, Zz, Zaa, Zab, Zac, Zad, Zae, Zaf, Zag, Zah, Zai, Zaj, Zak, Zal, Zam, Zan, wk1, wk, Zao, Zap, Zaq, Zar, Zas, Zat, Zau, Zav, AV.kill, AO.kill, AV.thaw, AO.thaw, Zaw, Zax, Zay, Zaz, Zba, Zbb, Zbc, Zbd, Zbe, ite_true, ite_false, reduceCtorEq, Nat.reduceAdd, Nat.reduceMul, Nat.reduceLeDiff, Nat.reduceLT, Nat.reduceEqDiff, forall_const]
    refine ⟨i64_of (by omega) (by omega), ?_⟩
    refine end_round (l.length - (k + 1)) [.p (.sl 3 (parE l)), .any, .any, .any, .any, .any, .any, .any, .any, .p (.sl 3 (parE l)), .p (int (l.length : Nat)), .p (int ((k + 1) : Nat)), .any, .any, .any, .any, .any, .any, .any, .any, .any, .any, .any, .any, .any, .any, .any, .any, .any, .any, .any, .any, .any, .any, .any, .any, .any, .any, .any, .any, .any, .any, .any, .any, .any, .any, .any] [] (by omega) (by (simp only [ZZ, FnG_some, IsnK_some, Za, Zb, Zc, Zd, Ze, Zf, Zg, Zh, rd, AV.un, AV.unA, AV.ad, Zi, Zj, Zk, Zl, Zm, Zn, Zo, Zp, Zq, Zr, Zs, Zt, Zu, Zv, Zw, Zx, Zy, Zz, Zaa, Zab, Zac, Zad, Zae, Zaf, Zag, Zah, Zai, Zaj, Zak, Zal, Zam, Zan, wk1, wk, Zao, Zap, Zaq, Zar, Zas, Zat, Zau, Zav, AV.kill, AO.kill, AV.thaw, AO.thaw, Zaw, Zax, Zay, Zaz, Zba, Zbb, Zbc, Zbd, Zbe, ite_true, ite_false, reduceCtorEq, Nat.reduceAdd, Nat.reduceMul, Nat.reduceLeDiff, Nat.reduceLT, Nat.reduceEqDiff, forall_const]; try trivial)) (by (simp only [ZZ, FnG_some, IsnK_some, Za, Zb, Zc, Zd, Ze, Zf, Zg, Zh, rd, AV.un, AV.unA, AV.ad, Zi, Zj, Zk, Zl, Zm, Zn, Zo, Zp, Zq, Zr, Zs, Zt, Zu, Zv, Zw, Zx, Zy, Zz, Zaa, Zab, Zac, Zad, Zae, Zaf, Zag, Zah, Zai, Zaj, Zak, Zal, Zam, Zan, wk1, wk, Zao, Zap, Zaq, Zar, Zas, Zat, Zau, Zav, AV.kill, AO.kill, AV.thaw, AO.thaw, Zaw, Zax, Zay, Zaz, Zba, Zbb, Zbc, Zbd, Zbe, ite_true, ite_false, reduceCtorEq, Nat.reduceAdd, Nat.reduceMul, Nat.reduceLeDiff, Nat.reduceLT, Nat.reduceEqDiff, forall_const]; try trivial)) ⟨k + 1, by omega, rfl, by rw [hf, hd, if_pos this], rfl, rfl⟩
  · intro h
    have hge : l.length ≤ k := by have := of_decide_eq_false h; omega
    simp only [ZZ, FnG_some, IsnK_some, Za, Zb, Zc, Zd, Ze, Zf, Zg, Zh, rd, AV.un, AV.unA, AV.ad, Zi, Zj, Zk, Zl, Zm, Zn, Zo, Zp, Zq, Zr, Zs, Zt, Zu, Zv, Zw, Zx, Zy, Zz, Zaa, Zab, Zac, Zad, Zae, Zaf, Zag, Zah, Zai, Zaj, Zak, Zal, Zam, Zan, wk1, wk, Zao, Zap, Zaq, Zar, Zas, Zat, Zau, Zav, AV.kill, AO.kill, AV.thaw, AO.thaw, Zaw, Zax, Zay, Zaz, Zba, Zbb, Zbc, Zbd, Zbe, ite_true, ite_false, reduceCtorEq, Nat.reduceAdd, Nat.reduceMul, Nat.reduceLeDiff, Nat.reduceLT, Nat.reduceEqDiff, forall_const]
    rw [hf, List.drop_eq_nil_of_le (by omega)]
    rfl

theorem kind_if (a b : Int) : (((decide (a < 1) || decide (3 < a)) || decide (b < 1)) || decide (4 < b)) = !(inE a 1 3 && inE b 1 4) := by
  unfold inE
  by_cases h1 : a < 1 <;> by_cases h2 : 3 < a <;> by_cases h3 : b < 1 <;> by_cases h4 : 4 < b <;> simp [h1, h2, h3, h4] <;> omega
theorem PeopleFault_ok (l : List Par) (hl : l.length ≤ 1000000) (hb : ∀ p ∈ l, p.1.length ≤ 1000000) : PCall Tryz.prog E0 12 [.sl 3 (parE l)] (· = int (peopleF l)) := by
  refine pcallF mixed Tryz.func12 ck_chaseref1_PeopleFault ?_
  simp only [a0, l0, OS.ao, List.map_cons, List.map_nil, List.length_cons, List.length_nil, List.cons_append, List.nil_append, Nat.reduceSub, Nat.reduceAdd, List.replicate_succ, List.replicate_zero, ir_chaseref1_PeopleFault, rs_chaseref1_PeopleFault, ZZ, FnG_some, IsnK_some, Za, Zb, Zc, Zd, Ze, Zf, Zg, Zh, rd, AV.un, AV.unA, AV.ad, Zi, Zj, Zk, Zl, Zm, Zn, Zo, Zp, Zq, Zr, Zs, Zt, Zu, Zv, Zw, Zx, Zy, Zz, Zaa, Zab, Zac, Zad, Zae, Zaf, Zag, Zah, Zai, Zaj, Zak, Zal, Zam, Zan, wk1, wk, Zao, Zap, Zaq, Zar, Zas, Zat, Zau, Zav, AV.kill, AO.kill, AV.thaw, AO.thaw, Zaw, Zax, Zay, Zaz, Zba, Zbb, Zbc, Zbd, Zbe, ite_true, ite_false, reduceCtorEq, Nat.reduceAdd, Nat.reduceMul, Nat.reduceLeDiff, Nat.reduceLT, Nat.reduceEqDiff, forall_const]
  simp only [ZZ, FnG_some, IsnK_some, Za, Zb, Zc, Zd, Ze, Zf, Zg, Zh, rd, AV.un, AV.unA, AV.ad, Zi, Zj, Zk, Zl, Zm, Zn, Zo, Zp, Zq, Zr, Zs, Zt, Zu, Zv, Zw, Zx, Zy, Zz, Zaa, Zab, Zac, Zad, Zae, Zaf, Zag, Zah, Zai, Zaj, Zak, Zal, Zam, Zan, wk1, wk, Zao, Zap, Zaq, Zar, Zas, Zat, Zau, Zav, AV.kill, AO.kill, AV.thaw, AO.thaw, Zaw, Zax, Zay, Zaz, Zba, Zbb, Zbc, Zbd, Zbe, ite_true, ite_false, reduceCtorEq, Nat.reduceAdd, Nat.reduceMul, Nat.reduceLeDiff, Nat.reduceLT, Nat.reduceEqDiff, forall_const, parE_len]
  refine br ?_ ?_
  · intro h
    simp only [ZZ, FnG_some, IsnK_some, Za, Zb, Zc, Zd, Ze, Zf, Zg, Zh, rd, AV.un, AV.unA, AV.ad, Zi, Zj, Zk, Zl, Zm, Zn, Zo, Zp, Zq, Zr, Zs, Zt, Zu, Zv, Zw, Zx, Zy, Zz, Zaa, Zab, Zac, Zad, Zae, Zaf, Zag, Zah, Zai, Zaj, Zak, Zal, Zam, Zan, wk1, wk, Zao, Zap, Zaq, Zar, Zas, Zat, Zau, Zav, AV.kill, AO.kill, AV.thaw, AO.thaw, Zaw, Zax, Zay, Zaz, Zba, Zbb, Zbc, Zbd, Zbe, ite_true, ite_false, reduceCtorEq, Nat.reduceAdd, Nat.reduceMul, Nat.reduceLeDiff, Nat.reduceLT, Nat.reduceEqDiff, forall_const]
    have := of_decide_eq_true h
    rw [peopleF, if_pos (by omega)]
  intro h
  have hle : ¬ 200 < l.length := by have := of_decide_eq_false h; omega
  simp only [ZZ, FnG_some, IsnK_some, Za, Zb, Zc, Zd, Ze, Zf, Zg, Zh, rd, AV.un, AV.unA, AV.ad, Zi, Zj, Zk, Zl, Zm, Zn, Zo, Zp, Zq, Zr, Zs, Zt, Zu, Zv, Zw, Zx, Zy, Zz, Zaa, Zab, Zac, Zad, Zae, Zaf, Zag, Zah, Zai, Zaj, Zak, Zal, Zam, Zan, wk1, wk, Zao, Zap, Zaq, Zar, Zas, Zat, Zau, Zav, AV.kill, AO.kill, AV.thaw, AO.thaw, Zaw, Zax, Zay, Zaz, Zba, Zbb, Zbc, Zbd, Zbe, ite_true, ite_false, reduceCtorEq, Nat.reduceAdd, Nat.reduceMul, Nat.reduceLeDiff, Nat.reduceLT, Nat.reduceEqDiff, forall_const]
  rw [show peopleF l = firstE ((List.range l.length).map (peopleE l)) from by rw [peopleF, if_neg hle]]
  have hget := fun {k : Nat} (h : k < l.length) => firstE_drop _ k _ (tabE_get (peopleE l) h)
  generalize hG : (List.range l.length).map (peopleE l) = G at *
  have hGl : G.length = l.length := by rw [← hG]; simp
  refine loop_intro (fun n fr L => ∃ (k : Nat), k ≤ l.length ∧ n = l.length - k ∧ (firstE G = firstE (G.drop k)) ∧ fr = [.p (.sl 3 (parE l)), .any, .any, .any, .any, .any, .any, .any, .p (.sl 3 (parE l)), .p (int (l.length : Nat)), .p (int (k : Nat)), .any, .any, .any, .any, .any, .any, .any, .any, .any, .any, .any, .any, .any, .any, .any, .any, .any, .any, .any, .any, .any, .any, .any, .any, .any, .any, .any, .any, .any, .any, .any, .any, .any, .any, .any, .any, .any, .any, .any, .any, .any, .any, .any] ∧ L = []) (l.length) [.p (.sl 3 (parE l)), .any, .any, .any, .any, .any, .any, .any, .p (.sl 3 (parE l)), .p (int (l.length : Nat)), .p (int (0 : Nat)), .any, .any, .any, .any, .any, .any, .any, .any, .any, .any, .any, .any, .any, .any, .any, .any, .any, .any, .any, .any, .any, .any, .any, .any, .any, .any, .any, .any, .any, .any, .any, .any, .any, .any, .any, .any, .any, .any, .any, .any, .any, .any, .any] [] (by simp only [ZZ, FnG_some, IsnK_some, Za, Zb, Zc, Zd, Ze, Zf, Zg, Zh, rd, AV.un, AV.unA, AV.ad, Zi, Zj, Zk, Zl, Zm, Zn, Zo, Zp, Zq, Zr, Zs, Zt, Zu, Zv, Zw, Zx, Zy, Zz, Zaa, Zab, Zac, Zad, Zae, Zaf, Zag, Zah, Zai, Zaj, Zak, Zal, Zam, Zan, wk1, wk, Zao, Zap, Zaq, Zar, Zas, Zat, Zau, Zav, AV.kill, AO.kill, AV.thaw, AO.thaw, Zaw, Zax, Zay, Zaz, Zba, Zbb, Zbc, Zbd, Zbe, ite_true, ite_false, reduceCtorEq, Nat.reduceAdd, Nat.reduceMul, Nat.reduceLeDiff, Nat.reduceLT, Nat.reduceEqDiff, forall_const, parE_len]; try trivial) (by (simp only [ZZ, FnG_some, IsnK_some, Za, Zb, Zc, Zd, Ze, Zf, Zg, Zh, rd, AV.un, AV.unA, AV.ad, Zi, Zj, Zk, Zl, Zm, Zn, Zo, Zp, Zq, Zr, Zs, Zt, Zu, Zv, Zw, Zx, Zy, Zz, Zaa, Zab, Zac, Zad, Zae, Zaf, Zag, Zah, Zai, Zaj, Zak, Zal, Zam, Zan, wk1, wk, Zao, Zap, Zaq, Zar, Zas, Zat, Zau, Zav, AV.kill, AO.kill, AV.thaw, AO.thaw, Zaw, Zax, Zay, Zaz, Zba, Zbb, Zbc, Zbd, Zbe, ite_true, ite_false, reduceCtorEq, Nat.reduceAdd, Nat.reduceMul, Nat.reduceLeDiff, Nat.reduceLT, Nat.reduceEqDiff, forall_const]; try trivial)) ⟨0, by omega, by omega, by simp, rfl, rfl⟩ ?_
  rintro n fr L ⟨k, hk, rfl, hf, rfl, rfl⟩
  simp only [ir_chaseref1_PeopleFault_L0, ZZ, FnG_some, IsnK_some, Za, Zb, Zc, Zd, Ze, Zf, Zg, Zh, rd, AV.un, AV.unA, AV.ad, Zi, Zj, Zk, Zl, Zm, Zn, Zo, Zp, Zq, Zr, Zs, Zt, Zu, Zv, Zw, Zx, Zy, Zz, Zaa, Zab, Zac, Zad, Zae, Zaf, Zag, Zah, Zai, Zaj, Zak, Zal, Zam, Zan, wk1, wk, Zao, Zap, Zaq, Zar, Zas, Zat, Zau, Zav, AV.kill, AO.kill, AV.thaw, AO.thaw, Zaw, Zax, Zay, Zaz, Zba, Zbb, Zbc, Zbd, Zbe, ite_true, ite_false, reduceCtorEq, Nat.reduceAdd, Nat.reduceMul, Nat.reduceLeDiff, Nat.reduceLT, Nat.reduceEqDiff, forall_const]
  refine br ?_ ?_
  · intro h
    have hlt : k < l.length := by have := of_decide_eq_true h; omega
    obtain ⟨x, hx⟩ : ∃ x, l[k]? = some x := ⟨_, List.getElem?_eq_getElem hlt⟩
    obtain ⟨y, hy⟩ : ∃ y, l[k - 1]? = some y := ⟨_, List.getElem?_eq_getElem (by omega)⟩
    have hg := parE_get hx
    have hg2 := parE_get hy
    have hxd : l.getD k p00 = x := by simp [List.getD, hx]
    have hyd : l.getD (k - 1) p00 = y := by simp [List.getD, hy]
    have hbx := hb x (List.mem_of_getElem? hx)
    have hd := hget hlt
    have hn1 : ((k : Int) - 1).toNat = k - 1 := by omega
    have he : peopleE l k = firstE [whenE (!mailF x.1) 3, whenE (decide (0 < k) && (bytesLess x.1 y.1 || decide (x.1 = y.1))) 7, kindE x] := by
      rw [peopleE, ordB, hxd, hyd, leS]
    simp only [ZZ, FnG_some, IsnK_some, Za, Zb, Zc, Zd, Ze, Zf, Zg, Zh, rd, AV.un, AV.unA, AV.ad, Zi, Zj, Zk, Zl, Zm, Zn, Zo, Zp, Zq, Zr, Zs, Zt, Zu, Zv, Zw, Zx, Zy, Zz, Zaa, Zab, Zac, Zad, Zae, Zaf, Zag, Zah, Zai, Zaj, Zak, Zal, Zam, Zan, wk1, wk, Zao, Zap, Zaq, Zar, Zas, Zat, Zau, Zav, AV.kill, AO.kill, AV.thaw, AO.thaw, Zaw, Zax, Zay, Zaz, Zba, Zbb, Zbc, Zbd, Zbe, ite_true, ite_false, reduceCtorEq, Nat.reduceAdd, Nat.reduceMul, Nat.reduceLeDiff, Nat.reduceLT, Nat.reduceEqDiff, forall_const, hg, parE_len]
    ((repeat' (with_reducible apply And.intro)) <;> try ((first | first | assumption | trivial | exact (fun hq => by rw [hq]; rfl) | exact i64_of (by omega) (by omega) | omega | (simp; done) | (simp; omega) | (intro hsc; have hs0 := hsc; (try have hsd := of_decide_eq_true hsc); (try simp only [Bool.not_eq_true', Bool.or_eq_false_iff, Bool.and_eq_true, Bool.or_eq_true, decide_eq_true_eq, decide_eq_false_iff_not] at hsc); (repeat' (with_reducible apply And.intro)) <;> (first | assumption | trivial | exact (fun hq => by rw [hq]; rfl) | exact i64_of (by omega) (by omega) | omega | (simp; done) | (simp; omega) | (intro hse; simp [hse, hs0]; done) | (intro hse; simp only [hse, hs0, Bool.true_and, Bool.and_true, Bool.not_false, Bool.not_true, Bool.and_self]; done))))))
    refine use1 (MailOf_ok x.1 (by omega)) rfl (.inl rfl) ?_
    simp only [ZZ, FnG_some, IsnK_some, Za, Zb, Zc, Zd, Ze, Zf, Zg, Zh, rd, AV.un, AV.unA, AV.ad, Zi, Zj, Zk, Zl, Zm, Zn, Zo, Zp, Zq, Zr, Zs, Zt, Zu, Zv, Zw, Zx, Zy, Zz, Zaa, Zab, Zac, Zad, Zae, Zaf, Zag, Zah, Zai, Zaj, Zak, Zal, Zam, Zan, wk1, wk, Zao, Zap, Zaq, Zar, Zas, Zat, Zau, Zav, AV.kill, AO.kill, AV.thaw, AO.thaw, Zaw, Zax, Zay, Zaz, Zba, Zbb, Zbc, Zbd, Zbe, ite_true, ite_false, reduceCtorEq, Nat.reduceAdd, Nat.reduceMul, Nat.reduceLeDiff, Nat.reduceLT, Nat.reduceEqDiff, forall_const]
    refine br ?_ ?_
    · intro hm
      have hm : mailF x.1 = false := by rwa [Bool.not_eq_true'] at hm
      have he : peopleE l k = 3 := by rw [he, hm]; rfl
      simp only [ZZ, FnG_some, IsnK_some, Za, Zb, Zc, Zd, Ze, Zf, Zg, Zh, rd, AV.un, AV.unA, AV.ad, Zi, Zj, Zk, Zl, Zm, Zn, Zo, Zp, Zq, Zr, Zs, Zt, Zu, Zv, Zw, Zx, Zy, Zz, Zaa, Zab, Zac, Zad, Zae, Zaf, Zag, Zah, Zai, Zaj, Zak, Zal, Zam, Zan, wk1, wk, Zao, Zap, Zaq, Zar, Zas, Zat, Zau, Zav, AV.kill, AO.kill, AV.thaw, AO.thaw, Zaw, Zax, Zay, Zaz, Zba, Zbb, Zbc, Zbd, Zbe, ite_true, ite_false, reduceCtorEq, Nat.reduceAdd, Nat.reduceMul, Nat.reduceLeDiff, Nat.reduceLT, Nat.reduceEqDiff, forall_const]
      rw [hf, hd, he]
      rfl
    intro hm
    have hm : mailF x.1 = true := by rwa [Bool.not_eq_false'] at hm
    simp only [ZZ, FnG_some, IsnK_some, Za, Zb, Zc, Zd, Ze, Zf, Zg, Zh, rd, AV.un, AV.unA, AV.ad, Zi, Zj, Zk, Zl, Zm, Zn, Zo, Zp, Zq, Zr, Zs, Zt, Zu, Zv, Zw, Zx, Zy, Zz, Zaa, Zab, Zac, Zad, Zae, Zaf, Zag, Zah, Zai, Zaj, Zak, Zal, Zam, Zan, wk1, wk, Zao, Zap, Zaq, Zar, Zas, Zat, Zau, Zav, AV.kill, AO.kill, AV.thaw, AO.thaw, Zaw, Zax, Zay, Zaz, Zba, Zbb, Zbc, Zbd, Zbe, ite_true, ite_false, reduceCtorEq, Nat.reduceAdd, Nat.reduceMul, Nat.reduceLeDiff, Nat.reduceLT, Nat.reduceEqDiff, forall_const]
    refine drg0 ?_
    simp only [ZZ, FnG_some, IsnK_some, Za, Zb, Zc, Zd, Ze, Zf, Zg, Zh, rd, AV.un, AV.unA, AV.ad, Zi, Zj, Zk, Zl, Zm, Zn, Zo, Zp, Zq, Zr, Zs, Zt, Zu, Zv, Zw, Zx, Zy, Zz, Zaa, Zab, Zac, Zad, Zae, Zaf, Zag, Zah, Zai, Zaj, Zak, Zal, Zam, Zan, wk1, wk, Zao, Zap, Zaq, Zar, Zas, Zat, Zau, Zav, AV.kill, AO.kill, AV.thaw, AO.thaw, Zaw, Zax, Zay, Zaz, Zba, Zbb, Zbc, Zbd, Zbe, ite_true, ite_false, reduceCtorEq, Nat.reduceAdd, Nat.reduceMul, Nat.reduceLeDiff, Nat.reduceLT, Nat.reduceEqDiff, forall_const, hn1, hg2, parE_len]
    ((repeat' (with_reducible apply And.intro)) <;> try ((first | first | assumption | trivial | exact (fun hq => by rw [hq]; rfl) | exact i64_of (by omega) (by omega) | omega | (simp; done) | (simp; omega) | (intro hsc; have hs0 := hsc; (try have hsd := of_decide_eq_true hsc); (try simp only [Bool.not_eq_true', Bool.or_eq_false_iff, Bool.and_eq_true, Bool.or_eq_true, decide_eq_true_eq, decide_eq_false_iff_not] at hsc); (repeat' (with_reducible apply And.intro)) <;> (first | assumption | trivial | exact (fun hq => by rw [hq]; rfl) | exact i64_of (by omega) (by omega) | omega | (simp; done) | (simp; omega) | (intro hse; simp [hse, hs0]; done) | (intro hse; simp only [hse, hs0, Bool.true_and, Bool.and_true, Bool.not_false, Bool.not_true, Bool.and_self]; done))))))
    refine br ?_ ?_
    · intro ho
      have ho : (decide (0 < k) && (bytesLess x.1 y.1 || decide (x.1 = y.1))) = true := by simpa using ho
      have he : peopleE l k = 7 := by rw [he, hm, ho]; rfl
      simp only [ZZ, FnG_some, IsnK_some, Za, Zb, Zc, Zd, Ze, Zf, Zg, Zh, rd, AV.un, AV.unA, AV.ad, Zi, Zj, Zk, Zl, Zm, Zn, Zo, Zp, Zq, Zr, Zs, Zt, Zu, Zv, Zw, Zx, Zy, Zz, Zaa, Zab, Zac, Zad, Zae, Zaf, Zag, Zah, Zai, Zaj, Zak, Zal, Zam, Zan, wk1, wk, Zao, Zap, Zaq, Zar, Zas, Zat, Zau, Zav, AV.kill, AO.kill, AV.thaw, AO.thaw, Zaw, Zax, Zay, Zaz, Zba, Zbb, Zbc, Zbd, Zbe, ite_true, ite_false, reduceCtorEq, Nat.reduceAdd, Nat.reduceMul, Nat.reduceLeDiff, Nat.reduceLT, Nat.reduceEqDiff, forall_const]
      rw [hf, hd, he]
      rfl
    intro ho
    have ho : (decide (0 < k) && (bytesLess x.1 y.1 || decide (x.1 = y.1))) = false := by
      have : decide (0 < (k : Int)) = decide (0 < k) := by simp
      rwa [this] at ho
    have he : peopleE l k = kindE x := by rw [he, hm, ho]; simp [firstE, whenE]; exact fun h => h.symm
    simp only [ZZ, FnG_some, IsnK_some, Za, Zb, Zc, Zd, Ze, Zf, Zg, Zh, rd, AV.un, AV.unA, AV.ad, Zi, Zj, Zk, Zl, Zm, Zn, Zo, Zp, Zq, Zr, Zs, Zt, Zu, Zv, Zw, Zx, Zy, Zz, Zaa, Zab, Zac, Zad, Zae, Zaf, Zag, Zah, Zai, Zaj, Zak, Zal, Zam, Zan, wk1, wk, Zao, Zap, Zaq, Zar, Zas, Zat, Zau, Zav, AV.kill, AO.kill, AV.thaw, AO.thaw, Zaw, Zax, Zay, Zaz, Zba, Zbb, Zbc, Zbd, Zbe, ite_true, ite_false, reduceCtorEq, Nat.reduceAdd, Nat.reduceMul, Nat.reduceLeDiff, Nat.reduceLT, Nat.reduceEqDiff, forall_const]
    ((repeat' (with_reducible apply And.intro)) <;> try ((first | first | assumption | trivial | exact (fun hq => by rw [hq]; rfl) | exact i64_of (by omega) (by omega) | omega | (simp; done) | (simp; omega) | (intro hsc; have hs0 := hsc; (try have hsd := of_decide_eq_true hsc); (try simp only [Bool.not_eq_true', Bool.or_eq_false_iff, Bool.and_eq_true, Bool.or_eq_true, decide_eq_true_eq, decide_eq_false_iff_not] at hsc); (repeat' (with_reducible apply And.intro)) <;> (first | assumption | trivial | exact (fun hq => by rw [hq]; rfl) | exact i64_of (by omega) (by omega) | omega | (simp; done) | (simp; omega) | (intro hse; simp [hse, hs0]; done) | (intro hse; simp only [hse, hs0, Bool.true_and, Bool.and_true, Bool.not_false, Bool.not_true, Bool.and_self]; done))))))
    rw [kind_if]
    refine br ?_ ?_
    · intro hk
      have he : peopleE l k = 4 := by rw [he, kindE, kindB, whenE, if_pos hk]
      simp only [ZZ, FnG_some, IsnK_some, Za, Zb, Zc, Zd, Ze, Zf, Zg, Zh, rd, AV.un, AV.unA, AV.ad, Zi, Zj, Zk, Zl, Zm, Zn, Zo, Zp, Zq, Zr, Zs, Zt, Zu, Zv, Zw, Zx, Zy, Zz, Zaa, Zab, Zac, Zad, Zae, Zaf, Zag, Zah, Zai, Zaj, Zak, Zal, Zam, Zan, wk1, wk, Zao, Zap, Zaq, Zar, Zas, Zat, Zau, Zav, AV.kill, AO.kill, AV.thaw, AO.thaw, Zaw, Zax, Zay, Zaz, Zba, Zbb, Zbc, Zbd, Zbe, ite_true, ite_false, reduceCtorEq, Nat.reduceAdd, Nat.reduceMul, Nat.reduceLeDiff, Nat.reduceLT, Nat.reduceEqDiff, forall_const]
      rw [hf, hd, he]
      rfl
    · intro hk
      have he : peopleE l k = 0 := by rw [he, kindE, kindB, whenE, if_neg (by rw [hk]; simp)]
      simp only [ZZ, FnG_some, IsnK_some, Za, Zb, Zc, Zd, Ze, Zf, Zg, Zh, rd, AV.un, AV.unA, AV.ad, Zi, Zj, Zk, Zl, Zm, Zn, Zo, Zp, Zq, Zr, Zs, Zt, Zu, Zv, Zw, Zx, Zy, Zz, Zaa, Zab, Zac, Zad, Zae, Zaf, Zag, Zah, Zai, Zaj, Zak, Zal, Zam, Zan, wk1, wk, Zao, Zap, Zaq, Zar, Zas, Zat, Zau, Zav, AV.kill, AO.kill, AV.thaw, AO.thaw, Zaw, Zax, Zay, Zaz, Zba, Zbb, Zbc, Zbd, Zbe, ite_true, ite_false, reduceCtorEq, Nat.reduceAdd, Nat.reduceMul, Nat.reduceLeDiff, Nat.reduceLT, Nat.reduceEqDiff, forall_const]
      refine ⟨i64_of (by omega) (by omega), ?_⟩
      refine end_round (l.length - (k + 1)) [.p (.sl 3 (parE l)), .any, .any, .any, .any, .any, .any, .any, .p (.sl 3 (parE l)), .p (int (l.length : Nat)), .p (int ((k + 1) : Nat)), .any, .any, .any, .any, .any, .any, .any, .any, .any, .any, .any, .any, .any, .any, .any, .any, .any, .any, .any, .any, .any, .any, .any, .any, .any, .any, .any, .any, .any, .any, .any, .any, .any, .any, .any, .any, .any, .any, .any, .any, .any, .any, .any] [] (by omega) (by (simp only [ZZ, FnG_some, IsnK_some, Za, Zb, Zc, Zd, Ze, Zf, Zg, Zh, rd, AV.un, AV.unA, AV.ad, Zi, Zj, Zk, Zl, Zm, Zn, Zo, Zp, Zq, Zr, Zs, Zt, Zu, Zv, Zw, Zx, Zy, Zz, Zaa, Zab, Zac, Zad, Zae, Zaf, Zag, Zah, Zai, Zaj, Zak, Zal, Zam, Zan, wk1, wk, Zao, Zap, Zaq, Zar, Zas, Zat, Zau, Zav, AV.kill, AO.kill, AV.thaw, AO.thaw, Zaw, Zax, Zay, Zaz, Zba, Zbb, Zbc, Zbd, Zbe, ite_true, ite_false, reduceCtorEq, Nat.reduceAdd, Nat.reduceMul, Nat.reduceLeDiff, Nat.reduceLT, Nat.reduceEqDiff, forall_const]; try trivial)) (by (simp only [ZZ, FnG_some, IsnK_some, Za, Zb, Zc, Zd, Ze, Zf, Zg, Zh, rd, AV.un, AV.unA, AV.ad, Zi, Zj, Zk, Zl, Zm, Zn, Zo, Zp, Zq, Zr, Zs, Zt, Zu, Zv, Zw, Zx, Zy, Zz, Zaa, Zab, Zac, Zad, Zae, Zaf, Zag, Zah, Zai, Zaj, Zak, Zal, Zam, Zan, wk1, wk, Zao, Zap, Zaq, Zar, Zas, Zat, Zau, Zav, AV.kill, AO.kill, AV.thaw, AO.thaw, Zaw, Zax, Zay, Zaz, Zba, Zbb, Zbc, Zbd, Zbe, ite_true, ite_false, reduceCtorEq, Nat.reduceAdd, Nat.reduceMul, Nat.reduceLeDiff, Nat.reduceLT, Nat.reduceEqDiff, forall_const]; try trivial)) ⟨k + 1, by omega, rfl, by rw [hf, hd, if_pos he], rfl, rfl⟩
  · intro h
    have hge : l.length ≤ k := by have := of_decide_eq_false h; omega
    simp only [ZZ, FnG_some, IsnK_some, Za, Zb, Zc, Zd, Ze, Zf, Zg, Zh, rd, AV.un, AV.unA, AV.ad, Zi, Zj, Zk, Zl, Zm, Zn, Zo, Zp, Zq, Zr, Zs, Zt, Zu, Zv, Zw, Zx, Zy, Zz, Zaa, Zab, Zac, Zad, Zae, Zaf, Zag, Zah, Zai, Zaj, Zak, Zal, Zam, Zan, wk1, wk, Zao, Zap, Zaq, Zar, Zas, Zat, Zau, Zav, AV.kill, AO.kill, AV.thaw, AO.thaw, Zaw, Zax, Zay, Zaz, Zba, Zbb, Zbc, Zbd, Zbe, ite_true, ite_false, reduceCtorEq, Nat.reduceAdd, Nat.reduceMul, Nat.reduceLeDiff, Nat.reduceLT, Nat.reduceEqDiff, forall_const]
    rw [hf, List.drop_eq_nil_of_le (by omega)]
    rfl

def xAt (s : List UInt8) : List UInt8 := 120 :: 64 :: s
def twiceB (l : List Par) (k : Nat) : Bool := (l.take k).any (fun p => decide (p.1 = (l.getD k p00).1))
def domainE (l : List Par) (k : Nat) : Int := firstE [whenE (!mailF (xAt (l.getD k p00).1)) 3, whenE (twiceB l k) 6, kindE (l.getD k p00)]
def domainsF (l : List Par) : Int := if 100 < l.length then 2 else firstE ((List.range l.length).map (domainE l))
theorem names_any (l : List Par) (k : Nat) (s : List UInt8) : decide (s ∈ (l.take k).map (·.1)) = (l.take k).any (fun p => decide (p.1 = s)) := by
  rw [Bool.eq_iff_iff, decide_eq_true_iff, List.any_eq_true, List.mem_map]
  simp
theorem domainsError_ok (l : List Par) (hl : l.length ≤ 1000000) (hb : ∀ p ∈ l, p.1.length ≤ 1000000) : PCall Tryz.prog E0 79 [.sl 3 (parE l)] (· = int (domainsF l)) := by
  refine pcallF mixed Tryz.func79 ck_privilege_domainsError ?_
  simp only [a0, l0, OS.ao, List.map_cons, List.map_nil, List.length_cons, List.length_nil, List.cons_append, List.nil_append, Nat.reduceSub, Nat.reduceAdd, List.replicate_succ, List.replicate_zero, ir_privilege_domainsError, rs_privilege_domainsError, ZZ, FnG_some, IsnK_some, Za, Zb, Zc, Zd, Ze, Zf, Zg, Zh, rd, AV.un, AV.unA, AV.ad, Zi, Zj, Zk, Zl, Zm, Zn, Zo, Zp, Zq, Zr, Zs, Zt, Zu, Zv, Zw, Zx, Zy, Zz, Zaa, Zab, Zac, Zad, Zae, Zaf, Zag, Zah, Zai, Zaj, Zak, Zal, Zam, Zan, wk1, wk, Zao, Zap, Zaq, Zar, Zas, Zat, Zau, Zav, AV.kill, AO.kill, AV.thaw, AO.thaw, Zaw, Zax, Zay, Zaz, Zba, Zbb, Zbc, Zbd, Zbe, ite_true, ite_false, reduceCtorEq, Nat.reduceAdd, Nat.reduceMul, Nat.reduceLeDiff, Nat.reduceLT, Nat.reduceEqDiff, forall_const]
  simp only [ZZ, FnG_some, IsnK_some, Za, Zb, Zc, Zd, Ze, Zf, Zg, Zh, rd, AV.un, AV.unA, AV.ad, Zi, Zj, Zk, Zl, Zm, Zn, Zo, Zp, Zq, Zr, Zs, Zt, Zu, Zv, Zw, Zx, Zy, Zz, Zaa, Zab, Zac, Zad, Zae, Zaf, Zag, Zah, Zai, Zaj, Zak, Zal, Zam, Zan, wk1, wk, Zao, Zap, Zaq, Zar, Zas, Zat, Zau, Zav, AV.kill, AO.kill, AV.thaw, AO.thaw, Zaw, Zax, Zay, Zaz, Zba, Zbb, Zbc, Zbd, Zbe, ite_true, ite_false, reduceCtorEq, Nat.reduceAdd, Nat.reduceMul, Nat.reduceLeDiff, Nat.reduceLT, Nat.reduceEqDiff, forall_const, parE_len]
  refine br ?_ ?_
  · intro h
    simp only [ZZ, FnG_some, IsnK_some, Za, Zb, Zc, Zd, Ze, Zf, Zg, Zh, rd, AV.un, AV.unA, AV.ad, Zi, Zj, Zk, Zl, Zm, Zn, Zo, Zp, Zq, Zr, Zs, Zt, Zu, Zv, Zw, Zx, Zy, Zz, Zaa, Zab, Zac, Zad, Zae, Zaf, Zag, Zah, Zai, Zaj, Zak, Zal, Zam, Zan, wk1, wk, Zao, Zap, Zaq, Zar, Zas, Zat, Zau, Zav, AV.kill, AO.kill, AV.thaw, AO.thaw, Zaw, Zax, Zay, Zaz, Zba, Zbb, Zbc, Zbd, Zbe, ite_true, ite_false, reduceCtorEq, Nat.reduceAdd, Nat.reduceMul, Nat.reduceLeDiff, Nat.reduceLT, Nat.reduceEqDiff, forall_const]
    have := of_decide_eq_true h
    rw [domainsF, if_pos (by omega)]
  intro h
  have hle : ¬ 100 < l.length := by have := of_decide_eq_false h; omega
  simp only [ZZ, FnG_some, IsnK_some, Za, Zb, Zc, Zd, Ze, Zf, Zg, Zh, rd, AV.un, AV.unA, AV.ad, Zi, Zj, Zk, Zl, Zm, Zn, Zo, Zp, Zq, Zr, Zs, Zt, Zu, Zv, Zw, Zx, Zy, Zz, Zaa, Zab, Zac, Zad, Zae, Zaf, Zag, Zah, Zai, Zaj, Zak, Zal, Zam, Zan, wk1, wk, Zao, Zap, Zaq, Zar, Zas, Zat, Zau, Zav, AV.kill, AO.kill, AV.thaw, AO.thaw, Zaw, Zax, Zay, Zaz, Zba, Zbb, Zbc, Zbd, Zbe, ite_true, ite_false, reduceCtorEq, Nat.reduceAdd, Nat.reduceMul, Nat.reduceLeDiff, Nat.reduceLT, Nat.reduceEqDiff, forall_const]
  rw [show domainsF l = firstE ((List.range l.length).map (domainE l)) from by rw [domainsF, if_neg hle]]
  have hget := fun {k : Nat} (h : k < l.length) => firstE_drop _ k _ (tabE_get (domainE l) h)
  generalize hG : (List.range l.length).map (domainE l) = G at *
  have hGl : G.length = l.length := by rw [← hG]; simp
  refine loop_intro (fun n fr L => ∃ (k : Nat) (kv : List (List UInt8 × PV)), k ≤ l.length ∧ n = l.length - k ∧ (firstE G = firstE (G.drop k)) ∧ (setOf kv ((l.take k).map (·.1))) ∧ fr = [.any, .any, .any, .mp (.l 10), .any, .any, .any, .any, .any, .any, .any, .p (.sl 3 (parE l)), .p (int (l.length : Nat)), .p (int (k : Nat)), .any, .any, .any, .any, .any, .any, .any, .any, .any, .any, .any, .any, .any, .any, .any, .any, .any, .any, .any, .any, .any, .any, .any, .any, .any, .any] ∧ L = [(.l 10, .map kv 9 4)]) (l.length) [.any, .any, .any, .mp (.l 10), .any, .any, .any, .any, .any, .any, .any, .p (.sl 3 (parE l)), .p (int (l.length : Nat)), .p (int (0 : Nat)), .any, .any, .any, .any, .any, .any, .any, .any, .any, .any, .any, .any, .any, .any, .any, .any, .any, .any, .any, .any, .any, .any, .any, .any, .any, .any] [(.l 10, .map [] 9 4)] (by simp only [ZZ, FnG_some, IsnK_some, Za, Zb, Zc, Zd, Ze, Zf, Zg, Zh, rd, AV.un, AV.unA, AV.ad, Zi, Zj, Zk, Zl, Zm, Zn, Zo, Zp, Zq, Zr, Zs, Zt, Zu, Zv, Zw, Zx, Zy, Zz, Zaa, Zab, Zac, Zad, Zae, Zaf, Zag, Zah, Zai, Zaj, Zak, Zal, Zam, Zan, wk1, wk, Zao, Zap, Zaq, Zar, Zas, Zat, Zau, Zav, AV.kill, AO.kill, AV.thaw, AO.thaw, Zaw, Zax, Zay, Zaz, Zba, Zbb, Zbc, Zbd, Zbe, ite_true, ite_false, reduceCtorEq, Nat.reduceAdd, Nat.reduceMul, Nat.reduceLeDiff, Nat.reduceLT, Nat.reduceEqDiff, forall_const, parE_len]; try trivial) (by (simp only [ZZ, FnG_some, IsnK_some, Za, Zb, Zc, Zd, Ze, Zf, Zg, Zh, rd, AV.un, AV.unA, AV.ad, Zi, Zj, Zk, Zl, Zm, Zn, Zo, Zp, Zq, Zr, Zs, Zt, Zu, Zv, Zw, Zx, Zy, Zz, Zaa, Zab, Zac, Zad, Zae, Zaf, Zag, Zah, Zai, Zaj, Zak, Zal, Zam, Zan, wk1, wk, Zao, Zap, Zaq, Zar, Zas, Zat, Zau, Zav, AV.kill, AO.kill, AV.thaw, AO.thaw, Zaw, Zax, Zay, Zaz, Zba, Zbb, Zbc, Zbd, Zbe, ite_true, ite_false, reduceCtorEq, Nat.reduceAdd, Nat.reduceMul, Nat.reduceLeDiff, Nat.reduceLT, Nat.reduceEqDiff, forall_const]; try trivial)) ⟨0, [], by omega, by omega, by simp, setOf_nil, rfl, rfl⟩ ?_
  rintro n fr L ⟨k, kv, hk, rfl, hf, hkv, rfl, rfl⟩
  simp only [ir_privilege_domainsError_L0, ZZ, FnG_some, IsnK_some, Za, Zb, Zc, Zd, Ze, Zf, Zg, Zh, rd, AV.un, AV.unA, AV.ad, Zi, Zj, Zk, Zl, Zm, Zn, Zo, Zp, Zq, Zr, Zs, Zt, Zu, Zv, Zw, Zx, Zy, Zz, Zaa, Zab, Zac, Zad, Zae, Zaf, Zag, Zah, Zai, Zaj, Zak, Zal, Zam, Zan, wk1, wk, Zao, Zap, Zaq, Zar, Zas, Zat, Zau, Zav, AV.kill, AO.kill, AV.thaw, AO.thaw, Zaw, Zax, Zay, Zaz, Zba, Zbb, Zbc, Zbd, Zbe, ite_true, ite_false, reduceCtorEq, Nat.reduceAdd, Nat.reduceMul, Nat.reduceLeDiff, Nat.reduceLT, Nat.reduceEqDiff, forall_const]
  refine br ?_ ?_
  · intro h
    have hlt : k < l.length := by have := of_decide_eq_true h; omega
    obtain ⟨x, hx⟩ : ∃ x, l[k]? = some x := ⟨_, List.getElem?_eq_getElem hlt⟩
    have hg := parE_get hx
    have hxd : l.getD k p00 = x := by simp [List.getD, hx]
    have hbx := hb x (List.mem_of_getElem? hx)
    have hd := hget hlt
    have hsn : mpD kv x.1 (.bool false) = .bool (twiceB l k) := by
      rw [hkv x.1, twiceB, hxd, ← names_any]
    have he : firstE [whenE (!mailF (xAt x.1)) 3, whenE (twiceB l k) 6, kindE ([], x.2.1, x.2.2)] = domainE l k := by
      rw [domainE, hxd]; rfl
    simp only [ZZ, FnG_some, IsnK_some, Za, Zb, Zc, Zd, Ze, Zf, Zg, Zh, rd, AV.un, AV.unA, AV.ad, Zi, Zj, Zk, Zl, Zm, Zn, Zo, Zp, Zq, Zr, Zs, Zt, Zu, Zv, Zw, Zx, Zy, Zz, Zaa, Zab, Zac, Zad, Zae, Zaf, Zag, Zah, Zai, Zaj, Zak, Zal, Zam, Zan, wk1, wk, Zao, Zap, Zaq, Zar, Zas, Zat, Zau, Zav, AV.kill, AO.kill, AV.thaw, AO.thaw, Zaw, Zax, Zay, Zaz, Zba, Zbb, Zbc, Zbd, Zbe, ite_true, ite_false, reduceCtorEq, Nat.reduceAdd, Nat.reduceMul, Nat.reduceLeDiff, Nat.reduceLT, Nat.reduceEqDiff, forall_const, hg, parE_len]
    ((repeat' (with_reducible apply And.intro)) <;> try ((first | first | assumption | trivial | exact (fun hq => by rw [hq]; rfl) | exact i64_of (by omega) (by omega) | omega | (simp; done) | (simp; omega) | (intro hsc; have hs0 := hsc; (try have hsd := of_decide_eq_true hsc); (try simp only [Bool.not_eq_true', Bool.or_eq_false_iff, Bool.and_eq_true, Bool.or_eq_true, decide_eq_true_eq, decide_eq_false_iff_not] at hsc); (repeat' (with_reducible apply And.intro)) <;> (first | assumption | trivial | exact (fun hq => by rw [hq]; rfl) | exact i64_of (by omega) (by omega) | omega | (simp; done) | (simp; omega) | (intro hse; simp [hse, hs0]; done) | (intro hse; simp only [hse, hs0, Bool.true_and, Bool.and_true, Bool.not_false, Bool.not_true, Bool.and_self]; done))))))
    refine drg4 (x1 := int (whenE (!mailF (xAt x.1)) 3)) (x2 := int (whenE (twiceB l k) 6)) (x3 := int (kindE ([], x.2.1, x.2.2))) (x4 := int (domainE l k)) ?_
    simp only [ZZ, FnG_some, IsnK_some, Za, Zb, Zc, Zd, Ze, Zf, Zg, Zh, rd, AV.un, AV.unA, AV.ad, Zi, Zj, Zk, Zl, Zm, Zn, Zo, Zp, Zq, Zr, Zs, Zt, Zu, Zv, Zw, Zx, Zy, Zz, Zaa, Zab, Zac, Zad, Zae, Zaf, Zag, Zah, Zai, Zaj, Zak, Zal, Zam, Zan, wk1, wk, Zao, Zap, Zaq, Zar, Zas, Zat, Zau, Zav, AV.kill, AO.kill, AV.thaw, AO.thaw, Zaw, Zax, Zay, Zaz, Zba, Zbb, Zbc, Zbd, Zbe, ite_true, ite_false, reduceCtorEq, Nat.reduceAdd, Nat.reduceMul, Nat.reduceLeDiff, Nat.reduceLT, Nat.reduceEqDiff, forall_const, hsn, parE_len]
    ((repeat' (with_reducible apply And.intro)) <;> try (first | (simp; omega) | exact usep (mailError_ok (xAt x.1) (by simp [xAt]; omega)) rfl (.inl rfl) | exact usep (When_ok _ _) rfl (.inl rfl) | exact usep (kindError_ok _ _) rfl (.inl rfl) | (rw [← he]; exact usep (First_ok [_, _, _] (by simp)) rfl (.inl rfl)) | (first | first | assumption | trivial | exact (fun hq => by rw [hq]; rfl) | exact i64_of (by omega) (by omega) | omega | (simp; done) | (simp; omega) | (intro hsc; have hs0 := hsc; (try have hsd := of_decide_eq_true hsc); (try simp only [Bool.not_eq_true', Bool.or_eq_false_iff, Bool.and_eq_true, Bool.or_eq_true, decide_eq_true_eq, decide_eq_false_iff_not] at hsc); (repeat' (with_reducible apply And.intro)) <;> (first | assumption | trivial | exact (fun hq => by rw [hq]; rfl) | exact i64_of (by omega) (by omega) | omega | (simp; done) | (simp; omega) | (intro hse; simp [hse, hs0]; done) | (intro hse; simp only [hse, hs0, Bool.true_and, Bool.and_true, Bool.not_false, Bool.not_true, Bool.and_self]; done))))))
    refine br ?_ ?_
    · intro h7
      have : ¬ domainE l k = 0 := by simpa using h7
      simp only [ZZ, FnG_some, IsnK_some, Za, Zb, Zc, Zd, Ze, Zf, Zg, Zh, rd, AV.un, AV.unA, AV.ad, Zi, Zj, Zk, Zl, Zm, Zn, Zo, Zp, Zq, Zr, Zs, Zt, Zu, Zv, Zw, Zx, Zy, Zz, Zaa, Zab, Zac, Zad, Zae, Zaf, Zag, Zah, Zai, Zaj, Zak, Zal, Zam, Zan, wk1, wk, Zao, Zap, Zaq, Zar, Zas, Zat, Zau, Zav, AV.kill, AO.kill, AV.thaw, AO.thaw, Zaw, Zax, Zay, Zaz, Zba, Zbb, Zbc, Zbd, Zbe, ite_true, ite_false, reduceCtorEq, Nat.reduceAdd, Nat.reduceMul, Nat.reduceLeDiff, Nat.reduceLT, Nat.reduceEqDiff, forall_const]
      rw [hf, hd, if_neg this]
    intro h7
    have : domainE l k = 0 := by simpa using h7
    simp only [ZZ, FnG_some, IsnK_some, Za, Zb, Zc, Zd, Ze, Zf, Zg, Zh, rd, AV.un, AV.unA, AV.ad, Zi, Zj, Zk, Zl, Zm, Zn, Zo, Zp, Zq, Zr, Zs, Zt, Zu, Zv, Zw, Zx, Zy, Zz, Zaa, Zab, Zac, Zad, Zae, Zaf, Zag, Zah, Zai, Zaj, Zak, Zal, Zam, Zan, wk1, wk, Zao, Zap, Zaq, Zar, Zas, Zat, Zau, Zav, AV.kill, AO.kill, AV.thaw, AO.thaw, Zaw, Zax, Zay, Zaz, Zba, Zbb, Zbc, Zbd, Zbe, ite_true, ite_false, reduceCtorEq, Nat.reduceAdd, Nat.reduceMul, Nat.reduceLeDiff, Nat.reduceLT, Nat.reduceEqDiff, forall_const]
    refine ⟨i64_of (by omega) (by omega), ?_⟩
    refine end_round (l.length - (k + 1)) [.any, .any, .any, .mp (.l 10), .any, .any, .any, .any, .any, .any, .any, .p (.sl 3 (parE l)), .p (int (l.length : Nat)), .p (int ((k + 1) : Nat)), .any, .any, .any, .any, .any, .any, .any, .any, .any, .any, .any, .any, .any, .any, .any, .any, .any, .any, .any, .any, .any, .any, .any, .any, .any, .any] [(.l 10, .map (mpS kv x.1 (.bool true)) 9 4)] (by omega) (by (simp only [ZZ, FnG_some, IsnK_some, Za, Zb, Zc, Zd, Ze, Zf, Zg, Zh, rd, AV.un, AV.unA, AV.ad, Zi, Zj, Zk, Zl, Zm, Zn, Zo, Zp, Zq, Zr, Zs, Zt, Zu, Zv, Zw, Zx, Zy, Zz, Zaa, Zab, Zac, Zad, Zae, Zaf, Zag, Zah, Zai, Zaj, Zak, Zal, Zam, Zan, wk1, wk, Zao, Zap, Zaq, Zar, Zas, Zat, Zau, Zav, AV.kill, AO.kill, AV.thaw, AO.thaw, Zaw, Zax, Zay, Zaz, Zba, Zbb, Zbc, Zbd, Zbe, ite_true, ite_false, reduceCtorEq, Nat.reduceAdd, Nat.reduceMul, Nat.reduceLeDiff, Nat.reduceLT, Nat.reduceEqDiff, forall_const]; try trivial)) (by (simp only [ZZ, FnG_some, IsnK_some, Za, Zb, Zc, Zd, Ze, Zf, Zg, Zh, rd, AV.un, AV.unA, AV.ad, Zi, Zj, Zk, Zl, Zm, Zn, Zo, Zp, Zq, Zr, Zs, Zt, Zu, Zv, Zw, Zx, Zy, Zz, Zaa, Zab, Zac, Zad, Zae, Zaf, Zag, Zah, Zai, Zaj, Zak, Zal, Zam, Zan, wk1, wk, Zao, Zap, Zaq, Zar, Zas, Zat, Zau, Zav, AV.kill, AO.kill, AV.thaw, AO.thaw, Zaw, Zax, Zay, Zaz, Zba, Zbb, Zbc, Zbd, Zbe, ite_true, ite_false, reduceCtorEq, Nat.reduceAdd, Nat.reduceMul, Nat.reduceLeDiff, Nat.reduceLT, Nat.reduceEqDiff, forall_const]; try trivial)) ⟨k + 1, mpS kv x.1 (.bool true), by omega, rfl, by rw [hf, hd, if_pos this], by rw [List.take_succ_eq_append_getElem hlt, List.map_append, (List.getElem?_eq_some_iff.1 hx).2]; exact setOf_put hkv x.1, rfl, rfl⟩
  · intro h
    have hge : l.length ≤ k := by have := of_decide_eq_false h; omega
    simp only [ZZ, FnG_some, IsnK_some, Za, Zb, Zc, Zd, Ze, Zf, Zg, Zh, rd, AV.un, AV.unA, AV.ad, Zi, Zj, Zk, Zl, Zm, Zn, Zo, Zp, Zq, Zr, Zs, Zt, Zu, Zv, Zw, Zx, Zy, Zz, Zaa, Zab, Zac, Zad, Zae, Zaf, Zag, Zah, Zai, Zaj, Zak, Zal, Zam, Zan, wk1, wk, Zao, Zap, Zaq, Zar, Zas, Zat, Zau, Zav, AV.kill, AO.kill, AV.thaw, AO.thaw, Zaw, Zax, Zay, Zaz, Zba, Zbb, Zbc, Zbd, Zbe, ite_true, ite_false, reduceCtorEq, Nat.reduceAdd, Nat.reduceMul, Nat.reduceLeDiff, Nat.reduceLT, Nat.reduceEqDiff, forall_const]
    rw [hf, List.drop_eq_nil_of_le (by omega)]
    rfl
theorem IndexFuncD_ok {E : Envt} (l : List Par) (f : FuncId) (ps : List PV) (q : Par → Bool) (hl : l.length ≤ 1000000000) (hfn : Unit → fnB Tryz.prog f = true) (hps : Zk [] (ps.map .p) = true) (hf : ∀ x ∈ l, PCall Tryz.prog E f (.agg (par x) :: ps) (· = .bool (q x))) (hn : ∀ x, Zba [] (.p (.agg (par x)) :: ps.map .p) = some (.agg (par x) :: ps)) (hr : ∀ x, Zbc (.p (.agg (par x)) :: ps.map .p) = true) : PCall Tryz.prog E 157 [.sl 3 (parE l), .clo f ps] (· = int (idxF q l)) := by
  refine pcallF mixed Tryz.func157 ck_slices_IndexFunc_api_Domain_api_Domain ?_
  simp only [a0, l0, OS.ao, List.map_cons, List.map_nil, List.length_cons, List.length_nil, List.cons_append, List.nil_append, Nat.reduceSub, Nat.reduceAdd, List.replicate_succ, List.replicate_zero, ir_slices_IndexFunc_api_Domain_api_Domain, rs_slices_IndexFunc_api_Domain_api_Domain, ZZ, FnG_some, IsnK_some, Za, Zb, Zc, Zd, Ze, Zf, Zg, Zh, rd, AV.un, AV.unA, AV.ad, Zi, Zj, Zk, Zl, Zm, Zn, Zo, Zp, Zq, Zr, Zs, Zt, Zu, Zv, Zw, Zx, Zy, Zz, Zaa, Zab, Zac, Zad, Zae, Zaf, Zag, Zah, Zai, Zaj, Zak, Zal, Zam, Zan, wk1, wk, Zao, Zap, Zaq, Zar, Zas, Zat, Zau, Zav, AV.kill, AO.kill, AV.thaw, AO.thaw, Zaw, Zax, Zay, Zaz, Zba, Zbb, Zbc, Zbd, Zbe, ite_true, ite_false, reduceCtorEq, Nat.reduceAdd, Nat.reduceMul, Nat.reduceLeDiff, Nat.reduceLT, Nat.reduceEqDiff, forall_const]
  simp only [ZZ, FnG_some, IsnK_some, Za, Zb, Zc, Zd, Ze, Zf, Zg, Zh, rd, AV.un, AV.unA, AV.ad, Zi, Zj, Zk, Zl, Zm, Zn, Zo, Zp, Zq, Zr, Zs, Zt, Zu, Zv, Zw, Zx, Zy, Zz, Zaa, Zab, Zac, Zad, Zae, Zaf, Zag, Zah, Zai, Zaj, Zak, Zal, Zam, Zan, wk1, wk, Zao, Zap, Zaq, Zar, Zas, Zat, Zau, Zav, AV.kill, AO.kill, AV.thaw, AO.thaw, Zaw, Zax, Zay, Zaz, Zba, Zbb, Zbc, Zbd, Zbe, ite_true, ite_false, reduceCtorEq, Nat.reduceAdd, Nat.reduceMul, Nat.reduceLeDiff, Nat.reduceLT, Nat.reduceEqDiff, forall_const, parE_len]
  refine loop_intro (fun n fr L => ∃ (k : Nat), k ≤ l.length ∧ n = l.length - k ∧ (∀ x ∈ l.take k, q x = false) ∧ fr = [.p (.sl 3 (parE l)), .p (.clo f ps), .any, .any, .any, .any, .any, .p (int (l.length : Nat)), .p (int (k : Nat)), .any, .any, .any, .any, .any, .any, .any, .any, .any, .any] ∧ L = []) (l.length) [.p (.sl 3 (parE l)), .p (.clo f ps), .any, .any, .any, .any, .any, .p (int (l.length : Nat)), .p (int (0 : Nat)), .any, .any, .any, .any, .any, .any, .any, .any, .any, .any] [] (by simp only [parE_len, ZZ, FnG_some, IsnK_some, Za, Zb, Zc, Zd, Ze, Zf, Zg, Zh, rd, AV.un, AV.unA, AV.ad, Zi, Zj, Zk, Zl, Zm, Zn, Zo, Zp, Zq, Zr, Zs, Zt, Zu, Zv, Zw, Zx, Zy, Zz, Zaa, Zab, Zac, Zad, Zae, Zaf, Zag, Zah, Zai, Zaj, Zak, Zal, Zam, Zan, wk1, wk, Zao, Zap, Zaq, Zar, Zas, Zat, Zau, Zav, AV.kill, AO.kill, AV.thaw, AO.thaw, Zaw, Zax, Zay, Zaz, Zba, Zbb, Zbc, Zbd, Zbe, ite_true, ite_false, reduceCtorEq, Nat.reduceAdd, Nat.reduceMul, Nat.reduceLeDiff, Nat.reduceLT, Nat.reduceEqDiff, forall_const]; try trivial) (by (simp only [ZZ, FnG_some, IsnK_some, Za, Zb, Zc, Zd, Ze, Zf, Zg, Zh, rd, AV.un, AV.unA, AV.ad, Zi, Zj, Zk, Zl, Zm, Zn, Zo, Zp, Zq, Zr, Zs, Zt, Zu, Zv, Zw, Zx, Zy, Zz, Zaa, Zab, Zac, Zad, Zae, Zaf, Zag, Zah, Zai, Zaj, Zak, Zal, Zam, Zan, wk1, wk, Zao, Zap, Zaq, Zar, Zas, Zat, Zau, Zav, AV.kill, AO.kill, AV.thaw, AO.thaw, Zaw, Zax, Zay, Zaz, Zba, Zbb, Zbc, Zbd, Zbe, ite_true, ite_false, reduceCtorEq, Nat.reduceAdd, Nat.reduceMul, Nat.reduceLeDiff, Nat.reduceLT, Nat.reduceEqDiff, forall_const]; try trivial)) ⟨0, by omega, by omega, by simp, rfl, rfl⟩ ?_
  rintro n fr L ⟨k, hk, rfl, hno, rfl, rfl⟩
  simp only [ir_slices_IndexFunc_api_Domain_api_Domain_L0, ZZ, FnG_some, IsnK_some, Za, Zb, Zc, Zd, Ze, Zf, Zg, Zh, rd, AV.un, AV.unA, AV.ad, Zi, Zj, Zk, Zl, Zm, Zn, Zo, Zp, Zq, Zr, Zs, Zt, Zu, Zv, Zw, Zx, Zy, Zz, Zaa, Zab, Zac, Zad, Zae, Zaf, Zag, Zah, Zai, Zaj, Zak, Zal, Zam, Zan, wk1, wk, Zao, Zap, Zaq, Zar, Zas, Zat, Zau, Zav, AV.kill, AO.kill, AV.thaw, AO.thaw, Zaw, Zax, Zay, Zaz, Zba, Zbb, Zbc, Zbd, Zbe, ite_true, ite_false, reduceCtorEq, Nat.reduceAdd, Nat.reduceMul, Nat.reduceLeDiff, Nat.reduceLT, Nat.reduceEqDiff, forall_const]
  refine br ?_ ?_
  · intro h
    have hlt : k < l.length := by have := of_decide_eq_true h; omega
    obtain ⟨x, hx⟩ : ∃ x, l[k]? = some x := ⟨_, List.getElem?_eq_getElem hlt⟩
    have hg := parE_get hx
    simp only [ZZ, FnG_some, IsnK_some, Za, Zb, Zc, Zd, Ze, Zf, Zg, Zh, rd, AV.un, AV.unA, AV.ad, Zi, Zj, Zk, Zl, Zm, Zn, Zo, Zp, Zq, Zr, Zs, Zt, Zu, Zv, Zw, Zx, Zy, Zz, Zaa, Zab, Zac, Zad, Zae, Zaf, Zag, Zah, Zai, Zaj, Zak, Zal, Zam, Zan, wk1, wk, Zao, Zap, Zaq, Zar, Zas, Zat, Zau, Zav, AV.kill, AO.kill, AV.thaw, AO.thaw, Zaw, Zax, Zay, Zaz, Zba, Zbb, Zbc, Zbd, Zbe, ite_true, ite_false, reduceCtorEq, Nat.reduceAdd, Nat.reduceMul, Nat.reduceLeDiff, Nat.reduceLT, Nat.reduceEqDiff, forall_const, hg, parE_len, hfn ()]
    refine ⟨⟨by omega, by omega⟩, by omega, hps, ?_⟩
    refine use1 (hf x (List.mem_of_getElem? hx)) (hn x) (.inl (hr x)) ?_
    simp only [ZZ, FnG_some, IsnK_some, Za, Zb, Zc, Zd, Ze, Zf, Zg, Zh, rd, AV.un, AV.unA, AV.ad, Zi, Zj, Zk, Zl, Zm, Zn, Zo, Zp, Zq, Zr, Zs, Zt, Zu, Zv, Zw, Zx, Zy, Zz, Zaa, Zab, Zac, Zad, Zae, Zaf, Zag, Zah, Zai, Zaj, Zak, Zal, Zam, Zan, wk1, wk, Zao, Zap, Zaq, Zar, Zas, Zat, Zau, Zav, AV.kill, AO.kill, AV.thaw, AO.thaw, Zaw, Zax, Zay, Zaz, Zba, Zbb, Zbc, Zbd, Zbe, ite_true, ite_false, reduceCtorEq, Nat.reduceAdd, Nat.reduceMul, Nat.reduceLeDiff, Nat.reduceLT, Nat.reduceEqDiff, forall_const]
    refine br ?_ ?_
    · intro hq
      simp only [ZZ, FnG_some, IsnK_some, Za, Zb, Zc, Zd, Ze, Zf, Zg, Zh, rd, AV.un, AV.unA, AV.ad, Zi, Zj, Zk, Zl, Zm, Zn, Zo, Zp, Zq, Zr, Zs, Zt, Zu, Zv, Zw, Zx, Zy, Zz, Zaa, Zab, Zac, Zad, Zae, Zaf, Zag, Zah, Zai, Zaj, Zak, Zal, Zam, Zan, wk1, wk, Zao, Zap, Zaq, Zar, Zas, Zat, Zau, Zav, AV.kill, AO.kill, AV.thaw, AO.thaw, Zaw, Zax, Zay, Zaz, Zba, Zbb, Zbc, Zbd, Zbe, ite_true, ite_false, reduceCtorEq, Nat.reduceAdd, Nat.reduceMul, Nat.reduceLeDiff, Nat.reduceLT, Nat.reduceEqDiff, forall_const]
      rw [idxF_hit hx hq hno]
    · intro hq
      simp only [ZZ, FnG_some, IsnK_some, Za, Zb, Zc, Zd, Ze, Zf, Zg, Zh, rd, AV.un, AV.unA, AV.ad, Zi, Zj, Zk, Zl, Zm, Zn, Zo, Zp, Zq, Zr, Zs, Zt, Zu, Zv, Zw, Zx, Zy, Zz, Zaa, Zab, Zac, Zad, Zae, Zaf, Zag, Zah, Zai, Zaj, Zak, Zal, Zam, Zan, wk1, wk, Zao, Zap, Zaq, Zar, Zas, Zat, Zau, Zav, AV.kill, AO.kill, AV.thaw, AO.thaw, Zaw, Zax, Zay, Zaz, Zba, Zbb, Zbc, Zbd, Zbe, ite_true, ite_false, reduceCtorEq, Nat.reduceAdd, Nat.reduceMul, Nat.reduceLeDiff, Nat.reduceLT, Nat.reduceEqDiff, forall_const]
      ((repeat' (with_reducible apply And.intro)) <;> try ((first | first | assumption | trivial | exact (fun hq => by rw [hq]; rfl) | exact i64_of (by omega) (by omega) | omega | (simp; done) | (simp; omega) | (intro hsc; have hs0 := hsc; (try have hsd := of_decide_eq_true hsc); (try simp only [Bool.not_eq_true', Bool.or_eq_false_iff, Bool.and_eq_true, Bool.or_eq_true, decide_eq_true_eq, decide_eq_false_iff_not] at hsc); (repeat' (with_reducible apply And.intro)) <;> (first | assumption | trivial | exact (fun hq => by rw [hq]; rfl) | exact i64_of (by omega) (by omega) | omega | (simp; done) | (simp; omega) | (intro hse; simp [hse, hs0]; done) | (intro hse; simp only [hse, hs0, Bool.true_and, Bool.and_true, Bool.not_false, Bool.not_true, Bool.and_self]; done))))))
      refine end_round (l.length - (k + 1)) [.p (.sl 3 (parE l)), .p (.clo f ps), .any, .any, .any, .any, .any, .p (int (l.length : Nat)), .p (int ((k + 1) : Nat)), .any, .any, .any, .any, .any, .any, .any, .any, .any, .any] [] (by omega) (by (simp only [ZZ, FnG_some, IsnK_some, Za, Zb, Zc, Zd, Ze, Zf, Zg, Zh, rd, AV.un, AV.unA, AV.ad, Zi, Zj, Zk, Zl, Zm, Zn, Zo, Zp, Zq, Zr, Zs, Zt, Zu, Zv, Zw, Zx, Zy, Zz, Zaa, Zab, Zac, Zad, Zae, Zaf, Zag, Zah, Zai, Zaj, Zak, Zal, Zam, Zan, wk1, wk, Zao, Zap, Zaq, Zar, Zas, Zat, Zau, Zav, AV.kill, AO.kill, AV.thaw, AO.thaw, Zaw, Zax, Zay, Zaz, Zba, Zbb, Zbc, Zbd, Zbe, ite_true, ite_false, reduceCtorEq, Nat.reduceAdd, Nat.reduceMul, Nat.reduceLeDiff, Nat.reduceLT, Nat.reduceEqDiff, forall_const]; try trivial)) (by (simp only [ZZ, FnG_some, IsnK_some, Za, Zb, Zc, Zd, Ze, Zf, Zg, Zh, rd, AV.un, AV.unA, AV.ad, Zi, Zj, Zk, Zl, Zm, Zn, Zo, Zp, Zq, Zr, Zs, Zt, Zu, Zv, Zw, Zx, Zy, Zz, Zaa, Zab, Zac, Zad, Zae, Zaf, Zag, Zah, Zai, Zaj, Zak, Zal, Zam, Zan, wk1, wk, Zao, Zap, Zaq, Zar, Zas, Zat, Zau, Zav, AV.kill, AO.kill, AV.thaw, AO.thaw, Zaw, Zax, Zay, Zaz, Zba, Zbb, Zbc, Zbd, Zbe, ite_true, ite_false, reduceCtorEq, Nat.reduceAdd, Nat.reduceMul, Nat.reduceLeDiff, Nat.reduceLT, Nat.reduceEqDiff, forall_const]; try trivial)) ⟨k + 1, by omega, rfl, by rw [List.take_succ_eq_append_getElem hlt]; intro y hy; rcases List.mem_append.1 hy with hy | hy; exact hno y hy; rw [List.mem_singleton] at hy; rw [hy, (List.getElem?_eq_some_iff.1 hx).2]; exact hq, rfl, rfl⟩
  · intro h
    have hge : l.length ≤ k := by have := of_decide_eq_false h; omega
    rw [List.take_of_length_le hge] at hno
    simp only [ZZ, FnG_some, IsnK_some, Za, Zb, Zc, Zd, Ze, Zf, Zg, Zh, rd, AV.un, AV.unA, AV.ad, Zi, Zj, Zk, Zl, Zm, Zn, Zo, Zp, Zq, Zr, Zs, Zt, Zu, Zv, Zw, Zx, Zy, Zz, Zaa, Zab, Zac, Zad, Zae, Zaf, Zag, Zah, Zai, Zaj, Zak, Zal, Zam, Zan, wk1, wk, Zao, Zap, Zaq, Zar, Zas, Zat, Zau, Zav, AV.kill, AO.kill, AV.thaw, AO.thaw, Zaw, Zax, Zay, Zaz, Zba, Zbb, Zbc, Zbd, Zbe, ite_true, ite_false, reduceCtorEq, Nat.reduceAdd, Nat.reduceMul, Nat.reduceLeDiff, Nat.reduceLT, Nat.reduceEqDiff, forall_const]
    rw [idxF_none hno]
theorem ContainsFuncD_ok {E : Envt} (l : List Par) (f : FuncId) (ps : List PV) (q : Par → Bool) (hl : l.length ≤ 1000000000) (hfn : Unit → fnB Tryz.prog f = true) (hps : Zk [] (ps.map .p) = true) (hf : ∀ x ∈ l, PCall Tryz.prog E f (.agg (par x) :: ps) (· = .bool (q x))) (hn : ∀ x, Zba [] (.p (.agg (par x)) :: ps.map .p) = some (.agg (par x) :: ps)) (hr : ∀ x, Zbc (.p (.agg (par x)) :: ps.map .p) = true) : PCall Tryz.prog E 81 [.sl 3 (parE l), .clo f ps] (· = .bool (l.any q)) := by
  refine pcallF mixed Tryz.func81 ck_slices_ContainsFunc_api_Domain_api_Domain ?_
  simp only [a0, l0, OS.ao, List.map_cons, List.map_nil, List.length_cons, List.length_nil, List.cons_append, List.nil_append, Nat.reduceSub, Nat.reduceAdd, List.replicate_succ, List.replicate_zero, ir_slices_ContainsFunc_api_Domain_api_Domain, rs_slices_ContainsFunc_api_Domain_api_Domain, ZZ, FnG_some, IsnK_some, Za, Zb, Zc, Zd, Ze, Zf, Zg, Zh, rd, AV.un, AV.unA, AV.ad, Zi, Zj, Zk, Zl, Zm, Zn, Zo, Zp, Zq, Zr, Zs, Zt, Zu, Zv, Zw, Zx, Zy, Zz, Zaa, Zab, Zac, Zad, Zae, Zaf, Zag, Zah, Zai, Zaj, Zak, Zal, Zam, Zan, wk1, wk, Zao, Zap, Zaq, Zar, Zas, Zat, Zau, Zav, AV.kill, AO.kill, AV.thaw, AO.thaw, Zaw, Zax, Zay, Zaz, Zba, Zbb, Zbc, Zbd, Zbe, ite_true, ite_false, reduceCtorEq, Nat.reduceAdd, Nat.reduceMul, Nat.reduceLeDiff, Nat.reduceLT, Nat.reduceEqDiff, forall_const]
  refine use1 (IndexFuncD_ok l f ps q hl hfn hps hf hn hr) rfl (.inl rfl) ?_
  simp only [ZZ, FnG_some, IsnK_some, Za, Zb, Zc, Zd, Ze, Zf, Zg, Zh, rd, AV.un, AV.unA, AV.ad, Zi, Zj, Zk, Zl, Zm, Zn, Zo, Zp, Zq, Zr, Zs, Zt, Zu, Zv, Zw, Zx, Zy, Zz, Zaa, Zab, Zac, Zad, Zae, Zaf, Zag, Zah, Zai, Zaj, Zak, Zal, Zam, Zan, wk1, wk, Zao, Zap, Zaq, Zar, Zas, Zat, Zau, Zav, AV.kill, AO.kill, AV.thaw, AO.thaw, Zaw, Zax, Zay, Zaz, Zba, Zbb, Zbc, Zbd, Zbe, ite_true, ite_false, reduceCtorEq, Nat.reduceAdd, Nat.reduceMul, Nat.reduceLeDiff, Nat.reduceLT, Nat.reduceEqDiff, forall_const]
  rw [idxF_any]
theorem DomainsFault1_ok {E : Envt} (x y : Par) : PCall Tryz.prog E 82 [.agg (par x), .ptr (par y)] (· = .bool (decide (x.1 = y.1))) := by
  simp only [par]
  refine pcallF mixed Tryz.func82 ck_chaseref1_DomainsFault_1 ?_
  simp only [a0, l0, OS.ao, List.map_cons, List.map_nil, List.length_cons, List.length_nil, List.cons_append, List.nil_append, Nat.reduceSub, Nat.reduceAdd, List.replicate_succ, List.replicate_zero, ir_chaseref1_DomainsFault_1, rs_chaseref1_DomainsFault_1, ZZ, FnG_some, IsnK_some, Za, Zb, Zc, Zd, Ze, Zf, Zg, Zh, rd, AV.un, AV.unA, AV.ad, Zi, Zj, Zk, Zl, Zm, Zn, Zo, Zp, Zq, Zr, Zs, Zt, Zu, Zv, Zw, Zx, Zy, Zz, Zaa, Zab, Zac, Zad, Zae, Zaf, Zag, Zah, Zai, Zaj, Zak, Zal, Zam, Zan, wk1, wk, Zao, Zap, Zaq, Zar, Zas, Zat, Zau, Zav, AV.kill, AO.kill, AV.thaw, AO.thaw, Zaw, Zax, Zay, Zaz, Zba, Zbb, Zbc, Zbd, Zbe, ite_true, ite_false, reduceCtorEq, Nat.reduceAdd, Nat.reduceMul, Nat.reduceLeDiff, Nat.reduceLT, Nat.reduceEqDiff, forall_const]
theorem DomainsFault_ok (l : List Par) (hl : l.length ≤ 1000000) (hb : ∀ p ∈ l, p.1.length ≤ 1000000) : PCall Tryz.prog E0 16 [.sl 3 (parE l)] (· = int (domainsF l)) := by
  refine pcallF mixed Tryz.func16 ck_chaseref1_DomainsFault ?_
  simp only [a0, l0, OS.ao, List.map_cons, List.map_nil, List.length_cons, List.length_nil, List.cons_append, List.nil_append, Nat.reduceSub, Nat.reduceAdd, List.replicate_succ, List.replicate_zero, ir_chaseref1_DomainsFault, rs_chaseref1_DomainsFault, ZZ, FnG_some, IsnK_some, Za, Zb, Zc, Zd, Ze, Zf, Zg, Zh, rd, AV.un, AV.unA, AV.ad, Zi, Zj, Zk, Zl, Zm, Zn, Zo, Zp, Zq, Zr, Zs, Zt, Zu, Zv, Zw, Zx, Zy, Zz, Zaa, Zab, Zac, Zad, Zae, Zaf, Zag, Zah, Zai, Zaj, Zak, Zal, Zam, Zan, wk1, wk, Zao, Zap, Zaq, Zar, Zas, Zat, Zau, Zav, AV.kill, AO.kill, AV.thaw, AO.thaw, Zaw, Zax, Zay, Zaz, Zba, Zbb, Zbc, Zbd, Zbe, ite_true, ite_false, reduceCtorEq, Nat.reduceAdd, Nat.reduceMul, Nat.reduceLeDiff, Nat.reduceLT, Nat.reduceEqDiff, forall_const]
  simp only [ZZ, FnG_some, IsnK_some, Za, Zb, Zc, Zd, Ze, Zf, Zg, Zh, rd, AV.un, AV.unA, AV.ad, Zi, Zj, Zk, Zl, Zm, Zn, Zo, Zp, Zq, Zr, Zs, Zt, Zu, Zv, Zw, Zx, Zy, Zz, Zaa, Zab, Zac, Zad, Zae, Zaf, Zag, Zah, Zai, Zaj, Zak, Zal, Zam, Zan, wk1, wk, Zao, Zap, Zaq, Zar, Zas, Zat, Zau, Zav, AV.kill, AO.kill, AV.thaw, AO.thaw, Zaw, Zax, Zay, Zaz, Zba, Zbb, Zbc, Zbd, Zbe, ite_true, ite_false, reduceCtorEq, Nat.reduceAdd, Nat.reduceMul, Nat.reduceLeDiff, Nat.reduceLT, Nat.reduceEqDiff, forall_const, parE_len]
  refine br ?_ ?_
  · intro h
    simp only [ZZ, FnG_some, IsnK_some, Za, Zb, Zc, Zd, Ze, Zf, Zg, Zh, rd, AV.un, AV.unA, AV.ad, Zi, Zj, Zk, Zl, Zm, Zn, Zo, Zp, Zq, Zr, Zs, Zt, Zu, Zv, Zw, Zx, Zy, Zz, Zaa, Zab, Zac, Zad, Zae, Zaf, Zag, Zah, Zai, Zaj, Zak, Zal, Zam, Zan, wk1, wk, Zao, Zap, Zaq, Zar, Zas, Zat, Zau, Zav, AV.kill, AO.kill, AV.thaw, AO.thaw, Zaw, Zax, Zay, Zaz, Zba, Zbb, Zbc, Zbd, Zbe, ite_true, ite_false, reduceCtorEq, Nat.reduceAdd, Nat.reduceMul, Nat.reduceLeDiff, Nat.reduceLT, Nat.reduceEqDiff, forall_const]
    have := of_decide_eq_true h
    rw [domainsF, if_pos (by omega)]
  intro h
  have hle : ¬ 100 < l.length := by have := of_decide_eq_false h; omega
  simp only [ZZ, FnG_some, IsnK_some, Za, Zb, Zc, Zd, Ze, Zf, Zg, Zh, rd, AV.un, AV.unA, AV.ad, Zi, Zj, Zk, Zl, Zm, Zn, Zo, Zp, Zq, Zr, Zs, Zt, Zu, Zv, Zw, Zx, Zy, Zz, Zaa, Zab, Zac, Zad, Zae, Zaf, Zag, Zah, Zai, Zaj, Zak, Zal, Zam, Zan, wk1, wk, Zao, Zap, Zaq, Zar, Zas, Zat, Zau, Zav, AV.kill, AO.kill, AV.thaw, AO.thaw, Zaw, Zax, Zay, Zaz, Zba, Zbb, Zbc, Zbd, Zbe, ite_true, ite_false, reduceCtorEq, Nat.reduceAdd, Nat.reduceMul, Nat.reduceLeDiff, Nat.reduceLT, Nat.reduceEqDiff, forall_const]
  rw [show domainsF l = firstE ((List.range l.length).map (domainE l)) from by rw [domainsF, if_neg hle]]
  have hget := fun {k : Nat} (h : k < l.length) => firstE_drop _ k _ (tabE_get (domainE l) h)
  generalize hG : (List.range l.length).map (domainE l) = G at *
  have hGl : G.length = l.length := by rw [← hG]; simp
  refine loop_intro (fun n fr L => ∃ (k : Nat), k ≤ l.length ∧ n = l.length - k ∧ (firstE G = firstE (G.drop k)) ∧ fr = [.p (.sl 3 (parE l)), .any, .any, .any, .any, .any, .any, .any, .p (.sl 3 (parE l)), .p (int (l.length : Nat)), .p (int (k : Nat)), .any, .any, .any, .any, .any, .any, .any, .any, .any, .any, .any, .any, .any, .any, .any, .any, .any, .any, .any, .any, .any, .any, .any, .any, .any, .any, .any, .any, .any, .any, .any, .any, .any, .any, .any, .any] ∧ L = []) (l.length) [.p (.sl 3 (parE l)), .any, .any, .any, .any, .any, .any, .any, .p (.sl 3 (parE l)), .p (int (l.length : Nat)), .p (int (0 : Nat)), .any, .any, .any, .any, .any, .any, .any, .any, .any, .any, .any, .any, .any, .any, .any, .any, .any, .any, .any, .any, .any, .any, .any, .any, .any, .any, .any, .any, .any, .any, .any, .any, .any, .any, .any, .any] [] (by simp only [ZZ, FnG_some, IsnK_some, Za, Zb, Zc, Zd, Ze, Zf, Zg, Zh, rd, AV.un, AV.unA, AV.ad, Zi, Zj, Zk, Zl, Zm, Zn, Zo, Zp, Zq, Zr, Zs, Zt, Zu, Zv, Zw, Zx, Zy, Zz, Zaa, Zab, Zac, Zad, Zae, Zaf, Zag, Zah, Zai, Zaj, Zak, Zal, Zam, Zan, wk1, wk, Zao, Zap, Zaq, Zar, Zas, Zat, Zau, Zav, AV.kill, AO.kill, AV.thaw, AO.thaw, Zaw, Zax, Zay, Zaz, Zba, Zbb, Zbc, Zbd, Zbe, ite_true, ite_false, reduceCtorEq, Nat.reduceAdd, Nat.reduceMul, Nat.reduceLeDiff, Nat.reduceLT, Nat.reduceEqDiff, forall_const, parE_len]; try trivial) (by (simp only [ZZ, FnG_some, IsnK_some, Za, Zb, Zc, Zd, Ze, Zf, Zg, Zh, rd, AV.un, AV.unA, AV.ad, Zi, Zj, Zk, Zl, Zm, Zn, Zo, Zp, Zq, Zr, Zs, Zt, Zu, Zv, Zw, Zx, Zy, Zz, Zaa, Zab, Zac, Zad, Zae, Zaf, Zag, Zah, Zai, Zaj, Zak, Zal, Zam, Zan, wk1, wk, Zao, Zap, Zaq, Zar, Zas, Zat, Zau, Zav, AV.kill, AO.kill, AV.thaw, AO.thaw, Zaw, Zax, Zay, Zaz, Zba, Zbb, Zbc, Zbd, Zbe, ite_true, ite_false, reduceCtorEq, Nat.reduceAdd, Nat.reduceMul, Nat.reduceLeDiff, Nat.reduceLT, Nat.reduceEqDiff, forall_const]; try trivial)) ⟨0, by omega, by omega, by simp, rfl, rfl⟩ ?_
  rintro n fr L ⟨k, hk, rfl, hf, rfl, rfl⟩
  simp only [ir_chaseref1_DomainsFault_L0, ZZ, FnG_some, IsnK_some, Za, Zb, Zc, Zd, Ze, Zf, Zg, Zh, rd, AV.un, AV.unA, AV.ad, Zi, Zj, Zk, Zl, Zm, Zn, Zo, Zp, Zq, Zr, Zs, Zt, Zu, Zv, Zw, Zx, Zy, Zz, Zaa, Zab, Zac, Zad, Zae, Zaf, Zag, Zah, Zai, Zaj, Zak, Zal, Zam, Zan, wk1, wk, Zao, Zap, Zaq, Zar, Zas, Zat, Zau, Zav, AV.kill, AO.kill, AV.thaw, AO.thaw, Zaw, Zax, Zay, Zaz, Zba, Zbb, Zbc, Zbd, Zbe, ite_true, ite_false, reduceCtorEq, Nat.reduceAdd, Nat.reduceMul, Nat.reduceLeDiff, Nat.reduceLT, Nat.reduceEqDiff, forall_const]
  refine br ?_ ?_
  · intro h
    have hlt : k < l.length := by have := of_decide_eq_true h; omega
    obtain ⟨x, hx⟩ : ∃ x, l[k]? = some x := ⟨_, List.getElem?_eq_getElem hlt⟩
    have hg := parE_get hx
    have hxd : l.getD k p00 = x := by simp [List.getD, hx]
    have hbx := hb x (List.mem_of_getElem? hx)
    have hd := hget hlt
    have he : domainE l k = firstE [whenE (!mailF (xAt x.1)) 3, whenE (twiceB l k) 6, kindE x] := by rw [domainE, hxd]
    simp only [ZZ, FnG_some, IsnK_some, Za, Zb, Zc, Zd, Ze, Zf, Zg, Zh, rd, AV.un, AV.unA, AV.ad, Zi, Zj, Zk, Zl, Zm, Zn, Zo, Zp, Zq, Zr, Zs, Zt, Zu, Zv, Zw, Zx, Zy, Zz, Zaa, Zab, Zac, Zad, Zae, Zaf, Zag, Zah, Zai, Zaj, Zak, Zal, Zam, Zan, wk1, wk, Zao, Zap, Zaq, Zar, Zas, Zat, Zau, Zav, AV.kill, AO.kill, AV.thaw, AO.thaw, Zaw, Zax, Zay, Zaz, Zba, Zbb, Zbc, Zbd, Zbe, ite_true, ite_false, reduceCtorEq, Nat.reduceAdd, Nat.reduceMul, Nat.reduceLeDiff, Nat.reduceLT, Nat.reduceEqDiff, forall_const, hg, parE_len]
    ((repeat' (with_reducible apply And.intro)) <;> try (first | (simp; omega) | (first | first | assumption | trivial | exact (fun hq => by rw [hq]; rfl) | exact i64_of (by omega) (by omega) | omega | (simp; done) | (simp; omega) | (intro hsc; have hs0 := hsc; (try have hsd := of_decide_eq_true hsc); (try simp only [Bool.not_eq_true', Bool.or_eq_false_iff, Bool.and_eq_true, Bool.or_eq_true, decide_eq_true_eq, decide_eq_false_iff_not] at hsc); (repeat' (with_reducible apply And.intro)) <;> (first | assumption | trivial | exact (fun hq => by rw [hq]; rfl) | exact i64_of (by omega) (by omega) | omega | (simp; done) | (simp; omega) | (intro hse; simp [hse, hs0]; done) | (intro hse; simp only [hse, hs0, Bool.true_and, Bool.and_true, Bool.not_false, Bool.not_true, Bool.and_self]; done))))))
    refine use1 (MailOf_ok (xAt x.1) (by simp [xAt]; omega)) rfl (.inl rfl) ?_
    simp only [ZZ, FnG_some, IsnK_some, Za, Zb, Zc, Zd, Ze, Zf, Zg, Zh, rd, AV.un, AV.unA, AV.ad, Zi, Zj, Zk, Zl, Zm, Zn, Zo, Zp, Zq, Zr, Zs, Zt, Zu, Zv, Zw, Zx, Zy, Zz, Zaa, Zab, Zac, Zad, Zae, Zaf, Zag, Zah, Zai, Zaj, Zak, Zal, Zam, Zan, wk1, wk, Zao, Zap, Zaq, Zar, Zas, Zat, Zau, Zav, AV.kill, AO.kill, AV.thaw, AO.thaw, Zaw, Zax, Zay, Zaz, Zba, Zbb, Zbc, Zbd, Zbe, ite_true, ite_false, reduceCtorEq, Nat.reduceAdd, Nat.reduceMul, Nat.reduceLeDiff, Nat.reduceLT, Nat.reduceEqDiff, forall_const]
    refine br ?_ ?_
    · intro hm
      have hm : mailF (xAt x.1) = false := by rwa [Bool.not_eq_true'] at hm
      have he : domainE l k = 3 := by rw [he, hm]; rfl
      simp only [ZZ, FnG_some, IsnK_some, Za, Zb, Zc, Zd, Ze, Zf, Zg, Zh, rd, AV.un, AV.unA, AV.ad, Zi, Zj, Zk, Zl, Zm, Zn, Zo, Zp, Zq, Zr, Zs, Zt, Zu, Zv, Zw, Zx, Zy, Zz, Zaa, Zab, Zac, Zad, Zae, Zaf, Zag, Zah, Zai, Zaj, Zak, Zal, Zam, Zan, wk1, wk, Zao, Zap, Zaq, Zar, Zas, Zat, Zau, Zav, AV.kill, AO.kill, AV.thaw, AO.thaw, Zaw, Zax, Zay, Zaz, Zba, Zbb, Zbc, Zbd, Zbe, ite_true, ite_false, reduceCtorEq, Nat.reduceAdd, Nat.reduceMul, Nat.reduceLeDiff, Nat.reduceLT, Nat.reduceEqDiff, forall_const]
      rw [hf, hd, he]
      rfl
    intro hm
    have hm : mailF (xAt x.1) = true := by rwa [Bool.not_eq_false'] at hm
    have htk : (parE l).take k = parE (l.take k) := by simp [parE, List.map_take]
    simp only [ZZ, FnG_some, IsnK_some, Za, Zb, Zc, Zd, Ze, Zf, Zg, Zh, rd, AV.un, AV.unA, AV.ad, Zi, Zj, Zk, Zl, Zm, Zn, Zo, Zp, Zq, Zr, Zs, Zt, Zu, Zv, Zw, Zx, Zy, Zz, Zaa, Zab, Zac, Zad, Zae, Zaf, Zag, Zah, Zai, Zaj, Zak, Zal, Zam, Zan, wk1, wk, Zao, Zap, Zaq, Zar, Zas, Zat, Zau, Zav, AV.kill, AO.kill, AV.thaw, AO.thaw, Zaw, Zax, Zay, Zaz, Zba, Zbb, Zbc, Zbd, Zbe, ite_true, ite_false, reduceCtorEq, Nat.reduceAdd, Nat.reduceMul, Nat.reduceLeDiff, Nat.reduceLT, Nat.reduceEqDiff, forall_const, parE_len, htk]
    refine ⟨⟨by omega, by omega⟩, ?_⟩
    refine use1 (ContainsFuncD_ok (l.take k) 82 [.ptr (par x)] (fun p => decide (p.1 = x.1)) (by simp; omega) (fun _ => by kernel_rfl) rfl (fun y _ => DomainsFault1_ok y x) (fun _ => rfl) (fun _ => rfl)) rfl (.inr rfl) ?_
    have htw : (l.take k).any (fun p => decide (p.1 = x.1)) = twiceB l k := by rw [twiceB, hxd]
    rw [htw]
    simp only [ZZ, FnG_some, IsnK_some, Za, Zb, Zc, Zd, Ze, Zf, Zg, Zh, rd, AV.un, AV.unA, AV.ad, Zi, Zj, Zk, Zl, Zm, Zn, Zo, Zp, Zq, Zr, Zs, Zt, Zu, Zv, Zw, Zx, Zy, Zz, Zaa, Zab, Zac, Zad, Zae, Zaf, Zag, Zah, Zai, Zaj, Zak, Zal, Zam, Zan, wk1, wk, Zao, Zap, Zaq, Zar, Zas, Zat, Zau, Zav, AV.kill, AO.kill, AV.thaw, AO.thaw, Zaw, Zax, Zay, Zaz, Zba, Zbb, Zbc, Zbd, Zbe, ite_true, ite_false, reduceCtorEq, Nat.reduceAdd, Nat.reduceMul, Nat.reduceLeDiff, Nat.reduceLT, Nat.reduceEqDiff, forall_const]
    refine br ?_ ?_
    · intro ho
      have he : domainE l k = 6 := by rw [he, hm, ho]; rfl
      simp only [ZZ, FnG_some, IsnK_some, Za, Zb, Zc, Zd, Ze, Zf, Zg, Zh, rd, AV.un, AV.unA, AV.ad, Zi, Zj, Zk, Zl, Zm, Zn, Zo, Zp, Zq, Zr, Zs, Zt, Zu, Zv, Zw, Zx, Zy, Zz, Zaa, Zab, Zac, Zad, Zae, Zaf, Zag, Zah, Zai, Zaj, Zak, Zal, Zam, Zan, wk1, wk, Zao, Zap, Zaq, Zar, Zas, Zat, Zau, Zav, AV.kill, AO.kill, AV.thaw, AO.thaw, Zaw, Zax, Zay, Zaz, Zba, Zbb, Zbc, Zbd, Zbe, ite_true, ite_false, reduceCtorEq, Nat.reduceAdd, Nat.reduceMul, Nat.reduceLeDiff, Nat.reduceLT, Nat.reduceEqDiff, forall_const]
      rw [hf, hd, he]
      rfl
    intro ho
    have he : domainE l k = kindE x := by rw [he, hm, ho]; simp [firstE, whenE]; exact fun h => h.symm
    simp only [ZZ, FnG_some, IsnK_some, Za, Zb, Zc, Zd, Ze, Zf, Zg, Zh, rd, AV.un, AV.unA, AV.ad, Zi, Zj, Zk, Zl, Zm, Zn, Zo, Zp, Zq, Zr, Zs, Zt, Zu, Zv, Zw, Zx, Zy, Zz, Zaa, Zab, Zac, Zad, Zae, Zaf, Zag, Zah, Zai, Zaj, Zak, Zal, Zam, Zan, wk1, wk, Zao, Zap, Zaq, Zar, Zas, Zat, Zau, Zav, AV.kill, AO.kill, AV.thaw, AO.thaw, Zaw, Zax, Zay, Zaz, Zba, Zbb, Zbc, Zbd, Zbe, ite_true, ite_false, reduceCtorEq, Nat.reduceAdd, Nat.reduceMul, Nat.reduceLeDiff, Nat.reduceLT, Nat.reduceEqDiff, forall_const]
    ((repeat' (with_reducible apply And.intro)) <;> try ((first | first | assumption | trivial | exact (fun hq => by rw [hq]; rfl) | exact i64_of (by omega) (by omega) | omega | (simp; done) | (simp; omega) | (intro hsc; have hs0 := hsc; (try have hsd := of_decide_eq_true hsc); (try simp only [Bool.not_eq_true', Bool.or_eq_false_iff, Bool.and_eq_true, Bool.or_eq_true, decide_eq_true_eq, decide_eq_false_iff_not] at hsc); (repeat' (with_reducible apply And.intro)) <;> (first | assumption | trivial | exact (fun hq => by rw [hq]; rfl) | exact i64_of (by omega) (by omega) | omega | (simp; done) | (simp; omega) | (intro hse; simp [hse, hs0]; done) | (intro hse; simp only [hse, hs0, Bool.true_and, Bool.and_true, Bool.not_false, Bool.not_true, Bool.and_self]; done))))))
    rw [kind_if]
    refine br ?_ ?_
    · intro hk
      have he : domainE l k = 4 := by rw [he, kindE, kindB, whenE, if_pos hk]
      simp only [ZZ, FnG_some, IsnK_some, Za, Zb, Zc, Zd, Ze, Zf, Zg, Zh, rd, AV.un, AV.unA, AV.ad, Zi, Zj, Zk, Zl, Zm, Zn, Zo, Zp, Zq, Zr, Zs, Zt, Zu, Zv, Zw, Zx, Zy, Zz, Zaa, Zab, Zac, Zad, Zae, Zaf, Zag, Zah, Zai, Zaj, Zak, Zal, Zam, Zan, wk1, wk, Zao, Zap, Zaq, Zar, Zas, Zat, Zau, Zav, AV.kill, AO.kill, AV.thaw, AO.thaw, Zaw, Zax, Zay, Zaz, Zba, Zbb, Zbc, Zbd, Zbe, ite_true, ite_false, reduceCtorEq, Nat.reduceAdd, Nat.reduceMul, Nat.reduceLeDiff, Nat.reduceLT, Nat.reduceEqDiff, forall_const]
      rw [hf, hd, he]
      rfl
    · intro hk
      have he : domainE l k = 0 := by rw [he, kindE, kindB, whenE, if_neg (by rw [hk]; simp)]
      simp only [ZZ, FnG_some, IsnK_some, Za, Zb, Zc, Zd, Ze, Zf, Zg, Zh, rd, AV.un, AV.unA, AV.ad, Zi, Zj, Zk, Zl, Zm, Zn, Zo, Zp, Zq, Zr, Zs, Zt, Zu, Zv, Zw, Zx, Zy, Zz, Zaa, Zab, Zac, Zad, Zae, Zaf, Zag, Zah, Zai, Zaj, Zak, Zal, Zam, Zan, wk1, wk, Zao, Zap, Zaq, Zar, Zas, Zat, Zau, Zav, AV.kill, AO.kill, AV.thaw, AO.thaw, Zaw, Zax, Zay, Zaz, Zba, Zbb, Zbc, Zbd, Zbe, ite_true, ite_false, reduceCtorEq, Nat.reduceAdd, Nat.reduceMul, Nat.reduceLeDiff, Nat.reduceLT, Nat.reduceEqDiff, forall_const]
      refine ⟨i64_of (by omega) (by omega), ?_⟩
      refine end_round (l.length - (k + 1)) [.p (.sl 3 (parE l)), .any, .any, .any, .any, .any, .any, .any, .p (.sl 3 (parE l)), .p (int (l.length : Nat)), .p (int ((k + 1) : Nat)), .any, .any, .any, .any, .any, .any, .any, .any, .any, .any, .any, .any, .any, .any, .any, .any, .any, .any, .any, .any, .any, .any, .any, .any, .any, .any, .any, .any, .any, .any, .any, .any, .any, .any, .any, .any] [] (by omega) (by (simp only [ZZ, FnG_some, IsnK_some, Za, Zb, Zc, Zd, Ze, Zf, Zg, Zh, rd, AV.un, AV.unA, AV.ad, Zi, Zj, Zk, Zl, Zm, Zn, Zo, Zp, Zq, Zr, Zs, Zt, Zu, Zv, Zw, Zx, Zy, Zz, Zaa, Zab, Zac, Zad, Zae, Zaf, Zag, Zah, Zai, Zaj, Zak, Zal, Zam, Zan, wk1, wk, Zao, Zap, Zaq, Zar, Zas, Zat, Zau, Zav, AV.kill, AO.kill, AV.thaw, AO.thaw, Zaw, Zax, Zay, Zaz, Zba, Zbb, Zbc, Zbd, Zbe, ite_true, ite_false, reduceCtorEq, Nat.reduceAdd, Nat.reduceMul, Nat.reduceLeDiff, Nat.reduceLT, Nat.reduceEqDiff, forall_const]; try trivial)) (by (simp only [ZZ, FnG_some, IsnK_some, Za, Zb, Zc, Zd, Ze, Zf, Zg, Zh, rd, AV.un, AV.unA, AV.ad, Zi, Zj, Zk, Zl, Zm, Zn, Zo, Zp, Zq, Zr, Zs, Zt, Zu, Zv, Zw, Zx, Zy, Zz, Zaa, Zab, Zac, Zad, Zae, Zaf, Zag, Zah, Zai, Zaj, Zak, Zal, Zam, Zan, wk1, wk, Zao, Zap, Zaq, Zar, Zas, Zat, Zau, Zav, AV.kill, AO.kill, AV.thaw, AO.thaw, Zaw, Zax, Zay, Zaz, Zba, Zbb, Zbc, Zbd, Zbe, ite_true, ite_false, reduceCtorEq, Nat.reduceAdd, Nat.reduceMul, Nat.reduceLeDiff, Nat.reduceLT, Nat.reduceEqDiff, forall_const]; try trivial)) ⟨k + 1, by omega, rfl, by rw [hf, hd, if_pos he], rfl, rfl⟩
  · intro h
    have hge : l.length ≤ k := by have := of_decide_eq_false h; omega
    simp only [ZZ, FnG_some, IsnK_some, Za, Zb, Zc, Zd, Ze, Zf, Zg, Zh, rd, AV.un, AV.unA, AV.ad, Zi, Zj, Zk, Zl, Zm, Zn, Zo, Zp, Zq, Zr, Zs, Zt, Zu, Zv, Zw, Zx, Zy, Zz, Zaa, Zab, Zac, Zad, Zae, Zaf, Zag, Zah, Zai, Zaj, Zak, Zal, Zam, Zan, wk1, wk, Zao, Zap, Zaq, Zar, Zas, Zat, Zau, Zav, AV.kill, AO.kill, AV.thaw, AO.thaw, Zaw, Zax, Zay, Zaz, Zba, Zbb, Zbc, Zbd, Zbe, ite_true, ite_false, reduceCtorEq, Nat.reduceAdd, Nat.reduceMul, Nat.reduceLeDiff, Nat.reduceLT, Nat.reduceEqDiff, forall_const]
    rw [hf, List.drop_eq_nil_of_le (by omega)]
    rfl
end Go.Proofs.YtndjmidmfmcbkaaGreatDoor

/- The party with an address, by binary search. -/
namespace Go.Proofs.YtndjmidmfmcbkaaGreatDoor
open Go.RowKit
set_option linter.unusedVariables false
set_option linter.unusedSimpArgs false
set_option linter.defProp false

/- paperchase/privilege.RoleOf -/
def ir_privilege_RoleOf : IC :=
  (.seq (.reg [⟨some 4, .alc 36 [.str [], .int .i64 0, .int .i64 0], none⟩,
      ⟨some 5, .mov (.c (.bool false)), none⟩,
      ⟨some 6, .mov (.c (.int .i64 0)), none⟩])
    (.seq (.seq (.reg [⟨some 10, .mov (.t 0), none⟩,
      ⟨some 11, .call 11 [.t 10], none⟩,
      ⟨some 12, .mov (.t 1), none⟩,
      ⟨some 13, .call 77 [.t 12], none⟩,
      ⟨some 14, .bsl 1 [.t 11, .t 13], none⟩,
      ⟨some 15, .call 73 [.t 14], none⟩,
      ⟨some 7, .mov (.t 15), none⟩])
    (.seq (.reg [⟨some 16, .mov (.t 7), none⟩,
      ⟨some 17, .bin .neq (.t 16) (.c (.int .i64 0)), none⟩])
    (.cond (.t 17) (.seq (.reg [⟨some 18, .bld [.str [], .int .i64 0, .int .i64 0] [], none⟩,
      ⟨some 19, .mov (.t 7), none⟩,
      ⟨none, .st 3 (.t 4) (.t 18), none⟩,
      ⟨some 5, .mov (.c (.bool false)), none⟩,
      ⟨some 6, .mov (.t 19), none⟩])
    .ret) .skip)))
    (.seq (.reg [⟨some 21, .mov (.t 0), none⟩,
      ⟨some 22, .mov (.t 1), none⟩,
      ⟨some 23, .call 78 [.t 21, .t 22], none⟩,
      ⟨some 20, .mov (.t 23), none⟩,
      ⟨some 24, .ext 0 (.t 20), none⟩,
      ⟨some 25, .ext 1 (.t 20), none⟩,
      ⟨some 8, .alc 36 [.str [], .int .i64 0, .int .i64 0], none⟩,
      ⟨none, .st 3 (.t 8) (.t 24), none⟩,
      ⟨some 9, .mov (.t 25), none⟩])
    (.seq (.reg [⟨some 26, .ld 3 true (.t 8), none⟩,
      ⟨some 27, .mov (.t 9), none⟩,
      ⟨none, .st 3 (.t 4) (.t 26), none⟩,
      ⟨some 5, .mov (.t 27), none⟩,
      ⟨some 6, .mov (.c (.int .i64 0)), none⟩])
    .ret))))
def rs_privilege_RoleOf : List IRes := [.c 4 3 true, .t 5, .t 6]
theorem ck_privilege_RoleOf : chkF Tryz.prog Tryz.f13 ir_privilege_RoleOf rs_privilege_RoleOf 28 = true := by kernel_rfl
/- paperchase/privilege.role$1 -/
def ir_privilege_role_1 : IC :=
  (.seq (.reg [⟨some 2, .box 36 (.t 0), none⟩,
      ⟨some 4, .mov (.c (.int .i64 0)), none⟩])
    (.seq (.reg [⟨some 5, .fla 0 (.t 2), none⟩,
      ⟨some 6, .ld 1 false (.t 5), none⟩,
      ⟨some 7, .mov (.t 1), none⟩,
      ⟨some 8, .call 155 [.t 6, .t 7], none⟩,
      ⟨some 4, .mov (.t 8), none⟩])
    .ret))
def rs_privilege_role_1 : List IRes := [.t 4]
theorem ck_privilege_role_1 : chkF Tryz.prog Tryz.f154 ir_privilege_role_1 rs_privilege_role_1 9 = true := by kernel_rfl
/- slices.BinarySearchFunc[[]paperchase/api.Party,paperchase/api.Party,string] -/
def ir_slices_BinarySearchFunc_api_Party_api_Party_string_L0 : IC :=
  (.seq (.seq (.reg [⟨some 15, .mov (.t 9), none⟩,
      ⟨some 16, .mov (.t 10), none⟩,
      ⟨some 17, .bin .lss (.t 15) (.t 16), none⟩])
    (.cond (.t 17) .skip (.exit 0)))
    (.block 1 (.seq (.reg [⟨some 18, .mov (.t 9), none⟩,
      ⟨some 19, .mov (.t 10), none⟩,
      ⟨some 20, .bin .add (.t 18) (.t 19), none⟩,
      ⟨some 21, .cvi .u64 (.t 20), none⟩,
      ⟨some 22, .bin .shr (.t 21) (.c (.int .u64 1)), none⟩,
      ⟨some 23, .cvi .i64 (.t 22), none⟩,
      ⟨some 11, .mov (.t 23), none⟩])
    (.seq (.reg [⟨some 24, .mov (.t 2), none⟩,
      ⟨some 25, .mov (.t 0), none⟩,
      ⟨some 26, .mov (.t 11), none⟩,
      ⟨some 27, .ixa 3 (.t 25) (.t 26), none⟩,
      ⟨some 28, .ld 3 true (.t 27), none⟩,
      ⟨some 29, .mov (.t 1), none⟩,
      ⟨some 30, .callv (.t 24) [.t 28, .t 29], none⟩,
      ⟨some 31, .bin .lss (.t 30) (.c (.int .i64 0)), none⟩])
    (.cond (.t 31) (.reg [⟨some 32, .mov (.t 11), none⟩,
      ⟨some 33, .bin .add (.t 32) (.c (.int .i64 1)), none⟩,
      ⟨some 9, .mov (.t 33), none⟩]) (.reg [⟨some 34, .mov (.t 11), none⟩,
      ⟨some 10, .mov (.t 34), none⟩]))))))
def ir_slices_BinarySearchFunc_api_Party_api_Party_string : IC :=
  (.seq (.reg [⟨some 6, .mov (.c (.int .i64 0)), none⟩,
      ⟨some 7, .mov (.c (.bool false)), none⟩])
    (.seq (.reg [⟨some 12, .mov (.t 0), none⟩,
      ⟨some 13, .len (.t 12), none⟩,
      ⟨some 8, .mov (.t 13), none⟩])
    (.seq (.reg [⟨some 14, .mov (.t 8), none⟩,
      ⟨some 9, .mov (.c (.int .i64 0)), none⟩,
      ⟨some 10, .mov (.t 14), none⟩])
    (.seq (.block 0 (.loop ir_slices_BinarySearchFunc_api_Party_api_Party_string_L0))
    (.seq (.reg [⟨some 35, .mov (.t 9), none⟩,
      ⟨some 36, .mov (.t 9), none⟩,
      ⟨some 37, .mov (.t 8), none⟩,
      ⟨some 38, .bin .lss (.t 36) (.t 37), none⟩,
      ⟨some 39, .mov (.t 38), none⟩,
      ⟨some 40, .mov (.t 2), (some (39, true))⟩,
      ⟨some 41, .mov (.t 0), (some (39, true))⟩,
      ⟨some 42, .mov (.t 9), (some (39, true))⟩,
      ⟨some 43, .ixa 3 (.t 41) (.t 42), (some (39, true))⟩,
      ⟨some 44, .ld 3 true (.t 43), (some (39, true))⟩,
      ⟨some 45, .mov (.t 1), (some (39, true))⟩,
      ⟨some 46, .callv (.t 40) [.t 44, .t 45], (some (39, true))⟩,
      ⟨some 47, .bin .eql (.t 46) (.c (.int .i64 0)), (some (39, true))⟩,
      ⟨some 48, .pick (.t 39) (.t 47) (.c (.bool false)), none⟩,
      ⟨some 6, .mov (.t 35), none⟩,
      ⟨some 7, .mov (.t 48), none⟩])
    .ret)))))
def rs_slices_BinarySearchFunc_api_Party_api_Party_string : List IRes := [.t 6, .t 7]
theorem ck_slices_BinarySearchFunc_api_Party_api_Party_string : chkF Tryz.prog Tryz.f153 ir_slices_BinarySearchFunc_api_Party_api_Party_string rs_slices_BinarySearchFunc_api_Party_api_Party_string 49 = true := by kernel_rfl
/- paperchase/privilege.role -/
def ir_privilege_role : IC :=
  (.seq (.reg [⟨some 4, .alc 36 [.str [], .int .i64 0, .int .i64 0], none⟩,
      ⟨some 5, .mov (.c (.bool false)), none⟩])
    (.seq (.reg [⟨some 9, .mov (.t 0), none⟩,
      ⟨some 10, .mov (.t 1), none⟩,
      ⟨some 11, .call 153 [.t 9, .t 10, .f 154], none⟩,
      ⟨some 8, .mov (.t 11), none⟩,
      ⟨some 12, .ext 0 (.t 8), none⟩,
      ⟨some 13, .ext 1 (.t 8), none⟩,
      ⟨some 6, .mov (.t 12), none⟩,
      ⟨some 7, .mov (.t 13), none⟩])
    (.seq (.seq (.reg [⟨some 14, .mov (.t 7), none⟩,
      ⟨some 15, .not (.t 14), none⟩])
    (.cond (.t 15) (.seq (.reg [⟨some 16, .bld [.str [], .int .i64 0, .int .i64 0] [], none⟩,
      ⟨none, .st 3 (.t 4) (.t 16), none⟩,
      ⟨some 5, .mov (.c (.bool false)), none⟩])
    .ret) .skip))
    (.seq (.reg [⟨some 17, .mov (.t 0), none⟩,
      ⟨some 18, .mov (.t 6), none⟩,
      ⟨some 19, .ixa 3 (.t 17) (.t 18), none⟩,
      ⟨some 20, .ld 3 true (.t 19), none⟩,
      ⟨none, .st 3 (.t 4) (.t 20), none⟩,
      ⟨some 5, .mov (.c (.bool true)), none⟩])
    .ret))))
def rs_privilege_role : List IRes := [.c 4 3 true, .t 5]
theorem ck_privilege_role : chkF Tryz.prog Tryz.f78 ir_privilege_role rs_privilege_role 21 = true := by kernel_rfl


abbrev cb := Lib.compareBytes
abbrev fRole : FuncId := 154
theorem u8_lt {a b : UInt8} : (a < b) = (a.toNat < b.toNat) := by rw [UInt8.lt_iff_toNat_lt]
theorem u8_eq {a b : UInt8} (h : a.toNat = b.toNat) : a = b := UInt8.toNat.inj h
theorem cb_swap : ∀ a b : List UInt8, cb a b = - cb b a
  | [], [] => rfl
  | [], _ :: _ => rfl
  | _ :: _, [] => rfl
  | a :: xs, b :: bs => by
    have ih := cb_swap xs bs
    simp only [cb, Lib.compareBytes, u8_lt] at ih ⊢
    split
    · rw [if_neg (by omega)]; try (split <;> first | rfl | omega)
    · split
      · rfl
      · exact ih
theorem cb_zero : ∀ a b : List UInt8, cb a b = 0 ↔ a = b
  | [], [] => by simp [cb, Lib.compareBytes]
  | [], _ :: _ => by simp [cb, Lib.compareBytes]
  | _ :: _, [] => by simp [cb, Lib.compareBytes]
  | a :: xs, b :: bs => by
    have ih := cb_zero xs bs
    simp only [cb, Lib.compareBytes, u8_lt] at ih ⊢
    split
    · rename_i h; constructor
      · intro e; omega
      · intro e; cases e; omega
    · split
      · rename_i h; constructor
        · intro e; omega
        · intro e; cases e; omega
      · rename_i h1 h2
        have : a = b := u8_eq (by omega)
        rw [ih, this]
        simp
theorem cb_less : ∀ a b : List UInt8, bytesLess a b = decide (cb a b < 0)
  | [], [] => by simp [cb, Lib.compareBytes, bytesLess, Op.bytesLess]
  | [], _ :: _ => by simp [cb, Lib.compareBytes, bytesLess, Op.bytesLess]
  | _ :: _, [] => by simp [cb, Lib.compareBytes, bytesLess, Op.bytesLess]
  | a :: xs, b :: bs => by
    have ih := cb_less xs bs
    simp only [bytesLess] at ih
    simp only [cb, Lib.compareBytes, bytesLess, Op.bytesLess, ih]
    by_cases h : a < b
    · simp [h]
    · by_cases h2 : b < a
      · have : ¬ a = b := by intro e; subst e; exact h h2
        simp [h, h2, this]
      · have : a = b := u8_eq (by rw [u8_lt] at h h2; omega)
        subst this
        simp [h]
theorem cb_trans : ∀ {a b c : List UInt8}, cb a b < 0 → cb b c < 0 → cb a c < 0
  | [], [], _, h, _ => by simp [cb, Lib.compareBytes] at h
  | [], _ :: _, [], _, h => by simp [cb, Lib.compareBytes] at h
  | [], _ :: _, _ :: _, _, _ => by simp [cb, Lib.compareBytes]
  | _ :: _, [], _, h, _ => by simp [cb, Lib.compareBytes] at h
  | _ :: _, _ :: _, [], _, h => by simp [cb, Lib.compareBytes] at h
  | a :: xs, b :: bs, c :: cs, h1, h2 => by
    have ih := @cb_trans xs bs cs
    simp only [cb, Lib.compareBytes, u8_lt] at ih h1 h2 ⊢
    split
    · omega
    · split at h1
      · split at h2
        · omega
        · split at h2
          · omega
          · omega
      · split at h1
        · omega
        · split at h2
          · omega
          · split at h2
            · omega
            · rw [if_neg (by omega)]
              exact ih h1 h2
def SortedP (l : List Par) : Prop := ∀ (i j : Nat) (p q : Par), i < j → l[i]? = some p → l[j]? = some q → cb p.1 q.1 < 0
theorem firstE_zero : ∀ {l : List Int}, firstE l = 0 → ∀ x ∈ l, x = 0
  | [], _, x, hx => by cases hx
  | e :: r, h, x, hx => by
    simp only [firstE] at h
    split at h
    · rename_i he
      rcases List.mem_cons.1 hx with rfl | hx
      · exact he
      · exact firstE_zero h x hx
    · rename_i he; exact absurd h he
theorem people_each {l : List Par} (h : peopleF l = 0) : l.length ≤ 200 ∧ ∀ k, k < l.length → peopleE l k = 0 := by
  unfold peopleF at h
  split at h
  · cases h
  · exact ⟨by omega, fun k hk => firstE_zero h _ (List.mem_of_getElem? (tabE_get (peopleE l) hk))⟩
theorem whenE_zero {b : Bool} {e : Int} (he : e ≠ 0) (h : whenE b e = 0) : b = false := by
  unfold whenE at h
  cases b
  · rfl
  · simp at h; exact absurd h he
theorem people_sorted {l : List Par} (h : peopleF l = 0) : SortedP l := by
  obtain ⟨_, hE⟩ := people_each h
  have adj : ∀ k p q, l[k]? = some p → l[k + 1]? = some q → cb p.1 q.1 < 0 := by
    intro k p q hp hq
    have hk : k + 1 < l.length := (List.getElem?_eq_some_iff.1 hq).1
    have h1 := hE (k + 1) hk
    have h2 := whenE_zero (by decide) (firstE_zero h1 (whenE (ordB l (k + 1)) 7) (by simp))
    simp only [ordB, leS, List.getD, hq, Nat.add_sub_cancel, hp, Option.getD_some] at h2
    rw [cb_less] at h2
    simp at h2
    have h3 := cb_swap q.1 p.1
    have h4 := cb_zero q.1 p.1
    have : cb q.1 p.1 ≠ 0 := fun e => h2.2 (h4.1 e)
    have h5 : 0 ≤ cb q.1 p.1 := h2.1
    omega
  unfold SortedP
  intro i j p q hij
  induction j generalizing q with
  | zero => omega
  | succ j ih =>
    intro hp hq
    by_cases e : i = j
    · subst e; exact adj i p q hp hq
    · have hj : j < l.length := by have := (List.getElem?_eq_some_iff.1 hq).1; omega
      obtain ⟨r, hr⟩ : ∃ r, l[j]? = some r := ⟨_, List.getElem?_eq_getElem hj⟩
      exact cb_trans (ih r (by omega) hp hr) (adj j r q hr hq)
theorem role1_ok {E : Envt} (x : Par) (m : List UInt8) : PCall Tryz.prog E 154 [.agg (par x), .str m] (· = int (cb x.1 m)) := by
  simp only [par]
  refine pcallF mixed Tryz.func154 ck_privilege_role_1 ?_
  simp only [a0, l0, OS.ao, List.map_cons, List.map_nil, List.length_cons, List.length_nil, List.cons_append, List.nil_append, Nat.reduceSub, Nat.reduceAdd, List.replicate_succ, List.replicate_zero, ir_privilege_role_1, rs_privilege_role_1, ZZ, FnG_some, IsnK_some, Za, Zb, Zc, Zd, Ze, Zf, Zg, Zh, rd, AV.un, AV.unA, AV.ad, Zi, Zj, Zk, Zl, Zm, Zn, Zo, Zp, Zq, Zr, Zs, Zt, Zu, Zv, Zw, Zx, Zy, Zz, Zaa, Zab, Zac, Zad, Zae, Zaf, Zag, Zah, Zai, Zaj, Zak, Zal, Zam, Zan, wk1, wk, Zao, Zap, Zaq, Zar, Zas, Zat, Zau, Zav, AV.kill, AO.kill, AV.thaw, AO.thaw, Zaw, Zax, Zay, Zaz, Zba, Zbb, Zbc, Zbd, Zbe, ite_true, ite_false, reduceCtorEq, Nat.reduceAdd, Nat.reduceMul, Nat.reduceLeDiff, Nat.reduceLT, Nat.reduceEqDiff, forall_const]
  refine use1 (Compare_ok x.1 m) rfl (.inl rfl) ?_
  simp only [ZZ, FnG_some, IsnK_some, Za, Zb, Zc, Zd, Ze, Zf, Zg, Zh, rd, AV.un, AV.unA, AV.ad, Zi, Zj, Zk, Zl, Zm, Zn, Zo, Zp, Zq, Zr, Zs, Zt, Zu, Zv, Zw, Zx, Zy, Zz, Zaa, Zab, Zac, Zad, Zae, Zaf, Zag, Zah, Zai, Zaj, Zak, Zal, Zam, Zan, wk1, wk, Zao, Zap, Zaq, Zar, Zas, Zat, Zau, Zav, AV.kill, AO.kill, AV.thaw, AO.thaw, Zaw, Zax, Zay, Zaz, Zba, Zbb, Zbc, Zbd, Zbe, ite_true, ite_false, reduceCtorEq, Nat.reduceAdd, Nat.reduceMul, Nat.reduceLeDiff, Nat.reduceLT, Nat.reduceEqDiff, forall_const]
set_option maxRecDepth 100000 in
theorem BSearch_ok {E : Envt} (l : List Par) (m : List UInt8) (hl : l.length ≤ 1000000) (hs : SortedP l) : PCall Tryz.prog E 153 [.sl 3 (parE l), .str m, .clo fRole []] (fun y => ∃ (i : Nat) (b : Bool), y = .tup [int i, .bool b] ∧ (b = true → ∃ p, l[i]? = some p ∧ p.1 = m) ∧ (b = false → ∀ p ∈ l, p.1 ≠ m)) := by
  have hfn : fnB Tryz.prog fRole = true := by kernel_rfl
  refine pcallF mixed Tryz.func153 ck_slices_BinarySearchFunc_api_Party_api_Party_string ?_
  simp only [a0, l0, OS.ao, List.map_cons, List.map_nil, List.length_cons, List.length_nil, List.cons_append, List.nil_append, Nat.reduceSub, Nat.reduceAdd, List.replicate_succ, List.replicate_zero, ir_slices_BinarySearchFunc_api_Party_api_Party_string, rs_slices_BinarySearchFunc_api_Party_api_Party_string, ZZ, FnG_some, IsnK_some, Za, Zb, Zc, Zd, Ze, Zf, Zg, Zh, rd, AV.un, AV.unA, AV.ad, Zi, Zj, Zk, Zl, Zm, Zn, Zo, Zp, Zq, Zr, Zs, Zt, Zu, Zv, Zw, Zx, Zy, Zz, Zaa, Zab, Zac, Zad, Zae, Zaf, Zag, Zah, Zai, Zaj, Zak, Zal, Zam, Zan, wk1, wk, Zao, Zap, Zaq, Zar, Zas, Zat, Zau, Zav, AV.kill, AO.kill, AV.thaw, AO.thaw, Zaw, Zax, Zay, Zaz, Zba, Zbb, Zbc, Zbd, Zbe, ite_true, ite_false, reduceCtorEq, Nat.reduceAdd, Nat.reduceMul, Nat.reduceLeDiff, Nat.reduceLT, Nat.reduceEqDiff, forall_const]
  simp only [ZZ, FnG_some, IsnK_some, Za, Zb, Zc, Zd, Ze, Zf, Zg, Zh, rd, AV.un, AV.unA, AV.ad, Zi, Zj, Zk, Zl, Zm, Zn, Zo, Zp, Zq, Zr, Zs, Zt, Zu, Zv, Zw, Zx, Zy, Zz, Zaa, Zab, Zac, Zad, Zae, Zaf, Zag, Zah, Zai, Zaj, Zak, Zal, Zam, Zan, wk1, wk, Zao, Zap, Zaq, Zar, Zas, Zat, Zau, Zav, AV.kill, AO.kill, AV.thaw, AO.thaw, Zaw, Zax, Zay, Zaz, Zba, Zbb, Zbc, Zbd, Zbe, ite_true, ite_false, reduceCtorEq, Nat.reduceAdd, Nat.reduceMul, Nat.reduceLeDiff, Nat.reduceLT, Nat.reduceEqDiff, forall_const, parE_len]
  refine loop_intro (fun n fr L => ∃ (i : Nat) (j : Nat), j - i = n ∧ (i ≤ j) ∧ (j ≤ l.length) ∧ (∀ a p, a < i → l[a]? = some p → cb p.1 m < 0) ∧ (∀ a p, j ≤ a → l[a]? = some p → 0 ≤ cb p.1 m) ∧ fr = [.p (.sl 3 (parE l)), .p (.str m), .p (.clo fRole []), .any, .any, .any, .any, .any, .p (int (l.length : Nat)), .p (int (i : Nat)), .p (int (j : Nat)), .any, .any, .any, .any, .any, .any, .any, .any, .any, .any, .any, .any, .any, .any, .any, .any, .any, .any, .any, .any, .any, .any, .any, .any, .any, .any, .any, .any, .any, .any, .any, .any, .any, .any, .any, .any, .any, .any] ∧ L = []) ((l.length) - 0) [.p (.sl 3 (parE l)), .p (.str m), .p (.clo fRole []), .any, .any, .any, .any, .any, .p (int (l.length : Nat)), .p (int (0 : Nat)), .p (int ((l.length) : Nat)), .any, .any, .any, .any, .any, .any, .any, .any, .any, .any, .any, .any, .any, .any, .any, .any, .any, .any, .any, .any, .any, .any, .any, .any, .any, .any, .any, .any, .any, .any, .any, .any, .any, .any, .any, .any, .any, .any] [] (by simp only [ZZ, FnG_some, IsnK_some, Za, Zb, Zc, Zd, Ze, Zf, Zg, Zh, rd, AV.un, AV.unA, AV.ad, Zi, Zj, Zk, Zl, Zm, Zn, Zo, Zp, Zq, Zr, Zs, Zt, Zu, Zv, Zw, Zx, Zy, Zz, Zaa, Zab, Zac, Zad, Zae, Zaf, Zag, Zah, Zai, Zaj, Zak, Zal, Zam, Zan, wk1, wk, Zao, Zap, Zaq, Zar, Zas, Zat, Zau, Zav, AV.kill, AO.kill, AV.thaw, AO.thaw, Zaw, Zax, Zay, Zaz, Zba, Zbb, Zbc, Zbd, Zbe, ite_true, ite_false, reduceCtorEq, Nat.reduceAdd, Nat.reduceMul, Nat.reduceLeDiff, Nat.reduceLT, Nat.reduceEqDiff, forall_const, parE_len]; try trivial) (trivial) ⟨0, l.length, rfl, by omega, by omega, fun a p h => absurd h (by omega), fun a p h hp => absurd (List.getElem?_eq_some_iff.1 hp).1 (by omega), rfl, rfl⟩ ?_
  rintro n fr L ⟨i, j, rfl, hij, hjn, hlo, hhi, rfl, rfl⟩
  simp only [ir_slices_BinarySearchFunc_api_Party_api_Party_string_L0, ZZ, FnG_some, IsnK_some, Za, Zb, Zc, Zd, Ze, Zf, Zg, Zh, rd, AV.un, AV.unA, AV.ad, Zi, Zj, Zk, Zl, Zm, Zn, Zo, Zp, Zq, Zr, Zs, Zt, Zu, Zv, Zw, Zx, Zy, Zz, Zaa, Zab, Zac, Zad, Zae, Zaf, Zag, Zah, Zai, Zaj, Zak, Zal, Zam, Zan, wk1, wk, Zao, Zap, Zaq, Zar, Zas, Zat, Zau, Zav, AV.kill, AO.kill, AV.thaw, AO.thaw, Zaw, Zax, Zay, Zaz, Zba, Zbb, Zbc, Zbd, Zbe, ite_true, ite_false, reduceCtorEq, Nat.reduceAdd, Nat.reduceMul, Nat.reduceLeDiff, Nat.reduceLT, Nat.reduceEqDiff, forall_const]
  refine br ?_ ?_
  · intro h
    have hlt : i < j := by have := of_decide_eq_true h; omega
    have hm : ((IntKind.u64.wrap ((i : Int) + j)).fdiv (2 ^ min (Int.toNat 1) IntKind.u64.bits)) = (((i + j) / 2 : Nat) : Int) := by
      have e1 : IntKind.u64.wrap ((i : Int) + j) = ((i + j : Nat) : Int) := by simp [IntKind.wrap, IntKind.bits, IntKind.signed]; omega
      rw [e1]
      have e2 : (2 : Int) ^ min (Int.toNat 1) IntKind.u64.bits = 2 := by decide
      rw [e2, Int.fdiv_eq_ediv_of_nonneg _ (by omega)]
      omega
    obtain ⟨x, hx⟩ : ∃ x, l[(i + j) / 2]? = some x := ⟨_, List.getElem?_eq_getElem (by omega)⟩
    have hg := parE_get hx
    have hmn : (((((i + j) / 2 : Nat) : Int))).toNat = (i + j) / 2 := by omega
    simp only [ZZ, FnG_some, IsnK_some, Za, Zb, Zc, Zd, Ze, Zf, Zg, Zh, rd, AV.un, AV.unA, AV.ad, Zi, Zj, Zk, Zl, Zm, Zn, Zo, Zp, Zq, Zr, Zs, Zt, Zu, Zv, Zw, Zx, Zy, Zz, Zaa, Zab, Zac, Zad, Zae, Zaf, Zag, Zah, Zai, Zaj, Zak, Zal, Zam, Zan, wk1, wk, Zao, Zap, Zaq, Zar, Zas, Zat, Zau, Zav, AV.kill, AO.kill, AV.thaw, AO.thaw, Zaw, Zax, Zay, Zaz, Zba, Zbb, Zbc, Zbd, Zbe, ite_true, ite_false, reduceCtorEq, Nat.reduceAdd, Nat.reduceMul, Nat.reduceLeDiff, Nat.reduceLT, Nat.reduceEqDiff, forall_const, parE_len, hm]
    generalize hh : (i + j) / 2 = g at *
    have hg1 : i ≤ g := by omega
    have hg2 : g < j := by omega
    simp only [ZZ, FnG_some, IsnK_some, Za, Zb, Zc, Zd, Ze, Zf, Zg, Zh, rd, AV.un, AV.unA, AV.ad, Zi, Zj, Zk, Zl, Zm, Zn, Zo, Zp, Zq, Zr, Zs, Zt, Zu, Zv, Zw, Zx, Zy, Zz, Zaa, Zab, Zac, Zad, Zae, Zaf, Zag, Zah, Zai, Zaj, Zak, Zal, Zam, Zan, wk1, wk, Zao, Zap, Zaq, Zar, Zas, Zat, Zau, Zav, AV.kill, AO.kill, AV.thaw, AO.thaw, Zaw, Zax, Zay, Zaz, Zba, Zbb, Zbc, Zbd, Zbe, ite_true, ite_false, reduceCtorEq, Nat.reduceAdd, Nat.reduceMul, Nat.reduceLeDiff, Nat.reduceLT, Nat.reduceEqDiff, forall_const, hg, hfn]
    refine ⟨i64_of (by omega) (by omega), by omega, i64_of (by omega) (by omega), ⟨by omega, by omega⟩, by omega, ?_⟩
    refine use1 (role1_ok x m) rfl (.inl rfl) ?_
    simp only [ZZ, FnG_some, IsnK_some, Za, Zb, Zc, Zd, Ze, Zf, Zg, Zh, rd, AV.un, AV.unA, AV.ad, Zi, Zj, Zk, Zl, Zm, Zn, Zo, Zp, Zq, Zr, Zs, Zt, Zu, Zv, Zw, Zx, Zy, Zz, Zaa, Zab, Zac, Zad, Zae, Zaf, Zag, Zah, Zai, Zaj, Zak, Zal, Zam, Zan, wk1, wk, Zao, Zap, Zaq, Zar, Zas, Zat, Zau, Zav, AV.kill, AO.kill, AV.thaw, AO.thaw, Zaw, Zax, Zay, Zaz, Zba, Zbb, Zbc, Zbd, Zbe, ite_true, ite_false, reduceCtorEq, Nat.reduceAdd, Nat.reduceMul, Nat.reduceLeDiff, Nat.reduceLT, Nat.reduceEqDiff, forall_const]
    have hlow : ∀ a p, l[a]? = some p → a ≤ g → cb x.1 m < 0 → cb p.1 m < 0 := by
      intro a p hp ha hc
      rcases Nat.lt_or_ge a g with h1 | h1
      · exact cb_trans (hs a g p x h1 hp hx) hc
      · have : a = g := by omega
        subst this
        rw [hx] at hp; cases hp; exact hc
    have hupp : ∀ a p, l[a]? = some p → g ≤ a → 0 ≤ cb x.1 m → 0 ≤ cb p.1 m := by
      intro a p hp ha hc
      rcases Nat.lt_or_ge g a with h1 | h1
      · have h2 := hs g a x p h1 hx hp
        by_cases h3 : cb p.1 m < 0
        · have := cb_trans h2 h3; omega
        · omega
      · have : a = g := by omega
        subst this
        rw [hx] at hp; cases hp; exact hc
    refine br ?_ ?_
    · intro hc
      have hc : cb x.1 m < 0 := of_decide_eq_true hc
      simp only [ZZ, FnG_some, IsnK_some, Za, Zb, Zc, Zd, Ze, Zf, Zg, Zh, rd, AV.un, AV.unA, AV.ad, Zi, Zj, Zk, Zl, Zm, Zn, Zo, Zp, Zq, Zr, Zs, Zt, Zu, Zv, Zw, Zx, Zy, Zz, Zaa, Zab, Zac, Zad, Zae, Zaf, Zag, Zah, Zai, Zaj, Zak, Zal, Zam, Zan, wk1, wk, Zao, Zap, Zaq, Zar, Zas, Zat, Zau, Zav, AV.kill, AO.kill, AV.thaw, AO.thaw, Zaw, Zax, Zay, Zaz, Zba, Zbb, Zbc, Zbd, Zbe, ite_true, ite_false, reduceCtorEq, Nat.reduceAdd, Nat.reduceMul, Nat.reduceLeDiff, Nat.reduceLT, Nat.reduceEqDiff, forall_const]
      refine ⟨i64_of (by omega) (by omega), ?_⟩
      refine end_round (j - (g + 1)) [.p (.sl 3 (parE l)), .p (.str m), .p (.clo fRole []), .any, .any, .any, .any, .any, .p (int (l.length : Nat)), .p (int ((g + 1) : Nat)), .p (int (j : Nat)), .any, .any, .any, .any, .any, .any, .any, .any, .any, .any, .any, .any, .any, .any, .any, .any, .any, .any, .any, .any, .any, .any, .any, .any, .any, .any, .any, .any, .any, .any, .any, .any, .any, .any, .any, .any, .any, .any] [] (by omega) (by (simp only [ZZ, FnG_some, IsnK_some, Za, Zb, Zc, Zd, Ze, Zf, Zg, Zh, rd, AV.un, AV.unA, AV.ad, Zi, Zj, Zk, Zl, Zm, Zn, Zo, Zp, Zq, Zr, Zs, Zt, Zu, Zv, Zw, Zx, Zy, Zz, Zaa, Zab, Zac, Zad, Zae, Zaf, Zag, Zah, Zai, Zaj, Zak, Zal, Zam, Zan, wk1, wk, Zao, Zap, Zaq, Zar, Zas, Zat, Zau, Zav, AV.kill, AO.kill, AV.thaw, AO.thaw, Zaw, Zax, Zay, Zaz, Zba, Zbb, Zbc, Zbd, Zbe, ite_true, ite_false, reduceCtorEq, Nat.reduceAdd, Nat.reduceMul, Nat.reduceLeDiff, Nat.reduceLT, Nat.reduceEqDiff, forall_const]; try trivial)) (by (simp only [ZZ, FnG_some, IsnK_some, Za, Zb, Zc, Zd, Ze, Zf, Zg, Zh, rd, AV.un, AV.unA, AV.ad, Zi, Zj, Zk, Zl, Zm, Zn, Zo, Zp, Zq, Zr, Zs, Zt, Zu, Zv, Zw, Zx, Zy, Zz, Zaa, Zab, Zac, Zad, Zae, Zaf, Zag, Zah, Zai, Zaj, Zak, Zal, Zam, Zan, wk1, wk, Zao, Zap, Zaq, Zar, Zas, Zat, Zau, Zav, AV.kill, AO.kill, AV.thaw, AO.thaw, Zaw, Zax, Zay, Zaz, Zba, Zbb, Zbc, Zbd, Zbe, ite_true, ite_false, reduceCtorEq, Nat.reduceAdd, Nat.reduceMul, Nat.reduceLeDiff, Nat.reduceLT, Nat.reduceEqDiff, forall_const]; try trivial)) ⟨g + 1, j, rfl, by omega, hjn, fun a p ha hp => hlow a p hp (by omega) hc, hhi, rfl, rfl⟩
    · intro hc
      have hc : ¬ cb x.1 m < 0 := of_decide_eq_false hc
      simp only [ZZ, FnG_some, IsnK_some, Za, Zb, Zc, Zd, Ze, Zf, Zg, Zh, rd, AV.un, AV.unA, AV.ad, Zi, Zj, Zk, Zl, Zm, Zn, Zo, Zp, Zq, Zr, Zs, Zt, Zu, Zv, Zw, Zx, Zy, Zz, Zaa, Zab, Zac, Zad, Zae, Zaf, Zag, Zah, Zai, Zaj, Zak, Zal, Zam, Zan, wk1, wk, Zao, Zap, Zaq, Zar, Zas, Zat, Zau, Zav, AV.kill, AO.kill, AV.thaw, AO.thaw, Zaw, Zax, Zay, Zaz, Zba, Zbb, Zbc, Zbd, Zbe, ite_true, ite_false, reduceCtorEq, Nat.reduceAdd, Nat.reduceMul, Nat.reduceLeDiff, Nat.reduceLT, Nat.reduceEqDiff, forall_const]
      refine end_round ((g) - i) [.p (.sl 3 (parE l)), .p (.str m), .p (.clo fRole []), .any, .any, .any, .any, .any, .p (int (l.length : Nat)), .p (int (i : Nat)), .p (int ((g) : Nat)), .any, .any, .any, .any, .any, .any, .any, .any, .any, .any, .any, .any, .any, .any, .any, .any, .any, .any, .any, .any, .any, .any, .any, .any, .any, .any, .any, .any, .any, .any, .any, .any, .any, .any, .any, .any, .any, .any] [] (by omega) (by (simp only [ZZ, FnG_some, IsnK_some, Za, Zb, Zc, Zd, Ze, Zf, Zg, Zh, rd, AV.un, AV.unA, AV.ad, Zi, Zj, Zk, Zl, Zm, Zn, Zo, Zp, Zq, Zr, Zs, Zt, Zu, Zv, Zw, Zx, Zy, Zz, Zaa, Zab, Zac, Zad, Zae, Zaf, Zag, Zah, Zai, Zaj, Zak, Zal, Zam, Zan, wk1, wk, Zao, Zap, Zaq, Zar, Zas, Zat, Zau, Zav, AV.kill, AO.kill, AV.thaw, AO.thaw, Zaw, Zax, Zay, Zaz, Zba, Zbb, Zbc, Zbd, Zbe, ite_true, ite_false, reduceCtorEq, Nat.reduceAdd, Nat.reduceMul, Nat.reduceLeDiff, Nat.reduceLT, Nat.reduceEqDiff, forall_const]; try trivial)) (by (simp only [ZZ, FnG_some, IsnK_some, Za, Zb, Zc, Zd, Ze, Zf, Zg, Zh, rd, AV.un, AV.unA, AV.ad, Zi, Zj, Zk, Zl, Zm, Zn, Zo, Zp, Zq, Zr, Zs, Zt, Zu, Zv, Zw, Zx, Zy, Zz, Zaa, Zab, Zac, Zad, Zae, Zaf, Zag, Zah, Zai, Zaj, Zak, Zal, Zam, Zan, wk1, wk, Zao, Zap, Zaq, Zar, Zas, Zat, Zau, Zav, AV.kill, AO.kill, AV.thaw, AO.thaw, Zaw, Zax, Zay, Zaz, Zba, Zbb, Zbc, Zbd, Zbe, ite_true, ite_false, reduceCtorEq, Nat.reduceAdd, Nat.reduceMul, Nat.reduceLeDiff, Nat.reduceLT, Nat.reduceEqDiff, forall_const]; try trivial)) ⟨i, g, rfl, by omega, by omega, hlo, fun a p ha hp => hupp a p hp ha (by omega), rfl, rfl⟩
  · intro h
    have hge : i = j := by have := of_decide_eq_false h; omega
    subst hge
    by_cases hin : i < l.length
    · obtain ⟨x, hx⟩ : ∃ x, l[i]? = some x := ⟨_, List.getElem?_eq_getElem hin⟩
      have hg := parE_get hx
      simp only [ZZ, FnG_some, IsnK_some, Za, Zb, Zc, Zd, Ze, Zf, Zg, Zh, rd, AV.un, AV.unA, AV.ad, Zi, Zj, Zk, Zl, Zm, Zn, Zo, Zp, Zq, Zr, Zs, Zt, Zu, Zv, Zw, Zx, Zy, Zz, Zaa, Zab, Zac, Zad, Zae, Zaf, Zag, Zah, Zai, Zaj, Zak, Zal, Zam, Zan, wk1, wk, Zao, Zap, Zaq, Zar, Zas, Zat, Zau, Zav, AV.kill, AO.kill, AV.thaw, AO.thaw, Zaw, Zax, Zay, Zaz, Zba, Zbb, Zbc, Zbd, Zbe, ite_true, ite_false, reduceCtorEq, Nat.reduceAdd, Nat.reduceMul, Nat.reduceLeDiff, Nat.reduceLT, Nat.reduceEqDiff, forall_const, parE_len, hg, hfn]
      refine ⟨fun _ => ⟨by simp; omega, by simp; omega, by omega, by omega⟩, fun _ => ⟨by simp; omega, hin⟩, ?_⟩
      refine useG (fun _ => role1_ok x m) rfl (.inl rfl) ?_
      simp only [ZZ, FnG_some, IsnK_some, Za, Zb, Zc, Zd, Ze, Zf, Zg, Zh, rd, AV.un, AV.unA, AV.ad, Zi, Zj, Zk, Zl, Zm, Zn, Zo, Zp, Zq, Zr, Zs, Zt, Zu, Zv, Zw, Zx, Zy, Zz, Zaa, Zab, Zac, Zad, Zae, Zaf, Zag, Zah, Zai, Zaj, Zak, Zal, Zam, Zan, wk1, wk, Zao, Zap, Zaq, Zar, Zas, Zat, Zau, Zav, AV.kill, AO.kill, AV.thaw, AO.thaw, Zaw, Zax, Zay, Zaz, Zba, Zbb, Zbc, Zbd, Zbe, ite_true, ite_false, reduceCtorEq, Nat.reduceAdd, Nat.reduceMul, Nat.reduceLeDiff, Nat.reduceLT, Nat.reduceEqDiff, forall_const]
      ((repeat' (with_reducible apply And.intro)) <;> try ((first | first | assumption | trivial | exact (fun hq => by rw [hq]; rfl) | exact i64_of (by omega) (by omega) | omega | (simp; done) | (simp; omega) | (intro hsc; have hs0 := hsc; (try have hsd := of_decide_eq_true hsc); (try simp only [Bool.not_eq_true', Bool.or_eq_false_iff, Bool.and_eq_true, Bool.or_eq_true, decide_eq_true_eq, decide_eq_false_iff_not] at hsc); (repeat' (with_reducible apply And.intro)) <;> (first | assumption | trivial | exact (fun hq => by rw [hq]; rfl) | exact i64_of (by omega) (by omega) | omega | (simp; done) | (simp; omega) | (intro hse; simp [hse, hs0]; done) | (intro hse; simp only [hse, hs0, Bool.true_and, Bool.and_true, Bool.not_false, Bool.not_true, Bool.and_self]; done))))))
      refine ⟨i, _, rfl, fun hb => ⟨x, hx, ?_⟩, fun hb p hp he => ?_⟩
      · simp only [Bool.and_eq_true, decide_eq_true_eq] at hb
        exact (cb_zero _ _).1 hb.2
      · have hne : ¬ cb x.1 m = 0 := by
          have : decide ((i : Int) < l.length) = true := by simp; omega
          rw [this] at hb
          simpa using hb
        obtain ⟨a, ha⟩ := List.getElem?_of_mem hp
        have hz := (cb_zero p.1 m).2 he
        rcases Nat.lt_trichotomy a i with h1 | h1 | h1
        · have := hlo a p h1 ha; omega
        · subst h1; rw [hx] at ha; cases ha; exact hne hz
        · have h2 := hs i a x p h1 hx ha
          have h3 := hhi i x (Nat.le_refl _) hx
          have h4 := cb_trans h2 (show cb p.1 x.1 < 0 by
            have : p.1 = m := he
            rw [this, cb_swap]; omega)
          have h5 := (cb_zero x.1 x.1).2 rfl
          omega
    · have hgd : (parE l).getD i [] = [] := by simp [List.getD, parE]; rw [List.getElem?_eq_none (by omega)]; rfl
      have hfl : decide ((i : Int) < l.length) = false := by simp; omega
      simp only [ZZ, FnG_some, IsnK_some, Za, Zb, Zc, Zd, Ze, Zf, Zg, Zh, rd, AV.un, AV.unA, AV.ad, Zi, Zj, Zk, Zl, Zm, Zn, Zo, Zp, Zq, Zr, Zs, Zt, Zu, Zv, Zw, Zx, Zy, Zz, Zaa, Zab, Zac, Zad, Zae, Zaf, Zag, Zah, Zai, Zaj, Zak, Zal, Zam, Zan, wk1, wk, Zao, Zap, Zaq, Zar, Zas, Zat, Zau, Zav, AV.kill, AO.kill, AV.thaw, AO.thaw, Zaw, Zax, Zay, Zaz, Zba, Zbb, Zbc, Zbd, Zbe, ite_true, ite_false, reduceCtorEq, Nat.reduceAdd, Nat.reduceMul, Nat.reduceLeDiff, Nat.reduceLT, Nat.reduceEqDiff, forall_const, parE_len, hgd, hfn, hfl]
      refine ⟨fun h => h.elim, fun h => h.elim, ?_⟩
      refine useGC (fun h => by cases h) (fun _ => ?_)
      simp only [ZZ, FnG_some, IsnK_some, Za, Zb, Zc, Zd, Ze, Zf, Zg, Zh, rd, AV.un, AV.unA, AV.ad, Zi, Zj, Zk, Zl, Zm, Zn, Zo, Zp, Zq, Zr, Zs, Zt, Zu, Zv, Zw, Zx, Zy, Zz, Zaa, Zab, Zac, Zad, Zae, Zaf, Zag, Zah, Zai, Zaj, Zak, Zal, Zam, Zan, wk1, wk, Zao, Zap, Zaq, Zar, Zas, Zat, Zau, Zav, AV.kill, AO.kill, AV.thaw, AO.thaw, Zaw, Zax, Zay, Zaz, Zba, Zbb, Zbc, Zbd, Zbe, ite_true, ite_false, reduceCtorEq, Nat.reduceAdd, Nat.reduceMul, Nat.reduceLeDiff, Nat.reduceLT, Nat.reduceEqDiff, forall_const]
      refine ⟨i, _, rfl, fun hb => by simp at hb, fun _ p hp he => ?_⟩
      obtain ⟨a, ha⟩ := List.getElem?_of_mem hp
      have hz := (cb_zero p.1 m).2 he
      have := hlo a p (by have := (List.getElem?_eq_some_iff.1 ha).1; omega) ha
      omega
def parA (p : Par) : PV := .agg (par p)
/-- The party with an address, if there is one. -/
def roleF (l : List Par) (m : List UInt8) : Par × Bool := match l.find? (fun p => decide (p.1 = m)) with
  | some p => (p, true)
  | none => (p00, false)
theorem role_ok {E : Envt} (l : List Par) (m : List UInt8) (hl : l.length ≤ 1000000) (hs : SortedP l) : PCall Tryz.prog E 78 [.sl 3 (parE l), .str m] (· = .tup [parA (roleF l m).1, .bool (roleF l m).2]) := by
  refine pcallF mixed Tryz.func78 ck_privilege_role ?_
  simp only [a0, l0, OS.ao, List.map_cons, List.map_nil, List.length_cons, List.length_nil, List.cons_append, List.nil_append, Nat.reduceSub, Nat.reduceAdd, List.replicate_succ, List.replicate_zero, ir_privilege_role, rs_privilege_role, ZZ, FnG_some, IsnK_some, Za, Zb, Zc, Zd, Ze, Zf, Zg, Zh, rd, AV.un, AV.unA, AV.ad, Zi, Zj, Zk, Zl, Zm, Zn, Zo, Zp, Zq, Zr, Zs, Zt, Zu, Zv, Zw, Zx, Zy, Zz, Zaa, Zab, Zac, Zad, Zae, Zaf, Zag, Zah, Zai, Zaj, Zak, Zal, Zam, Zan, wk1, wk, Zao, Zap, Zaq, Zar, Zas, Zat, Zau, Zav, AV.kill, AO.kill, AV.thaw, AO.thaw, Zaw, Zax, Zay, Zaz, Zba, Zbb, Zbc, Zbd, Zbe, ite_true, ite_false, reduceCtorEq, Nat.reduceAdd, Nat.reduceMul, Nat.reduceLeDiff, Nat.reduceLT, Nat.reduceEqDiff, forall_const]
  refine use (BSearch_ok l m hl hs) rfl (.inl rfl) ?_
  rintro y ⟨i, b, rfl, ht, hf⟩
  simp only [ZZ, FnG_some, IsnK_some, Za, Zb, Zc, Zd, Ze, Zf, Zg, Zh, rd, AV.un, AV.unA, AV.ad, Zi, Zj, Zk, Zl, Zm, Zn, Zo, Zp, Zq, Zr, Zs, Zt, Zu, Zv, Zw, Zx, Zy, Zz, Zaa, Zab, Zac, Zad, Zae, Zaf, Zag, Zah, Zai, Zaj, Zak, Zal, Zam, Zan, wk1, wk, Zao, Zap, Zaq, Zar, Zas, Zat, Zau, Zav, AV.kill, AO.kill, AV.thaw, AO.thaw, Zaw, Zax, Zay, Zaz, Zba, Zbb, Zbc, Zbd, Zbe, ite_true, ite_false, reduceCtorEq, Nat.reduceAdd, Nat.reduceMul, Nat.reduceLeDiff, Nat.reduceLT, Nat.reduceEqDiff, forall_const]
  refine br ?_ ?_
  · intro hb
    have hb : b = false := by rwa [Bool.not_eq_true'] at hb
    simp only [ZZ, FnG_some, IsnK_some, Za, Zb, Zc, Zd, Ze, Zf, Zg, Zh, rd, AV.un, AV.unA, AV.ad, Zi, Zj, Zk, Zl, Zm, Zn, Zo, Zp, Zq, Zr, Zs, Zt, Zu, Zv, Zw, Zx, Zy, Zz, Zaa, Zab, Zac, Zad, Zae, Zaf, Zag, Zah, Zai, Zaj, Zak, Zal, Zam, Zan, wk1, wk, Zao, Zap, Zaq, Zar, Zas, Zat, Zau, Zav, AV.kill, AO.kill, AV.thaw, AO.thaw, Zaw, Zax, Zay, Zaz, Zba, Zbb, Zbc, Zbd, Zbe, ite_true, ite_false, reduceCtorEq, Nat.reduceAdd, Nat.reduceMul, Nat.reduceLeDiff, Nat.reduceLT, Nat.reduceEqDiff, forall_const]
    have : l.find? (fun p => decide (p.1 = m)) = none := by
      rw [List.find?_eq_none]
      intro p hp
      simpa using hf hb p hp
    rw [roleF, this]
    rfl
  · intro hb
    have hb : b = true := by rwa [Bool.not_eq_false'] at hb
    obtain ⟨p, hp, hpm⟩ := ht hb
    have hg := parE_get hp
    have hi : i < l.length := (List.getElem?_eq_some_iff.1 hp).1
    simp only [ZZ, FnG_some, IsnK_some, Za, Zb, Zc, Zd, Ze, Zf, Zg, Zh, rd, AV.un, AV.unA, AV.ad, Zi, Zj, Zk, Zl, Zm, Zn, Zo, Zp, Zq, Zr, Zs, Zt, Zu, Zv, Zw, Zx, Zy, Zz, Zaa, Zab, Zac, Zad, Zae, Zaf, Zag, Zah, Zai, Zaj, Zak, Zal, Zam, Zan, wk1, wk, Zao, Zap, Zaq, Zar, Zas, Zat, Zau, Zav, AV.kill, AO.kill, AV.thaw, AO.thaw, Zaw, Zax, Zay, Zaz, Zba, Zbb, Zbc, Zbd, Zbe, ite_true, ite_false, reduceCtorEq, Nat.reduceAdd, Nat.reduceMul, Nat.reduceLeDiff, Nat.reduceLT, Nat.reduceEqDiff, forall_const, parE_len, hg]
    refine ⟨⟨by omega, by omega⟩, hi, ?_⟩
    have : l.find? (fun p => decide (p.1 = m)) = some p := by
      cases hq : l.find? (fun p => decide (p.1 = m)) with
      | none => rw [List.find?_eq_none] at hq; exact absurd hpm (by simpa using hq p (List.mem_of_getElem? hp))
      | some q =>
        have h1 := List.find?_some hq
        have h2 := List.mem_of_find?_eq_some hq
        obtain ⟨a, ha⟩ := List.getElem?_of_mem h2
        have h3 : q.1 = m := by simpa using h1
        have hc : cb p.1 q.1 = 0 := (cb_zero _ _).2 (by rw [hpm, h3])
        have hc2 : cb q.1 p.1 = 0 := (cb_zero _ _).2 (by rw [hpm, h3])
        rcases Nat.lt_trichotomy a i with h4 | h4 | h4
        · have := hs a i q p h4 ha hp; omega
        · subst h4; rw [hp] at ha; cases ha; rfl
        · have := hs i a p q h4 hp ha; omega
    rw [roleF, this]
    rfl
theorem RoleOf_ok (l : List Par) (m : List UInt8) (hl : l.length ≤ 1000000) (hb : ∀ p ∈ l, p.1.length ≤ 1000000) (hm : m.length ≤ 1000000) : PCall Tryz.prog E0 13 [.sl 3 (parE l), .str m] (· = if firstE [peopleF l, whenE (!mailF m) 3] = 0 then .tup [parA (roleF l m).1, .bool (roleF l m).2, int 0] else .tup [parA p00, .bool false, int (firstE [peopleF l, whenE (!mailF m) 3])]) := by
  refine pcallF mixed Tryz.func13 ck_privilege_RoleOf ?_
  simp only [a0, l0, OS.ao, List.map_cons, List.map_nil, List.length_cons, List.length_nil, List.cons_append, List.nil_append, Nat.reduceSub, Nat.reduceAdd, List.replicate_succ, List.replicate_zero, ir_privilege_RoleOf, rs_privilege_RoleOf, ZZ, FnG_some, IsnK_some, Za, Zb, Zc, Zd, Ze, Zf, Zg, Zh, rd, AV.un, AV.unA, AV.ad, Zi, Zj, Zk, Zl, Zm, Zn, Zo, Zp, Zq, Zr, Zs, Zt, Zu, Zv, Zw, Zx, Zy, Zz, Zaa, Zab, Zac, Zad, Zae, Zaf, Zag, Zah, Zai, Zaj, Zak, Zal, Zam, Zan, wk1, wk, Zao, Zap, Zaq, Zar, Zas, Zat, Zau, Zav, AV.kill, AO.kill, AV.thaw, AO.thaw, Zaw, Zax, Zay, Zaz, Zba, Zbb, Zbc, Zbd, Zbe, ite_true, ite_false, reduceCtorEq, Nat.reduceAdd, Nat.reduceMul, Nat.reduceLeDiff, Nat.reduceLT, Nat.reduceEqDiff, forall_const]
  refine use1 (CheckPeople_ok l hl hb) rfl (.inl rfl) ?_
  simp only [ZZ, FnG_some, IsnK_some, Za, Zb, Zc, Zd, Ze, Zf, Zg, Zh, rd, AV.un, AV.unA, AV.ad, Zi, Zj, Zk, Zl, Zm, Zn, Zo, Zp, Zq, Zr, Zs, Zt, Zu, Zv, Zw, Zx, Zy, Zz, Zaa, Zab, Zac, Zad, Zae, Zaf, Zag, Zah, Zai, Zaj, Zak, Zal, Zam, Zan, wk1, wk, Zao, Zap, Zaq, Zar, Zas, Zat, Zau, Zav, AV.kill, AO.kill, AV.thaw, AO.thaw, Zaw, Zax, Zay, Zaz, Zba, Zbb, Zbc, Zbd, Zbe, ite_true, ite_false, reduceCtorEq, Nat.reduceAdd, Nat.reduceMul, Nat.reduceLeDiff, Nat.reduceLT, Nat.reduceEqDiff, forall_const]
  refine use1 (mailError_ok m (by omega)) rfl (.inl rfl) ?_
  simp only [ZZ, FnG_some, IsnK_some, Za, Zb, Zc, Zd, Ze, Zf, Zg, Zh, rd, AV.un, AV.unA, AV.ad, Zi, Zj, Zk, Zl, Zm, Zn, Zo, Zp, Zq, Zr, Zs, Zt, Zu, Zv, Zw, Zx, Zy, Zz, Zaa, Zab, Zac, Zad, Zae, Zaf, Zag, Zah, Zai, Zaj, Zak, Zal, Zam, Zan, wk1, wk, Zao, Zap, Zaq, Zar, Zas, Zat, Zau, Zav, AV.kill, AO.kill, AV.thaw, AO.thaw, Zaw, Zax, Zay, Zaz, Zba, Zbb, Zbc, Zbd, Zbe, ite_true, ite_false, reduceCtorEq, Nat.reduceAdd, Nat.reduceMul, Nat.reduceLeDiff, Nat.reduceLT, Nat.reduceEqDiff, forall_const]
  refine use1 (First_ok [peopleF l, whenE (!mailF m) 3] (by simp)) rfl (.inl rfl) ?_
  simp only [ZZ, FnG_some, IsnK_some, Za, Zb, Zc, Zd, Ze, Zf, Zg, Zh, rd, AV.un, AV.unA, AV.ad, Zi, Zj, Zk, Zl, Zm, Zn, Zo, Zp, Zq, Zr, Zs, Zt, Zu, Zv, Zw, Zx, Zy, Zz, Zaa, Zab, Zac, Zad, Zae, Zaf, Zag, Zah, Zai, Zaj, Zak, Zal, Zam, Zan, wk1, wk, Zao, Zap, Zaq, Zar, Zas, Zat, Zau, Zav, AV.kill, AO.kill, AV.thaw, AO.thaw, Zaw, Zax, Zay, Zaz, Zba, Zbb, Zbc, Zbd, Zbe, ite_true, ite_false, reduceCtorEq, Nat.reduceAdd, Nat.reduceMul, Nat.reduceLeDiff, Nat.reduceLT, Nat.reduceEqDiff, forall_const]
  refine br ?_ ?_
  · intro h
    simp only [ZZ, FnG_some, IsnK_some, Za, Zb, Zc, Zd, Ze, Zf, Zg, Zh, rd, AV.un, AV.unA, AV.ad, Zi, Zj, Zk, Zl, Zm, Zn, Zo, Zp, Zq, Zr, Zs, Zt, Zu, Zv, Zw, Zx, Zy, Zz, Zaa, Zab, Zac, Zad, Zae, Zaf, Zag, Zah, Zai, Zaj, Zak, Zal, Zam, Zan, wk1, wk, Zao, Zap, Zaq, Zar, Zas, Zat, Zau, Zav, AV.kill, AO.kill, AV.thaw, AO.thaw, Zaw, Zax, Zay, Zaz, Zba, Zbb, Zbc, Zbd, Zbe, ite_true, ite_false, reduceCtorEq, Nat.reduceAdd, Nat.reduceMul, Nat.reduceLeDiff, Nat.reduceLT, Nat.reduceEqDiff, forall_const]
    rw [if_neg (by simpa using h)]
    rfl
  · intro h
    have h : firstE [peopleF l, whenE (!mailF m) 3] = 0 := by simpa using h
    rw [if_pos h]
    have hp := firstE_zero h (peopleF l) (by simp)
    simp only [ZZ, FnG_some, IsnK_some, Za, Zb, Zc, Zd, Ze, Zf, Zg, Zh, rd, AV.un, AV.unA, AV.ad, Zi, Zj, Zk, Zl, Zm, Zn, Zo, Zp, Zq, Zr, Zs, Zt, Zu, Zv, Zw, Zx, Zy, Zz, Zaa, Zab, Zac, Zad, Zae, Zaf, Zag, Zah, Zai, Zaj, Zak, Zal, Zam, Zan, wk1, wk, Zao, Zap, Zaq, Zar, Zas, Zat, Zau, Zav, AV.kill, AO.kill, AV.thaw, AO.thaw, Zaw, Zax, Zay, Zaz, Zba, Zbb, Zbc, Zbd, Zbe, ite_true, ite_false, reduceCtorEq, Nat.reduceAdd, Nat.reduceMul, Nat.reduceLeDiff, Nat.reduceLT, Nat.reduceEqDiff, forall_const]
    refine use1 (role_ok l m hl (people_sorted hp)) rfl (.inl rfl) ?_
    generalize roleF l m = q
    simp only [parA, par]
    simp only [ZZ, FnG_some, IsnK_some, Za, Zb, Zc, Zd, Ze, Zf, Zg, Zh, rd, AV.un, AV.unA, AV.ad, Zi, Zj, Zk, Zl, Zm, Zn, Zo, Zp, Zq, Zr, Zs, Zt, Zu, Zv, Zw, Zx, Zy, Zz, Zaa, Zab, Zac, Zad, Zae, Zaf, Zag, Zah, Zai, Zaj, Zak, Zal, Zam, Zan, wk1, wk, Zao, Zap, Zaq, Zar, Zas, Zat, Zau, Zav, AV.kill, AO.kill, AV.thaw, AO.thaw, Zaw, Zax, Zay, Zaz, Zba, Zbb, Zbc, Zbd, Zbe, ite_true, ite_false, reduceCtorEq, Nat.reduceAdd, Nat.reduceMul, Nat.reduceLeDiff, Nat.reduceLT, Nat.reduceEqDiff, forall_const]
end Go.Proofs.YtndjmidmfmcbkaaGreatDoor

/- The party of an address by its domain: the longest one and the first one are the same (plain). -/
namespace Go.Proofs.YtndjmidmfmcbkaaGreatDoor
open Go.RowKit
set_option linter.unusedVariables false
set_option linter.unusedSimpArgs false
set_option linter.defProp false

theorem occ_one (s : List UInt8) (c : UInt8) (i : Nat) : Lib.occAt s [c] i = true ↔ s[i]? = some c := by
  unfold Lib.occAt
  cases h : s.drop i with
  | nil =>
    have : s.length ≤ i := by simpa using h
    simp [List.getElem?_eq_none this]
  | cons x r =>
    have hx : s[i]? = some x := by
      have := congrArg (fun l => l[0]?) h
      simpa using this
    simp [hx]
    exact eq_comm
theorem cut_one (s : List UInt8) (c : UInt8) : (∃ a b, s = a ++ c :: b ∧ c ∉ a ∧ cutF s [c] = (a, b, true)) ∨ (c ∉ s ∧ cutF s [c] = (s, [], false)) := by
  rcases Lib.index_spec s [c] with ⟨h1, h2⟩ | ⟨i, h1, h2, h3, h4⟩
  · refine .inr ⟨fun hc => ?_, by rw [cutF, h1, if_neg (by decide)]⟩
    obtain ⟨j, hj⟩ := List.getElem?_of_mem hc
    have := h2 j (by have := (List.getElem?_eq_some_iff.1 hj).1; omega)
    rw [(occ_one s c j).2 hj] at this
    cases this
  · have h5 := (occ_one s c i).1 h3
    have hlt := (List.getElem?_eq_some_iff.1 h5).1
    refine .inl ⟨s.take i, s.drop (i + 1), ?_, ?_, ?_⟩
    · conv => lhs; rw [← List.take_append_drop i s]
      rw [List.drop_eq_getElem_cons hlt, (List.getElem?_eq_some_iff.1 h5).2]
    · intro hc
      obtain ⟨j, hj⟩ := List.getElem?_of_mem hc
      rw [List.getElem?_take] at hj
      split at hj
      · rename_i hji
        have := h4 j hji
        rw [(occ_one s c j).2 hj] at this
        cases this
      · cases hj
    · rw [cutF, h1, if_pos (by omega)]
      simp
theorem sufE_iff (s t : List UInt8) : sufE s t = true ↔ ∃ x, s = x ++ t := by
  unfold sufE
  simp only [Bool.and_eq_true, decide_eq_true_eq]
  constructor
  · rintro ⟨h1, h2⟩
    exact ⟨s.take (s.length - t.length), by conv => lhs; rw [← List.take_append_drop (s.length - t.length) s]; rw [h2]⟩
  · rintro ⟨x, rfl⟩
    simp
    omega
/-- Whether a domain is of a name: the name itself, or what ends with a dot and it. -/
def matchB (dom n : List UInt8) : Bool := decide (n = dom) || sufE dom (46 :: n)
theorem matchB_iff (dom n : List UInt8) : matchB dom n = true ↔ n = dom ∨ ∃ x, dom = x ++ 46 :: n := by
  rw [matchB, Bool.or_eq_true, decide_eq_true_eq, sufE_iff]
theorem match_len {dom n : List UInt8} (h : matchB dom n = true) : n.length ≤ dom.length := by
  rcases (matchB_iff dom n).1 h with rfl | ⟨x, rfl⟩
  · exact Nat.le_refl _
  · simp; omega
theorem match_same {dom n m : List UInt8} (h : matchB dom n = true) (k : matchB dom m = true) (hl : n.length = m.length) : n = m := by
  have key : ∀ a b : List UInt8, (∃ x, dom = x ++ a) → (∃ x, dom = x ++ b) → a.length = b.length → a = b := by
    rintro a b ⟨x, e1⟩ ⟨y, e2⟩ hab
    exact (List.append_inj' (e1.symm.trans e2) hab).2
  have lift : ∀ a, matchB dom a = true → ∃ x, dom = x ++ a := by
    intro a ha
    rcases (matchB_iff dom a).1 ha with rfl | ⟨x, rfl⟩
    · exact ⟨[], rfl⟩
    · exact ⟨x ++ [46], by simp⟩
  exact key n m (lift n h) (lift m k) hl
theorem match_next {a rest n : List UInt8} (ha : (46 : UInt8) ∉ a) (hn : n ≠ a ++ 46 :: rest) : matchB (a ++ 46 :: rest) n = matchB rest n := by
  rw [Bool.eq_iff_iff, matchB_iff, matchB_iff]
  constructor
  · rintro (h | ⟨x, hx⟩)
    · exact absurd h hn
    · have hx' := hx
      rcases List.append_eq_append_iff.1 hx' with ⟨y, h1, h2⟩ | ⟨y, h1, h2⟩
      · -- x = a ++ y
        cases y with
        | nil => simp at h2; exact .inl h2.symm
        | cons z y =>
          simp only [List.cons_append, List.cons.injEq] at h2
          exact .inr ⟨y, h2.2⟩
      · -- a = x ++ y
        cases y with
        | nil => simp at h2; exact .inl h2
        | cons z y =>
          simp only [List.cons_append, List.cons.injEq] at h2
          exact absurd (by rw [h1, ← h2.1]; simp) ha
  · rintro (rfl | ⟨x, rfl⟩)
    · exact .inr ⟨a, rfl⟩
    · exact .inr ⟨a ++ 46 :: x, by simp⟩
def findN (l : List Par) (n : List UInt8) : Option Par := l.find? (fun p => decide (p.1 = n))
theorem findN_some {l : List Par} {n : List UInt8} {p : Par} (h : findN l n = some p) : p ∈ l ∧ p.1 = n := ⟨List.mem_of_find?_eq_some h, by simpa using List.find?_some h⟩
theorem findN_none {l : List Par} {n : List UInt8} (h : findN l n = none) : ∀ p ∈ l, p.1 ≠ n := by
  intro p hp
  have := (List.find?_eq_none.1 h) p hp
  simpa using this
/-- The reference: the domain is cut label by label. -/
def refD (l : List Par) : Nat → List UInt8 → Option Par
  | 0, s => findN l s
  | n + 1, s => match findN l s with
    | some d => some d
    | none => if (cutF s [46]).2.2 = true then refD l n (cutF s [46]).2.1 else none
theorem refD_succ (l : List Par) (n : Nat) (s : List UInt8) : refD l (n + 1) s = match findN l s with | some d => some d | none => if (cutF s [46]).2.2 = true then refD l n (cutF s [46]).2.1 else none := rfl
theorem refD_fuel (l : List Par) : ∀ (n : Nat) (s : List UInt8), s.length ≤ n → refD l (n + 1) s = refD l n s
  | 0, s, h => by
    have : s = [] := List.eq_nil_of_length_eq_zero (by omega)
    subst this
    simp only [refD]
    rcases cut_one [] 46 with ⟨a, b, h1, _⟩ | ⟨_, h2⟩
    · simp at h1
    · rw [h2]; cases findN l [] <;> rfl
  | n + 1, s, h => by
    rw [refD_succ l (n + 1) s, refD_succ l n s]
    cases hq : findN l s with
    | some d => rfl
    | none =>
      rcases cut_one s 46 with ⟨a, b, h1, _, h3⟩ | ⟨_, h2⟩
      · rw [h3]
        simp only [if_true]
        exact refD_fuel l n b (by rw [h1] at h; simp at h; omega)
      · rw [h2]; simp
theorem refD_fuels (l : List Par) (s : List UInt8) : ∀ d, refD l (s.length + d) s = refD l s.length s
  | 0 => rfl
  | d + 1 => by rw [← Nat.add_assoc, refD_fuel l (s.length + d) s (by omega)]; exact refD_fuels l s d
theorem refD_next (l : List Par) {s : List UInt8} (h : findN l s = none) (hc : (cutF s [46]).2.2 = true) : refD l s.length s = refD l (cutF s [46]).2.1.length (cutF s [46]).2.1 := by
  rcases cut_one s 46 with ⟨a, b, h1, _, h3⟩ | ⟨_, h2⟩
  · rw [h3]
    have hl : s.length = b.length + a.length + 1 := by rw [h1]; simp; omega
    rw [hl, refD, h, h3]
    simp only [if_true]
    exact refD_fuels l b a.length
  · rw [h2] at hc; cases hc
theorem refD_stop (l : List Par) {s : List UInt8} (h : findN l s = none) (hc : (cutF s [46]).2.2 = false) : refD l s.length s = none := by
  cases hs : s.length with
  | zero => rw [refD, h]
  | succ n => rw [refD, h]; simp [hc]
theorem refD_hit (l : List Par) {s : List UInt8} {d : Par} (h : findN l s = some d) : refD l s.length s = some d := by
  cases hs : s.length with
  | zero => rw [refD, h]
  | succ n => rw [refD, h]
/-- What it finds. -/
theorem refD_spec (l : List Par) : ∀ (n : Nat) (s : List UInt8), s.length ≤ n →
    (∀ d, refD l n s = some d → d ∈ l ∧ matchB s d.1 = true ∧ ∀ e ∈ l, matchB s e.1 = true → e.1.length ≤ d.1.length) ∧ (refD l n s = none → ∀ e ∈ l, matchB s e.1 = false) := by
  have base : ∀ (s : List UInt8) (d : Par), findN l s = some d → d ∈ l ∧ matchB s d.1 = true ∧ ∀ e ∈ l, matchB s e.1 = true → e.1.length ≤ d.1.length := by
    intro s d h
    obtain ⟨h1, h2⟩ := findN_some h
    exact ⟨h1, (matchB_iff _ _).2 (.inl h2), fun e _ he => by rw [h2]; exact match_len he⟩
  have nodot : ∀ s : List UInt8, (46 : UInt8) ∉ s → findN l s = none → ∀ e ∈ l, matchB s e.1 = false := by
    intro s hs hq e he
    rw [Bool.eq_false_iff]
    intro hm
    rcases (matchB_iff _ _).1 hm with h | ⟨x, hx⟩
    · exact findN_none hq e he h
    · exact hs (by rw [hx]; simp)
  intro n
  induction n with
  | zero =>
    intro s hs
    have hs0 : s = [] := List.eq_nil_of_length_eq_zero (by omega)
    refine ⟨fun d h => base s d h, fun h => nodot s (by rw [hs0]; simp) h⟩
  | succ n ih =>
    intro s hs
    rw [refD]
    cases hq : findN l s with
    | some d0 =>
      refine ⟨fun d h => ?_, fun h => (by cases h)⟩
      simp only [Option.some.injEq] at h
      subst h
      exact base s d0 hq
    | none =>
      rcases cut_one s 46 with ⟨a, b, h1, h2, h3⟩ | ⟨h1, h2⟩
      · rw [h3]
        simp only [if_true]
        obtain ⟨i1, i2⟩ := ih b (by rw [h1] at hs; simp at hs; omega)
        have hsame : ∀ e ∈ l, matchB s e.1 = matchB b e.1 := by
          intro e he
          have := findN_none hq e he
          rw [h1] at this ⊢
          exact match_next h2 this
        refine ⟨fun d h => ?_, fun h e he => by rw [hsame e he]; exact i2 h e he⟩
        obtain ⟨j1, j2, j3⟩ := i1 d h
        exact ⟨j1, by rw [hsame d j1]; exact j2, fun e he hm => j3 e he (by rw [← hsame e he]; exact hm)⟩
      · rw [h2]
        simp only [Bool.false_eq_true, if_false]
        exact ⟨fun d h => (by cases h), fun _ => nodot s h1 hq⟩
/-- The program: the longest name that fits. -/
def bestS (dom : List UInt8) (b d : Par) : Par := if (matchB dom d.1 && decide (b.1.length < d.1.length)) = true then d else b
def bestF (l : List Par) (dom : List UInt8) : Par := l.foldl (bestS dom) p00
theorem bestF_snoc {l : List Par} {dom : List UInt8} {k : Nat} {d : Par} (h : l[k]? = some d) : bestF (l.take (k + 1)) dom = bestS dom (bestF (l.take k) dom) d := by
  rw [List.take_add_one, h, bestF, List.foldl_append]
  rfl
theorem bestF_spec (dom : List UInt8) : ∀ (l : List Par) (b : Par), (b = p00 ∨ matchB dom b.1 = true) →
    let r := l.foldl (bestS dom) b
    (r = b ∨ (r ∈ l ∧ matchB dom r.1 = true)) ∧ b.1.length ≤ r.1.length ∧ ∀ e ∈ l, matchB dom e.1 = true → e.1.length ≤ r.1.length
  | [], b, hb => ⟨.inl rfl, Nat.le_refl _, by simp⟩
  | d :: l, b, hb => by
    simp only [List.foldl_cons]
    by_cases hd : (matchB dom d.1 && decide (b.1.length < d.1.length)) = true
    · have h1 : bestS dom b d = d := by rw [bestS, if_pos hd]
      simp only [Bool.and_eq_true, decide_eq_true_eq] at hd
      rw [h1]
      obtain ⟨i1, i2, i3⟩ := bestF_spec dom l d (.inr hd.1)
      refine ⟨.inr ?_, by omega, fun e he hm => ?_⟩
      · rcases i1 with h | ⟨h, h'⟩
        · rw [h]; exact ⟨by simp, hd.1⟩
        · exact ⟨by simp [h], h'⟩
      · rcases List.mem_cons.1 he with rfl | he
        · exact i2
        · exact i3 e he hm
    · have h1 : bestS dom b d = b := by rw [bestS, if_neg hd]
      rw [h1]
      obtain ⟨i1, i2, i3⟩ := bestF_spec dom l b hb
      refine ⟨?_, i2, fun e he hm => ?_⟩
      · rcases i1 with h | ⟨h, h'⟩
        · exact .inl h
        · exact .inr ⟨by simp [h], h'⟩
      · rcases List.mem_cons.1 he with rfl | he
        · have : ¬ b.1.length < e.1.length := fun hlt => hd (by simp [hm, hlt])
          omega
        · exact i3 e he hm
/-- They agree where the names are distinct and not empty. -/
theorem best_ref {l : List Par} (dom : List UInt8) (hne : ∀ d ∈ l, d.1 ≠ []) (hd : ∀ d ∈ l, ∀ e ∈ l, d.1 = e.1 → d = e) :
    (match refD l dom.length dom with
     | some d => bestF l dom = d ∧ d.1 ≠ []
     | none => (bestF l dom).1 = []) := by
  obtain ⟨r1, r2⟩ := refD_spec l dom.length dom (Nat.le_refl _)
  obtain ⟨b1, b2, b3⟩ := bestF_spec dom l p00 (.inl rfl)
  have hB : l.foldl (bestS dom) p00 = bestF l dom := rfl
  rw [hB] at b1 b2 b3
  cases hq : refD l dom.length dom with
  | some d =>
    obtain ⟨j1, j2, j3⟩ := r1 d hq
    refine ⟨?_, hne d j1⟩
    have hpos : 0 < d.1.length := by have := hne d j1; exact List.length_pos_iff.2 this
    have h4 := b3 d j1 j2
    rcases b1 with h | ⟨h5, h6⟩
    · rw [h] at h4; simp [p00] at h4; have := hne d j1; exact absurd h4 this
    · have h7 := j3 _ h5 h6
      exact hd _ h5 d j1 (match_same h6 j2 (by omega))
  | none =>
    have h4 := r2 hq
    rcases b1 with h | ⟨h5, h6⟩
    · rw [h]; rfl
    · rw [h4 _ h5] at h6; cases h6
end Go.Proofs.YtndjmidmfmcbkaaGreatDoor

/- The party of an address: the walks, on both sides. -/
namespace Go.Proofs.YtndjmidmfmcbkaaGreatDoor
open Go.RowKit
set_option linter.unusedVariables false
set_option linter.unusedSimpArgs false
set_option linter.defProp false

/- paperchase/privilege.party -/
def ir_privilege_party_L0 : IC :=
  (.seq (.reg [⟨some 34, .bin .lss (.t 33) (.t 32), none⟩])
    (.seq (.cond (.t 34) .skip (.exit 0))
    (.seq (.block 1 (.seq (.reg [⟨some 35, .ixa 3 (.t 31) (.t 33), none⟩,
      ⟨some 36, .ld 3 true (.t 35), none⟩,
      ⟨some 15, .alc 96 [.str [], .int .i64 0, .int .i64 0], none⟩,
      ⟨none, .st 3 (.t 15) (.t 36), none⟩])
    (.seq (.reg [⟨some 37, .fla 0 (.t 15), none⟩,
      ⟨some 38, .ld 1 false (.t 37), none⟩,
      ⟨some 39, .mov (.t 11), none⟩,
      ⟨some 40, .bin .eql (.t 38) (.t 39), none⟩,
      ⟨some 41, .mov (.t 40), none⟩,
      ⟨some 42, .mov (.t 11), (some (41, false))⟩,
      ⟨some 43, .fla 0 (.t 15), (some (41, false))⟩,
      ⟨some 44, .ld 1 false (.t 43), (some (41, false))⟩,
      ⟨some 45, .bin .add (.c (.str [46])) (.t 44), (some (41, false))⟩,
      ⟨some 46, .call 156 [.t 42, .t 45], (some (41, false))⟩,
      ⟨some 47, .pick (.t 41) (.c (.bool true)) (.t 46), none⟩,
      ⟨some 48, .mov (.t 47), none⟩,
      ⟨some 49, .fla 0 (.t 15), (some (48, true))⟩,
      ⟨some 50, .ld 1 false (.t 49), (some (48, true))⟩,
      ⟨some 51, .sln (.t 50), (some (48, true))⟩,
      ⟨some 52, .fla 0 (.t 13), (some (48, true))⟩,
      ⟨some 53, .ld 1 false (.t 52), (some (48, true))⟩,
      ⟨some 54, .sln (.t 53), (some (48, true))⟩,
      ⟨some 55, .bin .gtr (.t 51) (.t 54), (some (48, true))⟩,
      ⟨some 56, .pick (.t 48) (.t 55) (.c (.bool false)), none⟩])
    (.cond (.t 56) (.reg [⟨some 57, .ld 3 true (.t 15), none⟩,
      ⟨none, .st 3 (.t 13) (.t 57), none⟩]) .skip))))
    (.cut (.reg [⟨some 58, .bin .add (.t 33) (.c (.int .i64 1)), none⟩,
      ⟨some 33, .mov (.t 58), none⟩])))))
def ir_privilege_party : IC :=
  (.seq (.reg [⟨some 6, .alc 36 [.str [], .int .i64 0, .int .i64 0], none⟩,
      ⟨some 7, .mov (.c (.bool false)), none⟩])
    (.seq (.seq (.reg [⟨some 17, .mov (.t 0), none⟩,
      ⟨some 18, .mov (.t 2), none⟩,
      ⟨some 19, .call 78 [.t 17, .t 18], none⟩,
      ⟨some 16, .mov (.t 19), none⟩,
      ⟨some 20, .ext 0 (.t 16), none⟩,
      ⟨some 21, .ext 1 (.t 16), none⟩,
      ⟨some 8, .alc 36 [.str [], .int .i64 0, .int .i64 0], none⟩,
      ⟨none, .st 3 (.t 8) (.t 20), none⟩,
      ⟨some 9, .mov (.t 21), none⟩])
    (.seq (.reg [⟨some 22, .mov (.t 9), none⟩])
    (.cond (.t 22) (.seq (.reg [⟨some 23, .ld 3 true (.t 8), none⟩,
      ⟨none, .st 3 (.t 6) (.t 23), none⟩,
      ⟨some 7, .mov (.c (.bool true)), none⟩])
    .ret) .skip)))
    (.seq (.reg [⟨some 25, .mov (.t 2), none⟩,
      ⟨some 26, .call 83 [.t 25, .c (.str [64])], none⟩,
      ⟨some 24, .mov (.t 26), none⟩,
      ⟨some 27, .ext 0 (.t 24), none⟩,
      ⟨some 28, .ext 1 (.t 24), none⟩,
      ⟨some 29, .ext 2 (.t 24), none⟩,
      ⟨some 10, .mov (.t 27), none⟩,
      ⟨some 11, .mov (.t 28), none⟩,
      ⟨some 12, .mov (.t 29), none⟩])
    (.seq (.reg [⟨some 30, .bld [.str [], .int .i64 0, .int .i64 0] [], none⟩,
      ⟨some 13, .alc 96 [.str [], .int .i64 0, .int .i64 0], none⟩,
      ⟨none, .st 3 (.t 13) (.t 30), none⟩])
    (.seq (.seq (.reg [⟨some 31, .mov (.t 1), none⟩,
      ⟨some 32, .len (.t 31), none⟩,
      ⟨some 33, .mov (.c (.int .i64 0)), none⟩])
    (.block 0 (.loop ir_privilege_party_L0)))
    (.seq (.seq (.reg [⟨some 59, .fla 0 (.t 13), none⟩,
      ⟨some 60, .ld 1 false (.t 59), none⟩,
      ⟨some 61, .bin .eql (.t 60) (.c (.str [])), none⟩])
    (.cond (.t 61) (.seq (.reg [⟨some 62, .bld [.str [], .int .i64 0, .int .i64 0] [], none⟩,
      ⟨none, .st 3 (.t 6) (.t 62), none⟩,
      ⟨some 7, .mov (.c (.bool false)), none⟩])
    .ret) .skip))
    (.seq (.reg [⟨some 63, .mov (.t 2), none⟩,
      ⟨some 64, .fla 1 (.t 13), none⟩,
      ⟨some 65, .ld 1 false (.t 64), none⟩,
      ⟨some 66, .fla 2 (.t 13), none⟩,
      ⟨some 67, .ld 1 false (.t 66), none⟩,
      ⟨some 68, .bld [.str [], .int .i64 0, .int .i64 0] [(0, 1, .t 63), (1, 1, .t 65), (2, 1, .t 67)], none⟩,
      ⟨none, .st 3 (.t 6) (.t 68), none⟩,
      ⟨some 7, .mov (.c (.bool true)), none⟩])
    .ret)))))))
def rs_privilege_party : List IRes := [.c 6 3 true, .t 7]
theorem ck_privilege_party : chkF Tryz.prog Tryz.f80 ir_privilege_party rs_privilege_party 69 = true := by kernel_rfl
/- paperchase/privilege.Domains -/
def ir_privilege_Domains : IC :=
  (.seq (.reg [⟨some 6, .alc 36 [.str [], .int .i64 0, .int .i64 0], none⟩,
      ⟨some 7, .mov (.c (.bool false)), none⟩,
      ⟨some 8, .mov (.c (.int .i64 0)), none⟩])
    (.seq (.seq (.reg [⟨some 12, .mov (.t 0), none⟩,
      ⟨some 13, .call 11 [.t 12], none⟩,
      ⟨some 14, .mov (.t 1), none⟩,
      ⟨some 15, .call 79 [.t 14], none⟩,
      ⟨some 16, .mov (.t 2), none⟩,
      ⟨some 17, .call 77 [.t 16], none⟩,
      ⟨some 18, .bsl 1 [.t 13, .t 15, .t 17], none⟩,
      ⟨some 19, .call 73 [.t 18], none⟩,
      ⟨some 9, .mov (.t 19), none⟩])
    (.seq (.reg [⟨some 20, .mov (.t 9), none⟩,
      ⟨some 21, .bin .neq (.t 20) (.c (.int .i64 0)), none⟩])
    (.cond (.t 21) (.seq (.reg [⟨some 22, .bld [.str [], .int .i64 0, .int .i64 0] [], none⟩,
      ⟨some 23, .mov (.t 9), none⟩,
      ⟨none, .st 3 (.t 6) (.t 22), none⟩,
      ⟨some 7, .mov (.c (.bool false)), none⟩,
      ⟨some 8, .mov (.t 23), none⟩])
    .ret) .skip)))
    (.seq (.reg [⟨some 25, .mov (.t 0), none⟩,
      ⟨some 26, .mov (.t 1), none⟩,
      ⟨some 27, .mov (.t 2), none⟩,
      ⟨some 28, .call 80 [.t 25, .t 26, .t 27], none⟩,
      ⟨some 24, .mov (.t 28), none⟩,
      ⟨some 29, .ext 0 (.t 24), none⟩,
      ⟨some 30, .ext 1 (.t 24), none⟩,
      ⟨some 10, .alc 36 [.str [], .int .i64 0, .int .i64 0], none⟩,
      ⟨none, .st 3 (.t 10) (.t 29), none⟩,
      ⟨some 11, .mov (.t 30), none⟩])
    (.seq (.reg [⟨some 31, .ld 3 true (.t 10), none⟩,
      ⟨some 32, .mov (.t 11), none⟩,
      ⟨none, .st 3 (.t 6) (.t 31), none⟩,
      ⟨some 7, .mov (.t 32), none⟩,
      ⟨some 8, .mov (.c (.int .i64 0)), none⟩])
    .ret))))
def rs_privilege_Domains : List IRes := [.c 6 3 true, .t 7, .t 8]
theorem ck_privilege_Domains : chkF Tryz.prog Tryz.f14 ir_privilege_Domains rs_privilege_Domains 33 = true := by kernel_rfl
/- paperchase/chaseref1.partyOf -/
def ir_chaseref1_partyOf_L2 : IC :=
  (.seq (.reg [⟨some 39, .bin .lss (.t 38) (.t 37), none⟩])
    (.seq (.cond (.t 39) .skip (.exit 4))
    (.seq (.block 5 (.seq (.reg [⟨some 40, .ixa 3 (.t 36) (.t 38), none⟩,
      ⟨some 41, .ld 3 true (.t 40), none⟩,
      ⟨some 14, .alc 96 [.str [], .int .i64 0, .int .i64 0], none⟩,
      ⟨none, .st 3 (.t 14) (.t 41), none⟩])
    (.seq (.reg [⟨some 42, .fla 0 (.t 14), none⟩,
      ⟨some 43, .ld 1 false (.t 42), none⟩,
      ⟨some 44, .mov (.t 11), none⟩,
      ⟨some 45, .bin .eql (.t 43) (.t 44), none⟩])
    (.cond (.t 45) (.seq (.reg [⟨some 46, .mov (.t 2), none⟩,
      ⟨some 47, .fla 1 (.t 14), none⟩,
      ⟨some 48, .ld 1 false (.t 47), none⟩,
      ⟨some 49, .fla 2 (.t 14), none⟩,
      ⟨some 50, .ld 1 false (.t 49), none⟩,
      ⟨some 51, .bld [.str [], .int .i64 0, .int .i64 0] [(0, 1, .t 46), (1, 1, .t 48), (2, 1, .t 50)], none⟩,
      ⟨none, .st 3 (.t 6) (.t 51), none⟩,
      ⟨some 7, .mov (.c (.bool true)), none⟩])
    .ret) .skip))))
    (.reg [⟨some 52, .bin .add (.t 38) (.c (.int .i64 1)), none⟩,
      ⟨some 38, .mov (.t 52), none⟩]))))
def ir_chaseref1_partyOf_L1 : IC :=
  (.block 3 (.seq (.seq (.reg [⟨some 36, .mov (.t 1), none⟩,
      ⟨some 37, .len (.t 36), none⟩,
      ⟨some 38, .mov (.c (.int .i64 0)), none⟩])
    (.block 4 (.loop ir_chaseref1_partyOf_L2)))
    (.seq (.reg [⟨some 54, .mov (.t 11), none⟩,
      ⟨some 55, .call 83 [.t 54, .c (.str [46])], none⟩,
      ⟨some 53, .mov (.t 55), none⟩,
      ⟨some 56, .ext 0 (.t 53), none⟩,
      ⟨some 57, .ext 1 (.t 53), none⟩,
      ⟨some 58, .ext 2 (.t 53), none⟩,
      ⟨some 15, .mov (.t 56), none⟩,
      ⟨some 16, .mov (.t 57), none⟩,
      ⟨some 17, .mov (.t 58), none⟩])
    (.seq (.seq (.reg [⟨some 59, .mov (.t 17), none⟩,
      ⟨some 60, .not (.t 59), none⟩])
    (.cond (.t 60) (.seq (.reg [⟨some 61, .bld [.str [], .int .i64 0, .int .i64 0] [], none⟩,
      ⟨none, .st 3 (.t 6) (.t 61), none⟩,
      ⟨some 7, .mov (.c (.bool false)), none⟩])
    .ret) .skip))
    (.reg [⟨some 62, .mov (.t 16), none⟩,
      ⟨some 11, .mov (.t 62), none⟩])))))
def ir_chaseref1_partyOf_L0 : IC :=
  (.seq (.reg [⟨some 21, .bin .lss (.t 20) (.t 19), none⟩])
    (.seq (.cond (.t 21) .skip (.exit 0))
    (.seq (.block 1 (.seq (.reg [⟨some 22, .ixa 3 (.t 18) (.t 20), none⟩,
      ⟨some 23, .ld 3 true (.t 22), none⟩,
      ⟨some 9, .alc 36 [.str [], .int .i64 0, .int .i64 0], none⟩,
      ⟨none, .st 3 (.t 9) (.t 23), none⟩])
    (.seq (.reg [⟨some 24, .fla 0 (.t 9), none⟩,
      ⟨some 25, .ld 1 false (.t 24), none⟩,
      ⟨some 26, .mov (.t 2), none⟩,
      ⟨some 27, .bin .eql (.t 25) (.t 26), none⟩])
    (.cond (.t 27) (.seq (.reg [⟨some 28, .ld 3 true (.t 9), none⟩,
      ⟨none, .st 3 (.t 6) (.t 28), none⟩,
      ⟨some 7, .mov (.c (.bool true)), none⟩])
    .ret) .skip))))
    (.reg [⟨some 29, .bin .add (.t 20) (.c (.int .i64 1)), none⟩,
      ⟨some 20, .mov (.t 29), none⟩]))))
def ir_chaseref1_partyOf : IC :=
  (.seq (.reg [⟨some 6, .alc 36 [.str [], .int .i64 0, .int .i64 0], none⟩,
      ⟨some 7, .mov (.c (.bool false)), none⟩])
    (.seq (.seq (.reg [⟨some 18, .mov (.t 0), none⟩,
      ⟨some 19, .len (.t 18), none⟩,
      ⟨some 20, .mov (.c (.int .i64 0)), none⟩])
    (.block 0 (.loop ir_chaseref1_partyOf_L0)))
    (.seq (.reg [⟨some 31, .mov (.t 2), none⟩,
      ⟨some 32, .call 83 [.t 31, .c (.str [64])], none⟩,
      ⟨some 30, .mov (.t 32), none⟩,
      ⟨some 33, .ext 0 (.t 30), none⟩,
      ⟨some 34, .ext 1 (.t 30), none⟩,
      ⟨some 35, .ext 2 (.t 30), none⟩,
      ⟨some 10, .mov (.t 33), none⟩,
      ⟨some 11, .mov (.t 34), none⟩,
      ⟨some 12, .mov (.t 35), none⟩])
    (.block 2 (.loop ir_chaseref1_partyOf_L1)))))
def rs_chaseref1_partyOf : List IRes := [.c 6 3 true, .t 7]
theorem ck_chaseref1_partyOf : chkF Tryz.prog Tryz.f86 ir_chaseref1_partyOf rs_chaseref1_partyOf 63 = true := by kernel_rfl
/- paperchase/chaseref1.PartyOf -/
def ir_chaseref1_PartyOf : IC :=
  (.seq (.reg [⟨some 6, .alc 36 [.str [], .int .i64 0, .int .i64 0], none⟩,
      ⟨some 7, .mov (.c (.bool false)), none⟩])
    (.seq (.reg [⟨some 8, .mov (.t 0), none⟩,
      ⟨some 9, .mov (.t 1), none⟩,
      ⟨some 10, .mov (.t 2), none⟩,
      ⟨some 11, .call 86 [.t 8, .t 9, .t 10], none⟩,
      ⟨some 12, .ext 0 (.t 11), none⟩,
      ⟨some 13, .ext 1 (.t 11), none⟩,
      ⟨none, .st 3 (.t 6) (.t 12), none⟩,
      ⟨some 7, .mov (.t 13), none⟩])
    .ret))
def rs_chaseref1_PartyOf : List IRes := [.c 6 3 true, .t 7]
theorem ck_chaseref1_PartyOf : chkF Tryz.prog Tryz.f18 ir_chaseref1_PartyOf rs_chaseref1_PartyOf 14 = true := by kernel_rfl


def domOf (m : List UInt8) : List UInt8 := (cutF m [64]).2.1
/-- The party of an address, by the program. -/
def partyF (l some' : List Par) (m : List UInt8) : Par × Bool :=
  if (roleF l m).2 = true then ((roleF l m).1, true)
  else if (bestF some' (domOf m)).1 = [] then (p00, false) else ((m, (bestF some' (domOf m)).2), true)
/-- The party of an address, by the reference. -/
def partyR (l some' : List Par) (m : List UInt8) : Par × Bool :=
  match findN l m with
  | some p => (p, true)
  | none => match refD some' (domOf m).length (domOf m) with
    | some d => ((m, d.2), true)
    | none => (p00, false)
theorem party_same {l some' : List Par} (m : List UInt8) (hne : ∀ d ∈ some', d.1 ≠ []) (hd : ∀ d ∈ some', ∀ e ∈ some', d.1 = e.1 → d = e) : partyF l some' m = partyR l some' m := by
  unfold partyF partyR
  have hr : roleF l m = match findN l m with | some p => (p, true) | none => (p00, false) := rfl
  rw [hr]
  cases hq : findN l m with
  | some p => rfl
  | none =>
    have := best_ref (domOf m) hne hd
    cases h2 : refD some' (domOf m).length (domOf m) with
    | some d =>
      rw [h2] at this
      obtain ⟨e1, e2⟩ := this
      simp only [e1]
      rw [if_neg e2]
      rfl
    | none =>
      rw [h2] at this
      simp only
      rw [if_pos this]
      rfl
theorem party_ok (l some' : List Par) (m : List UInt8) (hl : l.length ≤ 1000000) (hs : SortedP l) (hl2 : some'.length ≤ 1000000) (hb : ∀ p ∈ some', p.1.length ≤ 1000000) (hm : m.length ≤ 1000000) : PCall Tryz.prog E0 80 [.sl 3 (parE l), .sl 3 (parE some'), .str m] (· = .tup [parA (partyF l some' m).1, .bool (partyF l some' m).2]) := by
  refine pcallF mixed Tryz.func80 ck_privilege_party ?_
  simp only [a0, l0, OS.ao, List.map_cons, List.map_nil, List.length_cons, List.length_nil, List.cons_append, List.nil_append, Nat.reduceSub, Nat.reduceAdd, List.replicate_succ, List.replicate_zero, ir_privilege_party, rs_privilege_party, ZZ, FnG_some, IsnK_some, Za, Zb, Zc, Zd, Ze, Zf, Zg, Zh, rd, AV.un, AV.unA, AV.ad, Zi, Zj, Zk, Zl, Zm, Zn, Zo, Zp, Zq, Zr, Zs, Zt, Zu, Zv, Zw, Zx, Zy, Zz, Zaa, Zab, Zac, Zad, Zae, Zaf, Zag, Zah, Zai, Zaj, Zak, Zal, Zam, Zan, wk1, wk, Zao, Zap, Zaq, Zar, Zas, Zat, Zau, Zav, AV.kill, AO.kill, AV.thaw, AO.thaw, Zaw, Zax, Zay, Zaz, Zba, Zbb, Zbc, Zbd, Zbe, ite_true, ite_false, reduceCtorEq, Nat.reduceAdd, Nat.reduceMul, Nat.reduceLeDiff, Nat.reduceLT, Nat.reduceEqDiff, forall_const]
  refine use1 (role_ok l m hl hs) rfl (.inl rfl) ?_
  unfold partyF
  generalize roleF l m = q
  simp only [parA, par]
  simp only [ZZ, FnG_some, IsnK_some, Za, Zb, Zc, Zd, Ze, Zf, Zg, Zh, rd, AV.un, AV.unA, AV.ad, Zi, Zj, Zk, Zl, Zm, Zn, Zo, Zp, Zq, Zr, Zs, Zt, Zu, Zv, Zw, Zx, Zy, Zz, Zaa, Zab, Zac, Zad, Zae, Zaf, Zag, Zah, Zai, Zaj, Zak, Zal, Zam, Zan, wk1, wk, Zao, Zap, Zaq, Zar, Zas, Zat, Zau, Zav, AV.kill, AO.kill, AV.thaw, AO.thaw, Zaw, Zax, Zay, Zaz, Zba, Zbb, Zbc, Zbd, Zbe, ite_true, ite_false, reduceCtorEq, Nat.reduceAdd, Nat.reduceMul, Nat.reduceLeDiff, Nat.reduceLT, Nat.reduceEqDiff, forall_const]
  refine br ?_ ?_
  · intro h
    rw [if_pos h]
    simp only [ZZ, FnG_some, IsnK_some, Za, Zb, Zc, Zd, Ze, Zf, Zg, Zh, rd, AV.un, AV.unA, AV.ad, Zi, Zj, Zk, Zl, Zm, Zn, Zo, Zp, Zq, Zr, Zs, Zt, Zu, Zv, Zw, Zx, Zy, Zz, Zaa, Zab, Zac, Zad, Zae, Zaf, Zag, Zah, Zai, Zaj, Zak, Zal, Zam, Zan, wk1, wk, Zao, Zap, Zaq, Zar, Zas, Zat, Zau, Zav, AV.kill, AO.kill, AV.thaw, AO.thaw, Zaw, Zax, Zay, Zaz, Zba, Zbb, Zbc, Zbd, Zbe, ite_true, ite_false, reduceCtorEq, Nat.reduceAdd, Nat.reduceMul, Nat.reduceLeDiff, Nat.reduceLT, Nat.reduceEqDiff, forall_const]
  intro h
  rw [if_neg (by simp [h])]
  simp only [ZZ, FnG_some, IsnK_some, Za, Zb, Zc, Zd, Ze, Zf, Zg, Zh, rd, AV.un, AV.unA, AV.ad, Zi, Zj, Zk, Zl, Zm, Zn, Zo, Zp, Zq, Zr, Zs, Zt, Zu, Zv, Zw, Zx, Zy, Zz, Zaa, Zab, Zac, Zad, Zae, Zaf, Zag, Zah, Zai, Zaj, Zak, Zal, Zam, Zan, wk1, wk, Zao, Zap, Zaq, Zar, Zas, Zat, Zau, Zav, AV.kill, AO.kill, AV.thaw, AO.thaw, Zaw, Zax, Zay, Zaz, Zba, Zbb, Zbc, Zbd, Zbe, ite_true, ite_false, reduceCtorEq, Nat.reduceAdd, Nat.reduceMul, Nat.reduceLeDiff, Nat.reduceLT, Nat.reduceEqDiff, forall_const]
  refine use1 (Cut_ok m [64] (by omega)) rfl (.inl rfl) ?_
  have hcl := cutF_len m [64]
  have hD : domOf m = (cutF m [64]).2.1 := rfl
  rw [hD]
  generalize cutF m [64] = cq at *
  simp only [ZZ, FnG_some, IsnK_some, Za, Zb, Zc, Zd, Ze, Zf, Zg, Zh, rd, AV.un, AV.unA, AV.ad, Zi, Zj, Zk, Zl, Zm, Zn, Zo, Zp, Zq, Zr, Zs, Zt, Zu, Zv, Zw, Zx, Zy, Zz, Zaa, Zab, Zac, Zad, Zae, Zaf, Zag, Zah, Zai, Zaj, Zak, Zal, Zam, Zan, wk1, wk, Zao, Zap, Zaq, Zar, Zas, Zat, Zau, Zav, AV.kill, AO.kill, AV.thaw, AO.thaw, Zaw, Zax, Zay, Zaz, Zba, Zbb, Zbc, Zbd, Zbe, ite_true, ite_false, reduceCtorEq, Nat.reduceAdd, Nat.reduceMul, Nat.reduceLeDiff, Nat.reduceLT, Nat.reduceEqDiff, forall_const, parE_len]
  refine loop_intro (fun n fr L => ∃ (k : Nat) (b : Par), k ≤ some'.length ∧ n = some'.length - k ∧ (b = bestF (some'.take k) cq.2.1) ∧ fr = [.any, .any, .p (.str m), .any, .any, .any, .adr (.l 6) 0, .any, .any, .any, .any, .p (.str cq.2.1), .any, .adr (.l 13) 0, .any, .any, .any, .any, .any, .any, .any, .any, .any, .any, .any, .any, .any, .any, .any, .any, .any, .p (.sl 3 (parE some')), .p (int (some'.length : Nat)), .p (int (k : Nat)), .any, .any, .any, .any, .any, .any, .any, .any, .any, .any, .any, .any, .any, .any, .any, .any, .any, .any, .any, .any, .any, .any, .any, .any, .any, .any, .any, .any, .any, .any, .any, .any, .any, .any, .any] ∧ L = [(.l 6, .box [.p (.str []), .p (int 0), .p (int 0)] tParty), (.l 13, .box [.p (.str b.1), .p (int b.2.1), .p (int b.2.2)] tDomain)]) (some'.length) [.any, .any, .p (.str m), .any, .any, .any, .adr (.l 6) 0, .any, .any, .any, .any, .p (.str cq.2.1), .any, .adr (.l 13) 0, .any, .any, .any, .any, .any, .any, .any, .any, .any, .any, .any, .any, .any, .any, .any, .any, .any, .p (.sl 3 (parE some')), .p (int (some'.length : Nat)), .p (int (0 : Nat)), .any, .any, .any, .any, .any, .any, .any, .any, .any, .any, .any, .any, .any, .any, .any, .any, .any, .any, .any, .any, .any, .any, .any, .any, .any, .any, .any, .any, .any, .any, .any, .any, .any, .any, .any] [(.l 6, .box [.p (.str []), .p (int 0), .p (int 0)] tParty), (.l 13, .box [.p (.str p00.1), .p (int p00.2.1), .p (int p00.2.2)] tDomain)] (by simp only [ZZ, FnG_some, IsnK_some, Za, Zb, Zc, Zd, Ze, Zf, Zg, Zh, rd, AV.un, AV.unA, AV.ad, Zi, Zj, Zk, Zl, Zm, Zn, Zo, Zp, Zq, Zr, Zs, Zt, Zu, Zv, Zw, Zx, Zy, Zz, Zaa, Zab, Zac, Zad, Zae, Zaf, Zag, Zah, Zai, Zaj, Zak, Zal, Zam, Zan, wk1, wk, Zao, Zap, Zaq, Zar, Zas, Zat, Zau, Zav, AV.kill, AO.kill, AV.thaw, AO.thaw, Zaw, Zax, Zay, Zaz, Zba, Zbb, Zbc, Zbd, Zbe, ite_true, ite_false, reduceCtorEq, Nat.reduceAdd, Nat.reduceMul, Nat.reduceLeDiff, Nat.reduceLT, Nat.reduceEqDiff, forall_const, parE_len]; try trivial) (by (simp only [ZZ, FnG_some, IsnK_some, Za, Zb, Zc, Zd, Ze, Zf, Zg, Zh, rd, AV.un, AV.unA, AV.ad, Zi, Zj, Zk, Zl, Zm, Zn, Zo, Zp, Zq, Zr, Zs, Zt, Zu, Zv, Zw, Zx, Zy, Zz, Zaa, Zab, Zac, Zad, Zae, Zaf, Zag, Zah, Zai, Zaj, Zak, Zal, Zam, Zan, wk1, wk, Zao, Zap, Zaq, Zar, Zas, Zat, Zau, Zav, AV.kill, AO.kill, AV.thaw, AO.thaw, Zaw, Zax, Zay, Zaz, Zba, Zbb, Zbc, Zbd, Zbe, ite_true, ite_false, reduceCtorEq, Nat.reduceAdd, Nat.reduceMul, Nat.reduceLeDiff, Nat.reduceLT, Nat.reduceEqDiff, forall_const]; try trivial)) ⟨0, p00, by omega, by omega, by simp [bestF], rfl, rfl⟩ ?_
  rintro n fr L ⟨k, b, hk, rfl, hbst, rfl, rfl⟩
  simp only [ir_privilege_party_L0, ZZ, FnG_some, IsnK_some, Za, Zb, Zc, Zd, Ze, Zf, Zg, Zh, rd, AV.un, AV.unA, AV.ad, Zi, Zj, Zk, Zl, Zm, Zn, Zo, Zp, Zq, Zr, Zs, Zt, Zu, Zv, Zw, Zx, Zy, Zz, Zaa, Zab, Zac, Zad, Zae, Zaf, Zag, Zah, Zai, Zaj, Zak, Zal, Zam, Zan, wk1, wk, Zao, Zap, Zaq, Zar, Zas, Zat, Zau, Zav, AV.kill, AO.kill, AV.thaw, AO.thaw, Zaw, Zax, Zay, Zaz, Zba, Zbb, Zbc, Zbd, Zbe, ite_true, ite_false, reduceCtorEq, Nat.reduceAdd, Nat.reduceMul, Nat.reduceLeDiff, Nat.reduceLT, Nat.reduceEqDiff, forall_const]
  refine br ?_ ?_
  · intro h
    have hlt : k < some'.length := by have := of_decide_eq_true h; omega
    obtain ⟨x, hx⟩ : ∃ x, some'[k]? = some x := ⟨_, List.getElem?_eq_getElem hlt⟩
    have hg := parE_get hx
    have hbx := hb x (List.mem_of_getElem? hx)
    have hnx := bestF_snoc (dom := cq.2.1) hx
    rw [← hbst] at hnx
    simp only [ZZ, FnG_some, IsnK_some, Za, Zb, Zc, Zd, Ze, Zf, Zg, Zh, rd, AV.un, AV.unA, AV.ad, Zi, Zj, Zk, Zl, Zm, Zn, Zo, Zp, Zq, Zr, Zs, Zt, Zu, Zv, Zw, Zx, Zy, Zz, Zaa, Zab, Zac, Zad, Zae, Zaf, Zag, Zah, Zai, Zaj, Zak, Zal, Zam, Zan, wk1, wk, Zao, Zap, Zaq, Zar, Zas, Zat, Zau, Zav, AV.kill, AO.kill, AV.thaw, AO.thaw, Zaw, Zax, Zay, Zaz, Zba, Zbb, Zbc, Zbd, Zbe, ite_true, ite_false, reduceCtorEq, Nat.reduceAdd, Nat.reduceMul, Nat.reduceLeDiff, Nat.reduceLT, Nat.reduceEqDiff, forall_const, hg, parE_len]
    ((repeat' (with_reducible apply And.intro)) <;> try (first | (intro _; simp; omega) | (first | first | assumption | trivial | exact (fun hq => by rw [hq]; rfl) | exact i64_of (by omega) (by omega) | omega | (simp; done) | (simp; omega) | (intro hsc; have hs0 := hsc; (try have hsd := of_decide_eq_true hsc); (try simp only [Bool.not_eq_true', Bool.or_eq_false_iff, Bool.and_eq_true, Bool.or_eq_true, decide_eq_true_eq, decide_eq_false_iff_not] at hsc); (repeat' (with_reducible apply And.intro)) <;> (first | assumption | trivial | exact (fun hq => by rw [hq]; rfl) | exact i64_of (by omega) (by omega) | omega | (simp; done) | (simp; omega) | (intro hse; simp [hse, hs0]; done) | (intro hse; simp only [hse, hs0, Bool.true_and, Bool.and_true, Bool.not_false, Bool.not_true, Bool.and_self]; done))))))
    refine useG (fun _ => HasSuffix_ok cq.2.1 (46 :: x.1) (by omega)) rfl (.inl rfl) ?_
    simp only [ZZ, FnG_some, IsnK_some, Za, Zb, Zc, Zd, Ze, Zf, Zg, Zh, rd, AV.un, AV.unA, AV.ad, Zi, Zj, Zk, Zl, Zm, Zn, Zo, Zp, Zq, Zr, Zs, Zt, Zu, Zv, Zw, Zx, Zy, Zz, Zaa, Zab, Zac, Zad, Zae, Zaf, Zag, Zah, Zai, Zaj, Zak, Zal, Zam, Zan, wk1, wk, Zao, Zap, Zaq, Zar, Zas, Zat, Zau, Zav, AV.kill, AO.kill, AV.thaw, AO.thaw, Zaw, Zax, Zay, Zaz, Zba, Zbb, Zbc, Zbd, Zbe, ite_true, ite_false, reduceCtorEq, Nat.reduceAdd, Nat.reduceMul, Nat.reduceLeDiff, Nat.reduceLT, Nat.reduceEqDiff, forall_const]
    ((repeat' (with_reducible apply And.intro)) <;> try ((first | first | assumption | trivial | exact (fun hq => by rw [hq]; rfl) | exact i64_of (by omega) (by omega) | omega | (simp; done) | (simp; omega) | (intro hsc; have hs0 := hsc; (try have hsd := of_decide_eq_true hsc); (try simp only [Bool.not_eq_true', Bool.or_eq_false_iff, Bool.and_eq_true, Bool.or_eq_true, decide_eq_true_eq, decide_eq_false_iff_not] at hsc); (repeat' (with_reducible apply And.intro)) <;> (first | assumption | trivial | exact (fun hq => by rw [hq]; rfl) | exact i64_of (by omega) (by omega) | omega | (simp; done) | (simp; omega) | (intro hse; simp [hse, hs0]; done) | (intro hse; simp only [hse, hs0, Bool.true_and, Bool.and_true, Bool.not_false, Bool.not_true, Bool.and_self]; done))))))
    have hq : ((decide (x.1 = cq.2.1) || sufE cq.2.1 (46 :: x.1)) && decide ((b.1.length : Int) < x.1.length)) = (matchB cq.2.1 x.1 && decide (b.1.length < x.1.length)) := by
      rw [matchB]
      have : decide ((b.1.length : Int) < x.1.length) = decide (b.1.length < x.1.length) := by simp
      rw [this]
    rw [hq]
    refine br ?_ ?_
    · intro hb1
      simp only [ZZ, FnG_some, IsnK_some, Za, Zb, Zc, Zd, Ze, Zf, Zg, Zh, rd, AV.un, AV.unA, AV.ad, Zi, Zj, Zk, Zl, Zm, Zn, Zo, Zp, Zq, Zr, Zs, Zt, Zu, Zv, Zw, Zx, Zy, Zz, Zaa, Zab, Zac, Zad, Zae, Zaf, Zag, Zah, Zai, Zaj, Zak, Zal, Zam, Zan, wk1, wk, Zao, Zap, Zaq, Zar, Zas, Zat, Zau, Zav, AV.kill, AO.kill, AV.thaw, AO.thaw, Zaw, Zax, Zay, Zaz, Zba, Zbb, Zbc, Zbd, Zbe, ite_true, ite_false, reduceCtorEq, Nat.reduceAdd, Nat.reduceMul, Nat.reduceLeDiff, Nat.reduceLT, Nat.reduceEqDiff, forall_const]
      refine cut_same (by simp only [ZZ, FnG_some, IsnK_some, Za, Zb, Zc, Zd, Ze, Zf, Zg, Zh, rd, AV.un, AV.unA, AV.ad, Zi, Zj, Zk, Zl, Zm, Zn, Zo, Zp, Zq, Zr, Zs, Zt, Zu, Zv, Zw, Zx, Zy, Zz, Zaa, Zab, Zac, Zad, Zae, Zaf, Zag, Zah, Zai, Zaj, Zak, Zal, Zam, Zan, wk1, wk, Zao, Zap, Zaq, Zar, Zas, Zat, Zau, Zav, AV.kill, AO.kill, AV.thaw, AO.thaw, Zaw, Zax, Zay, Zaz, Zba, Zbb, Zbc, Zbd, Zbe, ite_true, ite_false, reduceCtorEq, Nat.reduceAdd, Nat.reduceMul, Nat.reduceLeDiff, Nat.reduceLT, Nat.reduceEqDiff, forall_const]) ?_
      simp only [ZZ, FnG_some, IsnK_some, Za, Zb, Zc, Zd, Ze, Zf, Zg, Zh, rd, AV.un, AV.unA, AV.ad, Zi, Zj, Zk, Zl, Zm, Zn, Zo, Zp, Zq, Zr, Zs, Zt, Zu, Zv, Zw, Zx, Zy, Zz, Zaa, Zab, Zac, Zad, Zae, Zaf, Zag, Zah, Zai, Zaj, Zak, Zal, Zam, Zan, wk1, wk, Zao, Zap, Zaq, Zar, Zas, Zat, Zau, Zav, AV.kill, AO.kill, AV.thaw, AO.thaw, Zaw, Zax, Zay, Zaz, Zba, Zbb, Zbc, Zbd, Zbe, ite_true, ite_false, reduceCtorEq, Nat.reduceAdd, Nat.reduceMul, Nat.reduceLeDiff, Nat.reduceLT, Nat.reduceEqDiff, forall_const]
      refine ⟨i64_of (by omega) (by omega), ?_⟩
      refine end_round (some'.length - (k + 1)) [.any, .any, .p (.str m), .any, .any, .any, .adr (.l 6) 0, .any, .any, .any, .any, .p (.str cq.2.1), .any, .adr (.l 13) 0, .any, .any, .any, .any, .any, .any, .any, .any, .any, .any, .any, .any, .any, .any, .any, .any, .any, .p (.sl 3 (parE some')), .p (int (some'.length : Nat)), .p (int ((k + 1) : Nat)), .any, .any, .any, .any, .any, .any, .any, .any, .any, .any, .any, .any, .any, .any, .any, .any, .any, .any, .any, .any, .any, .any, .any, .any, .any, .any, .any, .any, .any, .any, .any, .any, .any, .any, .any] [(.l 6, .box [.p (.str []), .p (int 0), .p (int 0)] tParty), (.l 13, .box [.p (.str (x).1), .p (int (x).2.1), .p (int (x).2.2)] tDomain)] (by omega) (by (simp only [ZZ, FnG_some, IsnK_some, Za, Zb, Zc, Zd, Ze, Zf, Zg, Zh, rd, AV.un, AV.unA, AV.ad, Zi, Zj, Zk, Zl, Zm, Zn, Zo, Zp, Zq, Zr, Zs, Zt, Zu, Zv, Zw, Zx, Zy, Zz, Zaa, Zab, Zac, Zad, Zae, Zaf, Zag, Zah, Zai, Zaj, Zak, Zal, Zam, Zan, wk1, wk, Zao, Zap, Zaq, Zar, Zas, Zat, Zau, Zav, AV.kill, AO.kill, AV.thaw, AO.thaw, Zaw, Zax, Zay, Zaz, Zba, Zbb, Zbc, Zbd, Zbe, ite_true, ite_false, reduceCtorEq, Nat.reduceAdd, Nat.reduceMul, Nat.reduceLeDiff, Nat.reduceLT, Nat.reduceEqDiff, forall_const]; try trivial)) (by (simp only [ZZ, FnG_some, IsnK_some, Za, Zb, Zc, Zd, Ze, Zf, Zg, Zh, rd, AV.un, AV.unA, AV.ad, Zi, Zj, Zk, Zl, Zm, Zn, Zo, Zp, Zq, Zr, Zs, Zt, Zu, Zv, Zw, Zx, Zy, Zz, Zaa, Zab, Zac, Zad, Zae, Zaf, Zag, Zah, Zai, Zaj, Zak, Zal, Zam, Zan, wk1, wk, Zao, Zap, Zaq, Zar, Zas, Zat, Zau, Zav, AV.kill, AO.kill, AV.thaw, AO.thaw, Zaw, Zax, Zay, Zaz, Zba, Zbb, Zbc, Zbd, Zbe, ite_true, ite_false, reduceCtorEq, Nat.reduceAdd, Nat.reduceMul, Nat.reduceLeDiff, Nat.reduceLT, Nat.reduceEqDiff, forall_const]; try trivial)) ⟨k + 1, x, by omega, rfl, by rw [hnx, bestS, if_pos hb1], rfl, rfl⟩
    · intro hb1
      simp only [ZZ, FnG_some, IsnK_some, Za, Zb, Zc, Zd, Ze, Zf, Zg, Zh, rd, AV.un, AV.unA, AV.ad, Zi, Zj, Zk, Zl, Zm, Zn, Zo, Zp, Zq, Zr, Zs, Zt, Zu, Zv, Zw, Zx, Zy, Zz, Zaa, Zab, Zac, Zad, Zae, Zaf, Zag, Zah, Zai, Zaj, Zak, Zal, Zam, Zan, wk1, wk, Zao, Zap, Zaq, Zar, Zas, Zat, Zau, Zav, AV.kill, AO.kill, AV.thaw, AO.thaw, Zaw, Zax, Zay, Zaz, Zba, Zbb, Zbc, Zbd, Zbe, ite_true, ite_false, reduceCtorEq, Nat.reduceAdd, Nat.reduceMul, Nat.reduceLeDiff, Nat.reduceLT, Nat.reduceEqDiff, forall_const]
      refine cut_same (by simp only [ZZ, FnG_some, IsnK_some, Za, Zb, Zc, Zd, Ze, Zf, Zg, Zh, rd, AV.un, AV.unA, AV.ad, Zi, Zj, Zk, Zl, Zm, Zn, Zo, Zp, Zq, Zr, Zs, Zt, Zu, Zv, Zw, Zx, Zy, Zz, Zaa, Zab, Zac, Zad, Zae, Zaf, Zag, Zah, Zai, Zaj, Zak, Zal, Zam, Zan, wk1, wk, Zao, Zap, Zaq, Zar, Zas, Zat, Zau, Zav, AV.kill, AO.kill, AV.thaw, AO.thaw, Zaw, Zax, Zay, Zaz, Zba, Zbb, Zbc, Zbd, Zbe, ite_true, ite_false, reduceCtorEq, Nat.reduceAdd, Nat.reduceMul, Nat.reduceLeDiff, Nat.reduceLT, Nat.reduceEqDiff, forall_const]) ?_
      simp only [ZZ, FnG_some, IsnK_some, Za, Zb, Zc, Zd, Ze, Zf, Zg, Zh, rd, AV.un, AV.unA, AV.ad, Zi, Zj, Zk, Zl, Zm, Zn, Zo, Zp, Zq, Zr, Zs, Zt, Zu, Zv, Zw, Zx, Zy, Zz, Zaa, Zab, Zac, Zad, Zae, Zaf, Zag, Zah, Zai, Zaj, Zak, Zal, Zam, Zan, wk1, wk, Zao, Zap, Zaq, Zar, Zas, Zat, Zau, Zav, AV.kill, AO.kill, AV.thaw, AO.thaw, Zaw, Zax, Zay, Zaz, Zba, Zbb, Zbc, Zbd, Zbe, ite_true, ite_false, reduceCtorEq, Nat.reduceAdd, Nat.reduceMul, Nat.reduceLeDiff, Nat.reduceLT, Nat.reduceEqDiff, forall_const]
      refine ⟨i64_of (by omega) (by omega), ?_⟩
      refine end_round (some'.length - (k + 1)) [.any, .any, .p (.str m), .any, .any, .any, .adr (.l 6) 0, .any, .any, .any, .any, .p (.str cq.2.1), .any, .adr (.l 13) 0, .any, .any, .any, .any, .any, .any, .any, .any, .any, .any, .any, .any, .any, .any, .any, .any, .any, .p (.sl 3 (parE some')), .p (int (some'.length : Nat)), .p (int ((k + 1) : Nat)), .any, .any, .any, .any, .any, .any, .any, .any, .any, .any, .any, .any, .any, .any, .any, .any, .any, .any, .any, .any, .any, .any, .any, .any, .any, .any, .any, .any, .any, .any, .any, .any, .any, .any, .any] [(.l 6, .box [.p (.str []), .p (int 0), .p (int 0)] tParty), (.l 13, .box [.p (.str b.1), .p (int b.2.1), .p (int b.2.2)] tDomain)] (by omega) (by (simp only [ZZ, FnG_some, IsnK_some, Za, Zb, Zc, Zd, Ze, Zf, Zg, Zh, rd, AV.un, AV.unA, AV.ad, Zi, Zj, Zk, Zl, Zm, Zn, Zo, Zp, Zq, Zr, Zs, Zt, Zu, Zv, Zw, Zx, Zy, Zz, Zaa, Zab, Zac, Zad, Zae, Zaf, Zag, Zah, Zai, Zaj, Zak, Zal, Zam, Zan, wk1, wk, Zao, Zap, Zaq, Zar, Zas, Zat, Zau, Zav, AV.kill, AO.kill, AV.thaw, AO.thaw, Zaw, Zax, Zay, Zaz, Zba, Zbb, Zbc, Zbd, Zbe, ite_true, ite_false, reduceCtorEq, Nat.reduceAdd, Nat.reduceMul, Nat.reduceLeDiff, Nat.reduceLT, Nat.reduceEqDiff, forall_const]; try trivial)) (by (simp only [ZZ, FnG_some, IsnK_some, Za, Zb, Zc, Zd, Ze, Zf, Zg, Zh, rd, AV.un, AV.unA, AV.ad, Zi, Zj, Zk, Zl, Zm, Zn, Zo, Zp, Zq, Zr, Zs, Zt, Zu, Zv, Zw, Zx, Zy, Zz, Zaa, Zab, Zac, Zad, Zae, Zaf, Zag, Zah, Zai, Zaj, Zak, Zal, Zam, Zan, wk1, wk, Zao, Zap, Zaq, Zar, Zas, Zat, Zau, Zav, AV.kill, AO.kill, AV.thaw, AO.thaw, Zaw, Zax, Zay, Zaz, Zba, Zbb, Zbc, Zbd, Zbe, ite_true, ite_false, reduceCtorEq, Nat.reduceAdd, Nat.reduceMul, Nat.reduceLeDiff, Nat.reduceLT, Nat.reduceEqDiff, forall_const]; try trivial)) ⟨k + 1, b, by omega, rfl, by rw [hnx, bestS, if_neg (by rw [hb1]; simp)], rfl, rfl⟩
  · intro h
    have hge : k = some'.length := by have := of_decide_eq_false h; omega
    subst hge
    rw [List.take_length] at hbst
    simp only [ZZ, FnG_some, IsnK_some, Za, Zb, Zc, Zd, Ze, Zf, Zg, Zh, rd, AV.un, AV.unA, AV.ad, Zi, Zj, Zk, Zl, Zm, Zn, Zo, Zp, Zq, Zr, Zs, Zt, Zu, Zv, Zw, Zx, Zy, Zz, Zaa, Zab, Zac, Zad, Zae, Zaf, Zag, Zah, Zai, Zaj, Zak, Zal, Zam, Zan, wk1, wk, Zao, Zap, Zaq, Zar, Zas, Zat, Zau, Zav, AV.kill, AO.kill, AV.thaw, AO.thaw, Zaw, Zax, Zay, Zaz, Zba, Zbb, Zbc, Zbd, Zbe, ite_true, ite_false, reduceCtorEq, Nat.reduceAdd, Nat.reduceMul, Nat.reduceLeDiff, Nat.reduceLT, Nat.reduceEqDiff, forall_const]
    refine br ?_ ?_
    · intro h
      have h : b.1 = [] := of_decide_eq_true h
      simp only [ZZ, FnG_some, IsnK_some, Za, Zb, Zc, Zd, Ze, Zf, Zg, Zh, rd, AV.un, AV.unA, AV.ad, Zi, Zj, Zk, Zl, Zm, Zn, Zo, Zp, Zq, Zr, Zs, Zt, Zu, Zv, Zw, Zx, Zy, Zz, Zaa, Zab, Zac, Zad, Zae, Zaf, Zag, Zah, Zai, Zaj, Zak, Zal, Zam, Zan, wk1, wk, Zao, Zap, Zaq, Zar, Zas, Zat, Zau, Zav, AV.kill, AO.kill, AV.thaw, AO.thaw, Zaw, Zax, Zay, Zaz, Zba, Zbb, Zbc, Zbd, Zbe, ite_true, ite_false, reduceCtorEq, Nat.reduceAdd, Nat.reduceMul, Nat.reduceLeDiff, Nat.reduceLT, Nat.reduceEqDiff, forall_const]
      rw [← hbst, if_pos h]
      rfl
    · intro h
      have h : ¬ b.1 = [] := of_decide_eq_false h
      simp only [ZZ, FnG_some, IsnK_some, Za, Zb, Zc, Zd, Ze, Zf, Zg, Zh, rd, AV.un, AV.unA, AV.ad, Zi, Zj, Zk, Zl, Zm, Zn, Zo, Zp, Zq, Zr, Zs, Zt, Zu, Zv, Zw, Zx, Zy, Zz, Zaa, Zab, Zac, Zad, Zae, Zaf, Zag, Zah, Zai, Zaj, Zak, Zal, Zam, Zan, wk1, wk, Zao, Zap, Zaq, Zar, Zas, Zat, Zau, Zav, AV.kill, AO.kill, AV.thaw, AO.thaw, Zaw, Zax, Zay, Zaz, Zba, Zbb, Zbc, Zbd, Zbe, ite_true, ite_false, reduceCtorEq, Nat.reduceAdd, Nat.reduceMul, Nat.reduceLeDiff, Nat.reduceLT, Nat.reduceEqDiff, forall_const]
      rw [← hbst, if_neg h]

def domainsErr (l some' : List Par) (m : List UInt8) : Int := firstE [peopleF l, domainsF some', whenE (!mailF m) 3]
theorem Domains_ok (l some' : List Par) (m : List UInt8) (hl : l.length ≤ 1000000) (hb : ∀ p ∈ l, p.1.length ≤ 1000000) (hl2 : some'.length ≤ 1000000) (hb2 : ∀ p ∈ some', p.1.length ≤ 1000000) (hm : m.length ≤ 1000000) : PCall Tryz.prog E0 14 [.sl 3 (parE l), .sl 3 (parE some'), .str m] (· = if domainsErr l some' m = 0 then .tup [parA (partyF l some' m).1, .bool (partyF l some' m).2, int 0] else .tup [parA p00, .bool false, int (domainsErr l some' m)]) := by
  refine pcallF mixed Tryz.func14 ck_privilege_Domains ?_
  simp only [a0, l0, OS.ao, List.map_cons, List.map_nil, List.length_cons, List.length_nil, List.cons_append, List.nil_append, Nat.reduceSub, Nat.reduceAdd, List.replicate_succ, List.replicate_zero, ir_privilege_Domains, rs_privilege_Domains, ZZ, FnG_some, IsnK_some, Za, Zb, Zc, Zd, Ze, Zf, Zg, Zh, rd, AV.un, AV.unA, AV.ad, Zi, Zj, Zk, Zl, Zm, Zn, Zo, Zp, Zq, Zr, Zs, Zt, Zu, Zv, Zw, Zx, Zy, Zz, Zaa, Zab, Zac, Zad, Zae, Zaf, Zag, Zah, Zai, Zaj, Zak, Zal, Zam, Zan, wk1, wk, Zao, Zap, Zaq, Zar, Zas, Zat, Zau, Zav, AV.kill, AO.kill, AV.thaw, AO.thaw, Zaw, Zax, Zay, Zaz, Zba, Zbb, Zbc, Zbd, Zbe, ite_true, ite_false, reduceCtorEq, Nat.reduceAdd, Nat.reduceMul, Nat.reduceLeDiff, Nat.reduceLT, Nat.reduceEqDiff, forall_const]
  refine use1 (CheckPeople_ok l hl hb) rfl (.inl rfl) ?_
  simp only [ZZ, FnG_some, IsnK_some, Za, Zb, Zc, Zd, Ze, Zf, Zg, Zh, rd, AV.un, AV.unA, AV.ad, Zi, Zj, Zk, Zl, Zm, Zn, Zo, Zp, Zq, Zr, Zs, Zt, Zu, Zv, Zw, Zx, Zy, Zz, Zaa, Zab, Zac, Zad, Zae, Zaf, Zag, Zah, Zai, Zaj, Zak, Zal, Zam, Zan, wk1, wk, Zao, Zap, Zaq, Zar, Zas, Zat, Zau, Zav, AV.kill, AO.kill, AV.thaw, AO.thaw, Zaw, Zax, Zay, Zaz, Zba, Zbb, Zbc, Zbd, Zbe, ite_true, ite_false, reduceCtorEq, Nat.reduceAdd, Nat.reduceMul, Nat.reduceLeDiff, Nat.reduceLT, Nat.reduceEqDiff, forall_const]
  refine use1 (domainsError_ok some' hl2 hb2) rfl (.inl rfl) ?_
  simp only [ZZ, FnG_some, IsnK_some, Za, Zb, Zc, Zd, Ze, Zf, Zg, Zh, rd, AV.un, AV.unA, AV.ad, Zi, Zj, Zk, Zl, Zm, Zn, Zo, Zp, Zq, Zr, Zs, Zt, Zu, Zv, Zw, Zx, Zy, Zz, Zaa, Zab, Zac, Zad, Zae, Zaf, Zag, Zah, Zai, Zaj, Zak, Zal, Zam, Zan, wk1, wk, Zao, Zap, Zaq, Zar, Zas, Zat, Zau, Zav, AV.kill, AO.kill, AV.thaw, AO.thaw, Zaw, Zax, Zay, Zaz, Zba, Zbb, Zbc, Zbd, Zbe, ite_true, ite_false, reduceCtorEq, Nat.reduceAdd, Nat.reduceMul, Nat.reduceLeDiff, Nat.reduceLT, Nat.reduceEqDiff, forall_const]
  refine use1 (mailError_ok m (by omega)) rfl (.inl rfl) ?_
  simp only [ZZ, FnG_some, IsnK_some, Za, Zb, Zc, Zd, Ze, Zf, Zg, Zh, rd, AV.un, AV.unA, AV.ad, Zi, Zj, Zk, Zl, Zm, Zn, Zo, Zp, Zq, Zr, Zs, Zt, Zu, Zv, Zw, Zx, Zy, Zz, Zaa, Zab, Zac, Zad, Zae, Zaf, Zag, Zah, Zai, Zaj, Zak, Zal, Zam, Zan, wk1, wk, Zao, Zap, Zaq, Zar, Zas, Zat, Zau, Zav, AV.kill, AO.kill, AV.thaw, AO.thaw, Zaw, Zax, Zay, Zaz, Zba, Zbb, Zbc, Zbd, Zbe, ite_true, ite_false, reduceCtorEq, Nat.reduceAdd, Nat.reduceMul, Nat.reduceLeDiff, Nat.reduceLT, Nat.reduceEqDiff, forall_const]
  refine use1 (First_ok [peopleF l, domainsF some', whenE (!mailF m) 3] (by simp)) rfl (.inl rfl) ?_
  rw [show firstE [peopleF l, domainsF some', whenE (!mailF m) 3] = domainsErr l some' m from rfl]
  simp only [ZZ, FnG_some, IsnK_some, Za, Zb, Zc, Zd, Ze, Zf, Zg, Zh, rd, AV.un, AV.unA, AV.ad, Zi, Zj, Zk, Zl, Zm, Zn, Zo, Zp, Zq, Zr, Zs, Zt, Zu, Zv, Zw, Zx, Zy, Zz, Zaa, Zab, Zac, Zad, Zae, Zaf, Zag, Zah, Zai, Zaj, Zak, Zal, Zam, Zan, wk1, wk, Zao, Zap, Zaq, Zar, Zas, Zat, Zau, Zav, AV.kill, AO.kill, AV.thaw, AO.thaw, Zaw, Zax, Zay, Zaz, Zba, Zbb, Zbc, Zbd, Zbe, ite_true, ite_false, reduceCtorEq, Nat.reduceAdd, Nat.reduceMul, Nat.reduceLeDiff, Nat.reduceLT, Nat.reduceEqDiff, forall_const]
  refine br ?_ ?_
  · intro h
    simp only [ZZ, FnG_some, IsnK_some, Za, Zb, Zc, Zd, Ze, Zf, Zg, Zh, rd, AV.un, AV.unA, AV.ad, Zi, Zj, Zk, Zl, Zm, Zn, Zo, Zp, Zq, Zr, Zs, Zt, Zu, Zv, Zw, Zx, Zy, Zz, Zaa, Zab, Zac, Zad, Zae, Zaf, Zag, Zah, Zai, Zaj, Zak, Zal, Zam, Zan, wk1, wk, Zao, Zap, Zaq, Zar, Zas, Zat, Zau, Zav, AV.kill, AO.kill, AV.thaw, AO.thaw, Zaw, Zax, Zay, Zaz, Zba, Zbb, Zbc, Zbd, Zbe, ite_true, ite_false, reduceCtorEq, Nat.reduceAdd, Nat.reduceMul, Nat.reduceLeDiff, Nat.reduceLT, Nat.reduceEqDiff, forall_const]
    rw [if_neg (by simpa using h)]
    rfl
  · intro h
    have h : domainsErr l some' m = 0 := by simpa using h
    rw [if_pos h]
    have hp := firstE_zero h (peopleF l) (by simp)
    simp only [ZZ, FnG_some, IsnK_some, Za, Zb, Zc, Zd, Ze, Zf, Zg, Zh, rd, AV.un, AV.unA, AV.ad, Zi, Zj, Zk, Zl, Zm, Zn, Zo, Zp, Zq, Zr, Zs, Zt, Zu, Zv, Zw, Zx, Zy, Zz, Zaa, Zab, Zac, Zad, Zae, Zaf, Zag, Zah, Zai, Zaj, Zak, Zal, Zam, Zan, wk1, wk, Zao, Zap, Zaq, Zar, Zas, Zat, Zau, Zav, AV.kill, AO.kill, AV.thaw, AO.thaw, Zaw, Zax, Zay, Zaz, Zba, Zbb, Zbc, Zbd, Zbe, ite_true, ite_false, reduceCtorEq, Nat.reduceAdd, Nat.reduceMul, Nat.reduceLeDiff, Nat.reduceLT, Nat.reduceEqDiff, forall_const]
    refine use1 (party_ok l some' m hl (people_sorted hp) hl2 hb2 hm) rfl (.inl rfl) ?_
    generalize partyF l some' m = q
    simp only [parA, par]
    simp only [ZZ, FnG_some, IsnK_some, Za, Zb, Zc, Zd, Ze, Zf, Zg, Zh, rd, AV.un, AV.unA, AV.ad, Zi, Zj, Zk, Zl, Zm, Zn, Zo, Zp, Zq, Zr, Zs, Zt, Zu, Zv, Zw, Zx, Zy, Zz, Zaa, Zab, Zac, Zad, Zae, Zaf, Zag, Zah, Zai, Zaj, Zak, Zal, Zam, Zan, wk1, wk, Zao, Zap, Zaq, Zar, Zas, Zat, Zau, Zav, AV.kill, AO.kill, AV.thaw, AO.thaw, Zaw, Zax, Zay, Zaz, Zba, Zbb, Zbc, Zbd, Zbe, ite_true, ite_false, reduceCtorEq, Nat.reduceAdd, Nat.reduceMul, Nat.reduceLeDiff, Nat.reduceLT, Nat.reduceEqDiff, forall_const]
theorem findN_go {l : List Par} {n : List UInt8} {k : Nat} (hno : ∀ x ∈ l.take k, x.1 ≠ n) {x : Par} (hx : l[k]? = some x) (h : x.1 = n) : findN l n = some x := by
  have hk := (List.getElem?_eq_some_iff.1 hx).1
  have e : l = l.take k ++ x :: l.drop (k + 1) := by
    conv => lhs; rw [← List.take_append_drop k l]
    rw [List.drop_eq_getElem_cons hk, (List.getElem?_eq_some_iff.1 hx).2]
  rw [e, findN, List.find?_append]
  have : (l.take k).find? (fun p => decide (p.1 = n)) = none := by
    rw [List.find?_eq_none]; intro y hy; simpa using hno y hy
  rw [this]
  simp [h]
theorem findN_end {l : List Par} {n : List UInt8} (hno : ∀ x ∈ l, x.1 ≠ n) : findN l n = none := by
  rw [findN, List.find?_eq_none]; intro y hy; simpa using hno y hy
theorem take_no {l : List Par} {n : List UInt8} {k : Nat} {x : Par} (hno : ∀ y ∈ l.take k, y.1 ≠ n) (hx : l[k]? = some x) (h : x.1 ≠ n) : ∀ y ∈ l.take (k + 1), y.1 ≠ n := by
  have hk := (List.getElem?_eq_some_iff.1 hx).1
  rw [List.take_succ_eq_append_getElem hk]
  intro y hy
  rcases List.mem_append.1 hy with hy | hy
  · exact hno y hy
  · rw [List.mem_singleton] at hy; rw [hy, (List.getElem?_eq_some_iff.1 hx).2]; exact h
theorem partyOf_ok (l some' : List Par) (m : List UInt8) (hl : l.length ≤ 1000000) (hl2 : some'.length ≤ 1000000) (hb : ∀ p ∈ some', p.1.length ≤ 1000000) (hm : m.length ≤ 1000000) : PCall Tryz.prog E0 86 [.sl 3 (parE l), .sl 3 (parE some'), .str m] (· = .tup [parA (partyR l some' m).1, .bool (partyR l some' m).2]) := by
  refine pcallF mixed Tryz.func86 ck_chaseref1_partyOf ?_
  simp only [a0, l0, OS.ao, List.map_cons, List.map_nil, List.length_cons, List.length_nil, List.cons_append, List.nil_append, Nat.reduceSub, Nat.reduceAdd, List.replicate_succ, List.replicate_zero, ir_chaseref1_partyOf, rs_chaseref1_partyOf, ZZ, FnG_some, IsnK_some, Za, Zb, Zc, Zd, Ze, Zf, Zg, Zh, rd, AV.un, AV.unA, AV.ad, Zi, Zj, Zk, Zl, Zm, Zn, Zo, Zp, Zq, Zr, Zs, Zt, Zu, Zv, Zw, Zx, Zy, Zz, Zaa, Zab, Zac, Zad, Zae, Zaf, Zag, Zah, Zai, Zaj, Zak, Zal, Zam, Zan, wk1, wk, Zao, Zap, Zaq, Zar, Zas, Zat, Zau, Zav, AV.kill, AO.kill, AV.thaw, AO.thaw, Zaw, Zax, Zay, Zaz, Zba, Zbb, Zbc, Zbd, Zbe, ite_true, ite_false, reduceCtorEq, Nat.reduceAdd, Nat.reduceMul, Nat.reduceLeDiff, Nat.reduceLT, Nat.reduceEqDiff, forall_const]
  simp only [ZZ, FnG_some, IsnK_some, Za, Zb, Zc, Zd, Ze, Zf, Zg, Zh, rd, AV.un, AV.unA, AV.ad, Zi, Zj, Zk, Zl, Zm, Zn, Zo, Zp, Zq, Zr, Zs, Zt, Zu, Zv, Zw, Zx, Zy, Zz, Zaa, Zab, Zac, Zad, Zae, Zaf, Zag, Zah, Zai, Zaj, Zak, Zal, Zam, Zan, wk1, wk, Zao, Zap, Zaq, Zar, Zas, Zat, Zau, Zav, AV.kill, AO.kill, AV.thaw, AO.thaw, Zaw, Zax, Zay, Zaz, Zba, Zbb, Zbc, Zbd, Zbe, ite_true, ite_false, reduceCtorEq, Nat.reduceAdd, Nat.reduceMul, Nat.reduceLeDiff, Nat.reduceLT, Nat.reduceEqDiff, forall_const, parE_len]
  refine loop_intro (fun n fr L => ∃ (k : Nat), k ≤ l.length ∧ n = l.length - k ∧ (∀ x ∈ l.take k, x.1 ≠ m) ∧ fr = [.any, .p (.sl 3 (parE some')), .p (.str m), .any, .any, .any, .adr (.l 6) 0, .any, .any, .any, .any, .any, .any, .any, .any, .any, .any, .any, .p (.sl 3 (parE l)), .p (int (l.length : Nat)), .p (int (k : Nat)), .any, .any, .any, .any, .any, .any, .any, .any, .any, .any, .any, .any, .any, .any, .any, .any, .any, .any, .any, .any, .any, .any, .any, .any, .any, .any, .any, .any, .any, .any, .any, .any, .any, .any, .any, .any, .any, .any, .any, .any, .any, .any] ∧ L = [(.l 6, .box [.p (.str []), .p (int 0), .p (int 0)] tParty)]) (l.length) [.any, .p (.sl 3 (parE some')), .p (.str m), .any, .any, .any, .adr (.l 6) 0, .any, .any, .any, .any, .any, .any, .any, .any, .any, .any, .any, .p (.sl 3 (parE l)), .p (int (l.length : Nat)), .p (int (0 : Nat)), .any, .any, .any, .any, .any, .any, .any, .any, .any, .any, .any, .any, .any, .any, .any, .any, .any, .any, .any, .any, .any, .any, .any, .any, .any, .any, .any, .any, .any, .any, .any, .any, .any, .any, .any, .any, .any, .any, .any, .any, .any, .any] [(.l 6, .box [.p (.str []), .p (int 0), .p (int 0)] tParty)] (by simp only [ZZ, FnG_some, IsnK_some, Za, Zb, Zc, Zd, Ze, Zf, Zg, Zh, rd, AV.un, AV.unA, AV.ad, Zi, Zj, Zk, Zl, Zm, Zn, Zo, Zp, Zq, Zr, Zs, Zt, Zu, Zv, Zw, Zx, Zy, Zz, Zaa, Zab, Zac, Zad, Zae, Zaf, Zag, Zah, Zai, Zaj, Zak, Zal, Zam, Zan, wk1, wk, Zao, Zap, Zaq, Zar, Zas, Zat, Zau, Zav, AV.kill, AO.kill, AV.thaw, AO.thaw, Zaw, Zax, Zay, Zaz, Zba, Zbb, Zbc, Zbd, Zbe, ite_true, ite_false, reduceCtorEq, Nat.reduceAdd, Nat.reduceMul, Nat.reduceLeDiff, Nat.reduceLT, Nat.reduceEqDiff, forall_const, parE_len]; try trivial) (by (simp only [ZZ, FnG_some, IsnK_some, Za, Zb, Zc, Zd, Ze, Zf, Zg, Zh, rd, AV.un, AV.unA, AV.ad, Zi, Zj, Zk, Zl, Zm, Zn, Zo, Zp, Zq, Zr, Zs, Zt, Zu, Zv, Zw, Zx, Zy, Zz, Zaa, Zab, Zac, Zad, Zae, Zaf, Zag, Zah, Zai, Zaj, Zak, Zal, Zam, Zan, wk1, wk, Zao, Zap, Zaq, Zar, Zas, Zat, Zau, Zav, AV.kill, AO.kill, AV.thaw, AO.thaw, Zaw, Zax, Zay, Zaz, Zba, Zbb, Zbc, Zbd, Zbe, ite_true, ite_false, reduceCtorEq, Nat.reduceAdd, Nat.reduceMul, Nat.reduceLeDiff, Nat.reduceLT, Nat.reduceEqDiff, forall_const]; try trivial)) ⟨0, by omega, by omega, by simp, rfl, rfl⟩ ?_
  rintro n fr L ⟨k, hk, rfl, hno, rfl, rfl⟩
  simp only [ir_chaseref1_partyOf_L0, ZZ, FnG_some, IsnK_some, Za, Zb, Zc, Zd, Ze, Zf, Zg, Zh, rd, AV.un, AV.unA, AV.ad, Zi, Zj, Zk, Zl, Zm, Zn, Zo, Zp, Zq, Zr, Zs, Zt, Zu, Zv, Zw, Zx, Zy, Zz, Zaa, Zab, Zac, Zad, Zae, Zaf, Zag, Zah, Zai, Zaj, Zak, Zal, Zam, Zan, wk1, wk, Zao, Zap, Zaq, Zar, Zas, Zat, Zau, Zav, AV.kill, AO.kill, AV.thaw, AO.thaw, Zaw, Zax, Zay, Zaz, Zba, Zbb, Zbc, Zbd, Zbe, ite_true, ite_false, reduceCtorEq, Nat.reduceAdd, Nat.reduceMul, Nat.reduceLeDiff, Nat.reduceLT, Nat.reduceEqDiff, forall_const]
  refine br ?_ ?_
  · intro h
    have hlt : k < l.length := by have := of_decide_eq_true h; omega
    obtain ⟨x, hx⟩ : ∃ x, l[k]? = some x := ⟨_, List.getElem?_eq_getElem hlt⟩
    have hg := parE_get hx
    simp only [ZZ, FnG_some, IsnK_some, Za, Zb, Zc, Zd, Ze, Zf, Zg, Zh, rd, AV.un, AV.unA, AV.ad, Zi, Zj, Zk, Zl, Zm, Zn, Zo, Zp, Zq, Zr, Zs, Zt, Zu, Zv, Zw, Zx, Zy, Zz, Zaa, Zab, Zac, Zad, Zae, Zaf, Zag, Zah, Zai, Zaj, Zak, Zal, Zam, Zan, wk1, wk, Zao, Zap, Zaq, Zar, Zas, Zat, Zau, Zav, AV.kill, AO.kill, AV.thaw, AO.thaw, Zaw, Zax, Zay, Zaz, Zba, Zbb, Zbc, Zbd, Zbe, ite_true, ite_false, reduceCtorEq, Nat.reduceAdd, Nat.reduceMul, Nat.reduceLeDiff, Nat.reduceLT, Nat.reduceEqDiff, forall_const, hg, parE_len]
    ((repeat' (with_reducible apply And.intro)) <;> try ((first | first | assumption | trivial | exact (fun hq => by rw [hq]; rfl) | exact i64_of (by omega) (by omega) | omega | (simp; done) | (simp; omega) | (intro hsc; have hs0 := hsc; (try have hsd := of_decide_eq_true hsc); (try simp only [Bool.not_eq_true', Bool.or_eq_false_iff, Bool.and_eq_true, Bool.or_eq_true, decide_eq_true_eq, decide_eq_false_iff_not] at hsc); (repeat' (with_reducible apply And.intro)) <;> (first | assumption | trivial | exact (fun hq => by rw [hq]; rfl) | exact i64_of (by omega) (by omega) | omega | (simp; done) | (simp; omega) | (intro hse; simp [hse, hs0]; done) | (intro hse; simp only [hse, hs0, Bool.true_and, Bool.and_true, Bool.not_false, Bool.not_true, Bool.and_self]; done))))))
    refine br ?_ ?_
    · intro he
      have he : x.1 = m := of_decide_eq_true he
      simp only [ZZ, FnG_some, IsnK_some, Za, Zb, Zc, Zd, Ze, Zf, Zg, Zh, rd, AV.un, AV.unA, AV.ad, Zi, Zj, Zk, Zl, Zm, Zn, Zo, Zp, Zq, Zr, Zs, Zt, Zu, Zv, Zw, Zx, Zy, Zz, Zaa, Zab, Zac, Zad, Zae, Zaf, Zag, Zah, Zai, Zaj, Zak, Zal, Zam, Zan, wk1, wk, Zao, Zap, Zaq, Zar, Zas, Zat, Zau, Zav, AV.kill, AO.kill, AV.thaw, AO.thaw, Zaw, Zax, Zay, Zaz, Zba, Zbb, Zbc, Zbd, Zbe, ite_true, ite_false, reduceCtorEq, Nat.reduceAdd, Nat.reduceMul, Nat.reduceLeDiff, Nat.reduceLT, Nat.reduceEqDiff, forall_const]
      rw [partyR, findN_go hno hx he]
      rfl
    · intro he
      have he : x.1 ≠ m := of_decide_eq_false he
      simp only [ZZ, FnG_some, IsnK_some, Za, Zb, Zc, Zd, Ze, Zf, Zg, Zh, rd, AV.un, AV.unA, AV.ad, Zi, Zj, Zk, Zl, Zm, Zn, Zo, Zp, Zq, Zr, Zs, Zt, Zu, Zv, Zw, Zx, Zy, Zz, Zaa, Zab, Zac, Zad, Zae, Zaf, Zag, Zah, Zai, Zaj, Zak, Zal, Zam, Zan, wk1, wk, Zao, Zap, Zaq, Zar, Zas, Zat, Zau, Zav, AV.kill, AO.kill, AV.thaw, AO.thaw, Zaw, Zax, Zay, Zaz, Zba, Zbb, Zbc, Zbd, Zbe, ite_true, ite_false, reduceCtorEq, Nat.reduceAdd, Nat.reduceMul, Nat.reduceLeDiff, Nat.reduceLT, Nat.reduceEqDiff, forall_const]
      refine ⟨i64_of (by omega) (by omega), ?_⟩
      refine end_round (l.length - (k + 1)) [.any, .p (.sl 3 (parE some')), .p (.str m), .any, .any, .any, .adr (.l 6) 0, .any, .any, .any, .any, .any, .any, .any, .any, .any, .any, .any, .p (.sl 3 (parE l)), .p (int (l.length : Nat)), .p (int ((k + 1) : Nat)), .any, .any, .any, .any, .any, .any, .any, .any, .any, .any, .any, .any, .any, .any, .any, .any, .any, .any, .any, .any, .any, .any, .any, .any, .any, .any, .any, .any, .any, .any, .any, .any, .any, .any, .any, .any, .any, .any, .any, .any, .any, .any] [(.l 6, .box [.p (.str []), .p (int 0), .p (int 0)] tParty)] (by omega) (by (simp only [ZZ, FnG_some, IsnK_some, Za, Zb, Zc, Zd, Ze, Zf, Zg, Zh, rd, AV.un, AV.unA, AV.ad, Zi, Zj, Zk, Zl, Zm, Zn, Zo, Zp, Zq, Zr, Zs, Zt, Zu, Zv, Zw, Zx, Zy, Zz, Zaa, Zab, Zac, Zad, Zae, Zaf, Zag, Zah, Zai, Zaj, Zak, Zal, Zam, Zan, wk1, wk, Zao, Zap, Zaq, Zar, Zas, Zat, Zau, Zav, AV.kill, AO.kill, AV.thaw, AO.thaw, Zaw, Zax, Zay, Zaz, Zba, Zbb, Zbc, Zbd, Zbe, ite_true, ite_false, reduceCtorEq, Nat.reduceAdd, Nat.reduceMul, Nat.reduceLeDiff, Nat.reduceLT, Nat.reduceEqDiff, forall_const]; try trivial)) (by (simp only [ZZ, FnG_some, IsnK_some, Za, Zb, Zc, Zd, Ze, Zf, Zg, Zh, rd, AV.un, AV.unA, AV.ad, Zi, Zj, Zk, Zl, Zm, Zn, Zo, Zp, Zq, Zr, Zs, Zt, Zu, Zv, Zw, Zx, Zy, Zz, Zaa, Zab, Zac, Zad, Zae, Zaf, Zag, Zah, Zai, Zaj, Zak, Zal, Zam, Zan, wk1, wk, Zao, Zap, Zaq, Zar, Zas, Zat, Zau, Zav, AV.kill, AO.kill, AV.thaw, AO.thaw, Zaw, Zax, Zay, Zaz, Zba, Zbb, Zbc, Zbd, Zbe, ite_true, ite_false, reduceCtorEq, Nat.reduceAdd, Nat.reduceMul, Nat.reduceLeDiff, Nat.reduceLT, Nat.reduceEqDiff, forall_const]; try trivial)) ⟨k + 1, by omega, rfl, take_no hno hx he, rfl, rfl⟩
  intro h
  have hge : k = l.length := by have := of_decide_eq_false h; omega
  subst hge
  rw [List.take_length] at hno
  have hR : partyR l some' m = match refD some' (domOf m).length (domOf m) with | some d => ((m, d.2), true) | none => (p00, false) := by
    rw [partyR, findN_end hno]
  rw [hR]
  simp only [ZZ, FnG_some, IsnK_some, Za, Zb, Zc, Zd, Ze, Zf, Zg, Zh, rd, AV.un, AV.unA, AV.ad, Zi, Zj, Zk, Zl, Zm, Zn, Zo, Zp, Zq, Zr, Zs, Zt, Zu, Zv, Zw, Zx, Zy, Zz, Zaa, Zab, Zac, Zad, Zae, Zaf, Zag, Zah, Zai, Zaj, Zak, Zal, Zam, Zan, wk1, wk, Zao, Zap, Zaq, Zar, Zas, Zat, Zau, Zav, AV.kill, AO.kill, AV.thaw, AO.thaw, Zaw, Zax, Zay, Zaz, Zba, Zbb, Zbc, Zbd, Zbe, ite_true, ite_false, reduceCtorEq, Nat.reduceAdd, Nat.reduceMul, Nat.reduceLeDiff, Nat.reduceLT, Nat.reduceEqDiff, forall_const]
  refine use1 (Cut_ok m [64] (by omega)) rfl (.inl rfl) ?_
  have hcl := cutF_len m [64]
  have hD : domOf m = (cutF m [64]).2.1 := rfl
  rw [hD]
  generalize cutF m [64] = cq at *
  simp only [ZZ, FnG_some, IsnK_some, Za, Zb, Zc, Zd, Ze, Zf, Zg, Zh, rd, AV.un, AV.unA, AV.ad, Zi, Zj, Zk, Zl, Zm, Zn, Zo, Zp, Zq, Zr, Zs, Zt, Zu, Zv, Zw, Zx, Zy, Zz, Zaa, Zab, Zac, Zad, Zae, Zaf, Zag, Zah, Zai, Zaj, Zak, Zal, Zam, Zan, wk1, wk, Zao, Zap, Zaq, Zar, Zas, Zat, Zau, Zav, AV.kill, AO.kill, AV.thaw, AO.thaw, Zaw, Zax, Zay, Zaz, Zba, Zbb, Zbc, Zbd, Zbe, ite_true, ite_false, reduceCtorEq, Nat.reduceAdd, Nat.reduceMul, Nat.reduceLeDiff, Nat.reduceLT, Nat.reduceEqDiff, forall_const]
  refine loop_intro (fun n fr L => ∃ (s : List UInt8), s.length = n ∧ (s.length ≤ 1000000) ∧ (refD some' cq.2.1.length cq.2.1 = refD some' s.length s) ∧ fr = [.any, .p (.sl 3 (parE some')), .p (.str m), .any, .any, .any, .adr (.l 6) 0, .any, .any, .any, .any, .p (.str s), .any, .any, .any, .any, .any, .any, .any, .any, .any, .any, .any, .any, .any, .any, .any, .any, .any, .any, .any, .any, .any, .any, .any, .any, .any, .any, .any, .any, .any, .any, .any, .any, .any, .any, .any, .any, .any, .any, .any, .any, .any, .any, .any, .any, .any, .any, .any, .any, .any, .any, .any] ∧ L = [(.l 6, .box [.p (.str []), .p (int 0), .p (int 0)] tParty)]) ((cq.2.1).length) [.any, .p (.sl 3 (parE some')), .p (.str m), .any, .any, .any, .adr (.l 6) 0, .any, .any, .any, .any, .p (.str (cq.2.1)), .any, .any, .any, .any, .any, .any, .any, .any, .any, .any, .any, .any, .any, .any, .any, .any, .any, .any, .any, .any, .any, .any, .any, .any, .any, .any, .any, .any, .any, .any, .any, .any, .any, .any, .any, .any, .any, .any, .any, .any, .any, .any, .any, .any, .any, .any, .any, .any, .any, .any, .any] [(.l 6, .box [.p (.str []), .p (int 0), .p (int 0)] tParty)] (by (simp only [ZZ, FnG_some, IsnK_some, Za, Zb, Zc, Zd, Ze, Zf, Zg, Zh, rd, AV.un, AV.unA, AV.ad, Zi, Zj, Zk, Zl, Zm, Zn, Zo, Zp, Zq, Zr, Zs, Zt, Zu, Zv, Zw, Zx, Zy, Zz, Zaa, Zab, Zac, Zad, Zae, Zaf, Zag, Zah, Zai, Zaj, Zak, Zal, Zam, Zan, wk1, wk, Zao, Zap, Zaq, Zar, Zas, Zat, Zau, Zav, AV.kill, AO.kill, AV.thaw, AO.thaw, Zaw, Zax, Zay, Zaz, Zba, Zbb, Zbc, Zbd, Zbe, ite_true, ite_false, reduceCtorEq, Nat.reduceAdd, Nat.reduceMul, Nat.reduceLeDiff, Nat.reduceLT, Nat.reduceEqDiff, forall_const]; try trivial)) (by (simp only [ZZ, FnG_some, IsnK_some, Za, Zb, Zc, Zd, Ze, Zf, Zg, Zh, rd, AV.un, AV.unA, AV.ad, Zi, Zj, Zk, Zl, Zm, Zn, Zo, Zp, Zq, Zr, Zs, Zt, Zu, Zv, Zw, Zx, Zy, Zz, Zaa, Zab, Zac, Zad, Zae, Zaf, Zag, Zah, Zai, Zaj, Zak, Zal, Zam, Zan, wk1, wk, Zao, Zap, Zaq, Zar, Zas, Zat, Zau, Zav, AV.kill, AO.kill, AV.thaw, AO.thaw, Zaw, Zax, Zay, Zaz, Zba, Zbb, Zbc, Zbd, Zbe, ite_true, ite_false, reduceCtorEq, Nat.reduceAdd, Nat.reduceMul, Nat.reduceLeDiff, Nat.reduceLT, Nat.reduceEqDiff, forall_const]; try trivial)) ⟨cq.2.1, rfl, by omega, rfl, rfl, rfl⟩ ?_
  rintro n fr L ⟨s, rfl, hsl, hrf, rfl, rfl⟩
  simp only [ir_chaseref1_partyOf_L1, ZZ, FnG_some, IsnK_some, Za, Zb, Zc, Zd, Ze, Zf, Zg, Zh, rd, AV.un, AV.unA, AV.ad, Zi, Zj, Zk, Zl, Zm, Zn, Zo, Zp, Zq, Zr, Zs, Zt, Zu, Zv, Zw, Zx, Zy, Zz, Zaa, Zab, Zac, Zad, Zae, Zaf, Zag, Zah, Zai, Zaj, Zak, Zal, Zam, Zan, wk1, wk, Zao, Zap, Zaq, Zar, Zas, Zat, Zau, Zav, AV.kill, AO.kill, AV.thaw, AO.thaw, Zaw, Zax, Zay, Zaz, Zba, Zbb, Zbc, Zbd, Zbe, ite_true, ite_false, reduceCtorEq, Nat.reduceAdd, Nat.reduceMul, Nat.reduceLeDiff, Nat.reduceLT, Nat.reduceEqDiff, forall_const]
  rw [hrf]
  simp only [ZZ, FnG_some, IsnK_some, Za, Zb, Zc, Zd, Ze, Zf, Zg, Zh, rd, AV.un, AV.unA, AV.ad, Zi, Zj, Zk, Zl, Zm, Zn, Zo, Zp, Zq, Zr, Zs, Zt, Zu, Zv, Zw, Zx, Zy, Zz, Zaa, Zab, Zac, Zad, Zae, Zaf, Zag, Zah, Zai, Zaj, Zak, Zal, Zam, Zan, wk1, wk, Zao, Zap, Zaq, Zar, Zas, Zat, Zau, Zav, AV.kill, AO.kill, AV.thaw, AO.thaw, Zaw, Zax, Zay, Zaz, Zba, Zbb, Zbc, Zbd, Zbe, ite_true, ite_false, reduceCtorEq, Nat.reduceAdd, Nat.reduceMul, Nat.reduceLeDiff, Nat.reduceLT, Nat.reduceEqDiff, forall_const, parE_len]
  refine loop_intro (fun n fr L => ∃ (k : Nat), k ≤ some'.length ∧ n = some'.length - k ∧ (∀ x ∈ some'.take k, x.1 ≠ s) ∧ fr = [.any, .p (.sl 3 (parE some')), .p (.str m), .any, .any, .any, .adr (.l 6) 0, .any, .any, .any, .any, .p (.str s), .any, .any, .any, .any, .any, .any, .any, .any, .any, .any, .any, .any, .any, .any, .any, .any, .any, .any, .any, .any, .any, .any, .any, .any, .p (.sl 3 (parE some')), .p (int (some'.length : Nat)), .p (int (k : Nat)), .any, .any, .any, .any, .any, .any, .any, .any, .any, .any, .any, .any, .any, .any, .any, .any, .any, .any, .any, .any, .any, .any, .any, .any] ∧ L = [(.l 6, .box [.p (.str []), .p (int 0), .p (int 0)] tParty)]) (some'.length) [.any, .p (.sl 3 (parE some')), .p (.str m), .any, .any, .any, .adr (.l 6) 0, .any, .any, .any, .any, .p (.str s), .any, .any, .any, .any, .any, .any, .any, .any, .any, .any, .any, .any, .any, .any, .any, .any, .any, .any, .any, .any, .any, .any, .any, .any, .p (.sl 3 (parE some')), .p (int (some'.length : Nat)), .p (int (0 : Nat)), .any, .any, .any, .any, .any, .any, .any, .any, .any, .any, .any, .any, .any, .any, .any, .any, .any, .any, .any, .any, .any, .any, .any, .any] [(.l 6, .box [.p (.str []), .p (int 0), .p (int 0)] tParty)] (by simp only [ZZ, FnG_some, IsnK_some, Za, Zb, Zc, Zd, Ze, Zf, Zg, Zh, rd, AV.un, AV.unA, AV.ad, Zi, Zj, Zk, Zl, Zm, Zn, Zo, Zp, Zq, Zr, Zs, Zt, Zu, Zv, Zw, Zx, Zy, Zz, Zaa, Zab, Zac, Zad, Zae, Zaf, Zag, Zah, Zai, Zaj, Zak, Zal, Zam, Zan, wk1, wk, Zao, Zap, Zaq, Zar, Zas, Zat, Zau, Zav, AV.kill, AO.kill, AV.thaw, AO.thaw, Zaw, Zax, Zay, Zaz, Zba, Zbb, Zbc, Zbd, Zbe, ite_true, ite_false, reduceCtorEq, Nat.reduceAdd, Nat.reduceMul, Nat.reduceLeDiff, Nat.reduceLT, Nat.reduceEqDiff, forall_const, parE_len]; try trivial) (by (simp only [ZZ, FnG_some, IsnK_some, Za, Zb, Zc, Zd, Ze, Zf, Zg, Zh, rd, AV.un, AV.unA, AV.ad, Zi, Zj, Zk, Zl, Zm, Zn, Zo, Zp, Zq, Zr, Zs, Zt, Zu, Zv, Zw, Zx, Zy, Zz, Zaa, Zab, Zac, Zad, Zae, Zaf, Zag, Zah, Zai, Zaj, Zak, Zal, Zam, Zan, wk1, wk, Zao, Zap, Zaq, Zar, Zas, Zat, Zau, Zav, AV.kill, AO.kill, AV.thaw, AO.thaw, Zaw, Zax, Zay, Zaz, Zba, Zbb, Zbc, Zbd, Zbe, ite_true, ite_false, reduceCtorEq, Nat.reduceAdd, Nat.reduceMul, Nat.reduceLeDiff, Nat.reduceLT, Nat.reduceEqDiff, forall_const]; try trivial)) ⟨0, by omega, by omega, by simp, rfl, rfl⟩ ?_
  rintro n fr L ⟨k, hk, rfl, hno2, rfl, rfl⟩
  simp only [ir_chaseref1_partyOf_L2, ZZ, FnG_some, IsnK_some, Za, Zb, Zc, Zd, Ze, Zf, Zg, Zh, rd, AV.un, AV.unA, AV.ad, Zi, Zj, Zk, Zl, Zm, Zn, Zo, Zp, Zq, Zr, Zs, Zt, Zu, Zv, Zw, Zx, Zy, Zz, Zaa, Zab, Zac, Zad, Zae, Zaf, Zag, Zah, Zai, Zaj, Zak, Zal, Zam, Zan, wk1, wk, Zao, Zap, Zaq, Zar, Zas, Zat, Zau, Zav, AV.kill, AO.kill, AV.thaw, AO.thaw, Zaw, Zax, Zay, Zaz, Zba, Zbb, Zbc, Zbd, Zbe, ite_true, ite_false, reduceCtorEq, Nat.reduceAdd, Nat.reduceMul, Nat.reduceLeDiff, Nat.reduceLT, Nat.reduceEqDiff, forall_const]
  refine br ?_ ?_
  · intro h
    have hlt : k < some'.length := by have := of_decide_eq_true h; omega
    obtain ⟨x, hx⟩ : ∃ x, some'[k]? = some x := ⟨_, List.getElem?_eq_getElem hlt⟩
    have hg := parE_get hx
    simp only [ZZ, FnG_some, IsnK_some, Za, Zb, Zc, Zd, Ze, Zf, Zg, Zh, rd, AV.un, AV.unA, AV.ad, Zi, Zj, Zk, Zl, Zm, Zn, Zo, Zp, Zq, Zr, Zs, Zt, Zu, Zv, Zw, Zx, Zy, Zz, Zaa, Zab, Zac, Zad, Zae, Zaf, Zag, Zah, Zai, Zaj, Zak, Zal, Zam, Zan, wk1, wk, Zao, Zap, Zaq, Zar, Zas, Zat, Zau, Zav, AV.kill, AO.kill, AV.thaw, AO.thaw, Zaw, Zax, Zay, Zaz, Zba, Zbb, Zbc, Zbd, Zbe, ite_true, ite_false, reduceCtorEq, Nat.reduceAdd, Nat.reduceMul, Nat.reduceLeDiff, Nat.reduceLT, Nat.reduceEqDiff, forall_const, hg, parE_len]
    ((repeat' (with_reducible apply And.intro)) <;> try ((first | first | assumption | trivial | exact (fun hq => by rw [hq]; rfl) | exact i64_of (by omega) (by omega) | omega | (simp; done) | (simp; omega) | (intro hsc; have hs0 := hsc; (try have hsd := of_decide_eq_true hsc); (try simp only [Bool.not_eq_true', Bool.or_eq_false_iff, Bool.and_eq_true, Bool.or_eq_true, decide_eq_true_eq, decide_eq_false_iff_not] at hsc); (repeat' (with_reducible apply And.intro)) <;> (first | assumption | trivial | exact (fun hq => by rw [hq]; rfl) | exact i64_of (by omega) (by omega) | omega | (simp; done) | (simp; omega) | (intro hse; simp [hse, hs0]; done) | (intro hse; simp only [hse, hs0, Bool.true_and, Bool.and_true, Bool.not_false, Bool.not_true, Bool.and_self]; done))))))
    refine br ?_ ?_
    · intro he
      have he : x.1 = s := of_decide_eq_true he
      simp only [ZZ, FnG_some, IsnK_some, Za, Zb, Zc, Zd, Ze, Zf, Zg, Zh, rd, AV.un, AV.unA, AV.ad, Zi, Zj, Zk, Zl, Zm, Zn, Zo, Zp, Zq, Zr, Zs, Zt, Zu, Zv, Zw, Zx, Zy, Zz, Zaa, Zab, Zac, Zad, Zae, Zaf, Zag, Zah, Zai, Zaj, Zak, Zal, Zam, Zan, wk1, wk, Zao, Zap, Zaq, Zar, Zas, Zat, Zau, Zav, AV.kill, AO.kill, AV.thaw, AO.thaw, Zaw, Zax, Zay, Zaz, Zba, Zbb, Zbc, Zbd, Zbe, ite_true, ite_false, reduceCtorEq, Nat.reduceAdd, Nat.reduceMul, Nat.reduceLeDiff, Nat.reduceLT, Nat.reduceEqDiff, forall_const]
      rw [refD_hit some' (findN_go hno2 hx he)]
      rfl
    · intro he
      have he : x.1 ≠ s := of_decide_eq_false he
      simp only [ZZ, FnG_some, IsnK_some, Za, Zb, Zc, Zd, Ze, Zf, Zg, Zh, rd, AV.un, AV.unA, AV.ad, Zi, Zj, Zk, Zl, Zm, Zn, Zo, Zp, Zq, Zr, Zs, Zt, Zu, Zv, Zw, Zx, Zy, Zz, Zaa, Zab, Zac, Zad, Zae, Zaf, Zag, Zah, Zai, Zaj, Zak, Zal, Zam, Zan, wk1, wk, Zao, Zap, Zaq, Zar, Zas, Zat, Zau, Zav, AV.kill, AO.kill, AV.thaw, AO.thaw, Zaw, Zax, Zay, Zaz, Zba, Zbb, Zbc, Zbd, Zbe, ite_true, ite_false, reduceCtorEq, Nat.reduceAdd, Nat.reduceMul, Nat.reduceLeDiff, Nat.reduceLT, Nat.reduceEqDiff, forall_const]
      refine ⟨i64_of (by omega) (by omega), ?_⟩
      refine end_round (some'.length - (k + 1)) [.any, .p (.sl 3 (parE some')), .p (.str m), .any, .any, .any, .adr (.l 6) 0, .any, .any, .any, .any, .p (.str s), .any, .any, .any, .any, .any, .any, .any, .any, .any, .any, .any, .any, .any, .any, .any, .any, .any, .any, .any, .any, .any, .any, .any, .any, .p (.sl 3 (parE some')), .p (int (some'.length : Nat)), .p (int ((k + 1) : Nat)), .any, .any, .any, .any, .any, .any, .any, .any, .any, .any, .any, .any, .any, .any, .any, .any, .any, .any, .any, .any, .any, .any, .any, .any] [(.l 6, .box [.p (.str []), .p (int 0), .p (int 0)] tParty)] (by omega) (by (simp only [ZZ, FnG_some, IsnK_some, Za, Zb, Zc, Zd, Ze, Zf, Zg, Zh, rd, AV.un, AV.unA, AV.ad, Zi, Zj, Zk, Zl, Zm, Zn, Zo, Zp, Zq, Zr, Zs, Zt, Zu, Zv, Zw, Zx, Zy, Zz, Zaa, Zab, Zac, Zad, Zae, Zaf, Zag, Zah, Zai, Zaj, Zak, Zal, Zam, Zan, wk1, wk, Zao, Zap, Zaq, Zar, Zas, Zat, Zau, Zav, AV.kill, AO.kill, AV.thaw, AO.thaw, Zaw, Zax, Zay, Zaz, Zba, Zbb, Zbc, Zbd, Zbe, ite_true, ite_false, reduceCtorEq, Nat.reduceAdd, Nat.reduceMul, Nat.reduceLeDiff, Nat.reduceLT, Nat.reduceEqDiff, forall_const]; try trivial)) (by (simp only [ZZ, FnG_some, IsnK_some, Za, Zb, Zc, Zd, Ze, Zf, Zg, Zh, rd, AV.un, AV.unA, AV.ad, Zi, Zj, Zk, Zl, Zm, Zn, Zo, Zp, Zq, Zr, Zs, Zt, Zu, Zv, Zw, Zx, Zy, Zz, Zaa, Zab, Zac, Zad, Zae, Zaf, Zag, Zah, Zai, Zaj, Zak, Zal, Zam, Zan, wk1, wk, Zao, Zap, Zaq, Zar, Zas, Zat, Zau, Zav, AV.kill, AO.kill, AV.thaw, AO.thaw, Zaw, Zax, Zay, Zaz, Zba, Zbb, Zbc, Zbd, Zbe, ite_true, ite_false, reduceCtorEq, Nat.reduceAdd, Nat.reduceMul, Nat.reduceLeDiff, Nat.reduceLT, Nat.reduceEqDiff, forall_const]; try trivial)) ⟨k + 1, by omega, rfl, take_no hno2 hx he, rfl, rfl⟩
  intro h
  have hge : k = some'.length := by have := of_decide_eq_false h; omega
  subst hge
  rw [List.take_length] at hno2
  simp only [ZZ, FnG_some, IsnK_some, Za, Zb, Zc, Zd, Ze, Zf, Zg, Zh, rd, AV.un, AV.unA, AV.ad, Zi, Zj, Zk, Zl, Zm, Zn, Zo, Zp, Zq, Zr, Zs, Zt, Zu, Zv, Zw, Zx, Zy, Zz, Zaa, Zab, Zac, Zad, Zae, Zaf, Zag, Zah, Zai, Zaj, Zak, Zal, Zam, Zan, wk1, wk, Zao, Zap, Zaq, Zar, Zas, Zat, Zau, Zav, AV.kill, AO.kill, AV.thaw, AO.thaw, Zaw, Zax, Zay, Zaz, Zba, Zbb, Zbc, Zbd, Zbe, ite_true, ite_false, reduceCtorEq, Nat.reduceAdd, Nat.reduceMul, Nat.reduceLeDiff, Nat.reduceLT, Nat.reduceEqDiff, forall_const]
  refine use1 (Cut_ok s [46] (by omega)) rfl (.inl rfl) ?_
  have hnf := findN_end hno2
  have hnext := refD_next some' hnf
  have hstop := refD_stop some' hnf
  have hlt : (cutF s [46]).2.2 = true → (cutF s [46]).2.1.length < s.length := by
    intro hc
    rcases cut_one s 46 with ⟨a, b, h1, _, h3⟩ | ⟨_, h2⟩
    · rw [h3, h1]; simp; omega
    · rw [h2] at hc; cases hc
  have hcl2 := cutF_len s [46]
  generalize cutF s [46] = r at *
  simp only [ZZ, FnG_some, IsnK_some, Za, Zb, Zc, Zd, Ze, Zf, Zg, Zh, rd, AV.un, AV.unA, AV.ad, Zi, Zj, Zk, Zl, Zm, Zn, Zo, Zp, Zq, Zr, Zs, Zt, Zu, Zv, Zw, Zx, Zy, Zz, Zaa, Zab, Zac, Zad, Zae, Zaf, Zag, Zah, Zai, Zaj, Zak, Zal, Zam, Zan, wk1, wk, Zao, Zap, Zaq, Zar, Zas, Zat, Zau, Zav, AV.kill, AO.kill, AV.thaw, AO.thaw, Zaw, Zax, Zay, Zaz, Zba, Zbb, Zbc, Zbd, Zbe, ite_true, ite_false, reduceCtorEq, Nat.reduceAdd, Nat.reduceMul, Nat.reduceLeDiff, Nat.reduceLT, Nat.reduceEqDiff, forall_const]
  refine br ?_ ?_
  · intro hc
    have hc : r.2.2 = false := by rwa [Bool.not_eq_true'] at hc
    simp only [ZZ, FnG_some, IsnK_some, Za, Zb, Zc, Zd, Ze, Zf, Zg, Zh, rd, AV.un, AV.unA, AV.ad, Zi, Zj, Zk, Zl, Zm, Zn, Zo, Zp, Zq, Zr, Zs, Zt, Zu, Zv, Zw, Zx, Zy, Zz, Zaa, Zab, Zac, Zad, Zae, Zaf, Zag, Zah, Zai, Zaj, Zak, Zal, Zam, Zan, wk1, wk, Zao, Zap, Zaq, Zar, Zas, Zat, Zau, Zav, AV.kill, AO.kill, AV.thaw, AO.thaw, Zaw, Zax, Zay, Zaz, Zba, Zbb, Zbc, Zbd, Zbe, ite_true, ite_false, reduceCtorEq, Nat.reduceAdd, Nat.reduceMul, Nat.reduceLeDiff, Nat.reduceLT, Nat.reduceEqDiff, forall_const]
    rw [hstop hc]
    rfl
  · intro hc
    have hc : r.2.2 = true := by rwa [Bool.not_eq_false'] at hc
    simp only [ZZ, FnG_some, IsnK_some, Za, Zb, Zc, Zd, Ze, Zf, Zg, Zh, rd, AV.un, AV.unA, AV.ad, Zi, Zj, Zk, Zl, Zm, Zn, Zo, Zp, Zq, Zr, Zs, Zt, Zu, Zv, Zw, Zx, Zy, Zz, Zaa, Zab, Zac, Zad, Zae, Zaf, Zag, Zah, Zai, Zaj, Zak, Zal, Zam, Zan, wk1, wk, Zao, Zap, Zaq, Zar, Zas, Zat, Zau, Zav, AV.kill, AO.kill, AV.thaw, AO.thaw, Zaw, Zax, Zay, Zaz, Zba, Zbb, Zbc, Zbd, Zbe, ite_true, ite_false, reduceCtorEq, Nat.reduceAdd, Nat.reduceMul, Nat.reduceLeDiff, Nat.reduceLT, Nat.reduceEqDiff, forall_const]
    refine end_round ((r.2.1).length) [.any, .p (.sl 3 (parE some')), .p (.str m), .any, .any, .any, .adr (.l 6) 0, .any, .any, .any, .any, .p (.str (r.2.1)), .any, .any, .any, .any, .any, .any, .any, .any, .any, .any, .any, .any, .any, .any, .any, .any, .any, .any, .any, .any, .any, .any, .any, .any, .any, .any, .any, .any, .any, .any, .any, .any, .any, .any, .any, .any, .any, .any, .any, .any, .any, .any, .any, .any, .any, .any, .any, .any, .any, .any, .any] [(.l 6, .box [.p (.str []), .p (int 0), .p (int 0)] tParty)] (hlt hc) (by (simp only [ZZ, FnG_some, IsnK_some, Za, Zb, Zc, Zd, Ze, Zf, Zg, Zh, rd, AV.un, AV.unA, AV.ad, Zi, Zj, Zk, Zl, Zm, Zn, Zo, Zp, Zq, Zr, Zs, Zt, Zu, Zv, Zw, Zx, Zy, Zz, Zaa, Zab, Zac, Zad, Zae, Zaf, Zag, Zah, Zai, Zaj, Zak, Zal, Zam, Zan, wk1, wk, Zao, Zap, Zaq, Zar, Zas, Zat, Zau, Zav, AV.kill, AO.kill, AV.thaw, AO.thaw, Zaw, Zax, Zay, Zaz, Zba, Zbb, Zbc, Zbd, Zbe, ite_true, ite_false, reduceCtorEq, Nat.reduceAdd, Nat.reduceMul, Nat.reduceLeDiff, Nat.reduceLT, Nat.reduceEqDiff, forall_const]; try trivial)) (by (simp only [ZZ, FnG_some, IsnK_some, Za, Zb, Zc, Zd, Ze, Zf, Zg, Zh, rd, AV.un, AV.unA, AV.ad, Zi, Zj, Zk, Zl, Zm, Zn, Zo, Zp, Zq, Zr, Zs, Zt, Zu, Zv, Zw, Zx, Zy, Zz, Zaa, Zab, Zac, Zad, Zae, Zaf, Zag, Zah, Zai, Zaj, Zak, Zal, Zam, Zan, wk1, wk, Zao, Zap, Zaq, Zar, Zas, Zat, Zau, Zav, AV.kill, AO.kill, AV.thaw, AO.thaw, Zaw, Zax, Zay, Zaz, Zba, Zbb, Zbc, Zbd, Zbe, ite_true, ite_false, reduceCtorEq, Nat.reduceAdd, Nat.reduceMul, Nat.reduceLeDiff, Nat.reduceLT, Nat.reduceEqDiff, forall_const]; try trivial)) ⟨r.2.1, rfl, by omega, hnext hc, rfl, rfl⟩
theorem PartyOf_ok (l some' : List Par) (m : List UInt8) (hl : l.length ≤ 1000000) (hl2 : some'.length ≤ 1000000) (hb : ∀ p ∈ some', p.1.length ≤ 1000000) (hm : m.length ≤ 1000000) : PCall Tryz.prog E0 18 [.sl 3 (parE l), .sl 3 (parE some'), .str m] (· = .tup [parA (partyR l some' m).1, .bool (partyR l some' m).2]) := by
  refine pcallF mixed Tryz.func18 ck_chaseref1_PartyOf ?_
  simp only [a0, l0, OS.ao, List.map_cons, List.map_nil, List.length_cons, List.length_nil, List.cons_append, List.nil_append, Nat.reduceSub, Nat.reduceAdd, List.replicate_succ, List.replicate_zero, ir_chaseref1_PartyOf, rs_chaseref1_PartyOf, ZZ, FnG_some, IsnK_some, Za, Zb, Zc, Zd, Ze, Zf, Zg, Zh, rd, AV.un, AV.unA, AV.ad, Zi, Zj, Zk, Zl, Zm, Zn, Zo, Zp, Zq, Zr, Zs, Zt, Zu, Zv, Zw, Zx, Zy, Zz, Zaa, Zab, Zac, Zad, Zae, Zaf, Zag, Zah, Zai, Zaj, Zak, Zal, Zam, Zan, wk1, wk, Zao, Zap, Zaq, Zar, Zas, Zat, Zau, Zav, AV.kill, AO.kill, AV.thaw, AO.thaw, Zaw, Zax, Zay, Zaz, Zba, Zbb, Zbc, Zbd, Zbe, ite_true, ite_false, reduceCtorEq, Nat.reduceAdd, Nat.reduceMul, Nat.reduceLeDiff, Nat.reduceLT, Nat.reduceEqDiff, forall_const]
  refine use1 (partyOf_ok l some' m hl hl2 hb hm) rfl (.inl rfl) ?_
  generalize partyR l some' m = q
  simp only [parA, par]
  simp only [ZZ, FnG_some, IsnK_some, Za, Zb, Zc, Zd, Ze, Zf, Zg, Zh, rd, AV.un, AV.unA, AV.ad, Zi, Zj, Zk, Zl, Zm, Zn, Zo, Zp, Zq, Zr, Zs, Zt, Zu, Zv, Zw, Zx, Zy, Zz, Zaa, Zab, Zac, Zad, Zae, Zaf, Zag, Zah, Zai, Zaj, Zak, Zal, Zam, Zan, wk1, wk, Zao, Zap, Zaq, Zar, Zas, Zat, Zau, Zav, AV.kill, AO.kill, AV.thaw, AO.thaw, Zaw, Zax, Zay, Zaz, Zba, Zbb, Zbc, Zbd, Zbe, ite_true, ite_false, reduceCtorEq, Nat.reduceAdd, Nat.reduceMul, Nat.reduceLeDiff, Nat.reduceLT, Nat.reduceEqDiff, forall_const]
end Go.Proofs.YtndjmidmfmcbkaaGreatDoor
