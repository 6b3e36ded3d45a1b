
/- Own texts, put together: V5 V6 V7 V8 M8. -/
import Derived.Test.YtidmphcocnaonaaGreatDoorZ7
import Derived.Test.YtidmphcocnaonaaGreatDoorZ5
import Derived.Laws.Cover4
/- Dates as the program reads them. -/
namespace Go.Proofs.YtidmphcocnaonaaGreatDoor
open Go.RowKit
set_option linter.unusedVariables false
set_option linter.unusedSimpArgs false
set_option linter.defProp false

/- paperchase/thread.date -/
def ir_thread_date : IC :=
  (.seq (.reg [⟨some 2, .mov (.c (.int .i64 0)), none⟩,
      ⟨some 3, .mov (.c (.bool false)), none⟩])
    (.seq (.reg [⟨some 24, .mov (.t 0), none⟩,
      ⟨some 25, .call 93 [.t 24, .c (.str [32])], none⟩,
      ⟨some 4, .mov (.t 25), none⟩])
    (.seq (.seq (.reg [⟨some 26, .mov (.t 4), none⟩,
      ⟨some 27, .len (.t 26), none⟩,
      ⟨some 28, .bin .neq (.t 27) (.c (.int .i64 6)), none⟩,
      ⟨some 29, .mov (.t 28), none⟩,
      ⟨some 30, .mov (.t 4), (some (29, false))⟩,
      ⟨some 31, .ixa 1 (.t 30) (.c (.int .i64 4)), (some (29, false))⟩,
      ⟨some 32, .ld 1 false (.t 31), (some (29, false))⟩,
      ⟨some 33, .sln (.t 32), (some (29, false))⟩,
      ⟨some 34, .bin .neq (.t 33) (.c (.int .i64 5)), (some (29, false))⟩,
      ⟨some 35, .pick (.t 29) (.c (.bool true)) (.t 34), none⟩,
      ⟨some 36, .mov (.t 35), none⟩,
      ⟨some 37, .mov (.t 4), (some (36, false))⟩,
      ⟨some 38, .ixa 1 (.t 37) (.c (.int .i64 4)), (some (36, false))⟩,
      ⟨some 39, .ld 1 false (.t 38), (some (36, false))⟩,
      ⟨some 40, .idx (.t 39) (.c (.int .i64 2)), (some (36, false))⟩,
      ⟨some 41, .bin .neq (.t 40) (.c (.int .u8 58)), (some (36, false))⟩,
      ⟨some 42, .pick (.t 36) (.c (.bool true)) (.t 41), none⟩,
      ⟨some 43, .mov (.t 42), none⟩,
      ⟨some 44, .mov (.t 4), (some (43, false))⟩,
      ⟨some 45, .ixa 1 (.t 44) (.c (.int .i64 5)), (some (43, false))⟩,
      ⟨some 46, .ld 1 false (.t 45), (some (43, false))⟩,
      ⟨some 47, .sln (.t 46), (some (43, false))⟩,
      ⟨some 48, .bin .neq (.t 47) (.c (.int .i64 5)), (some (43, false))⟩,
      ⟨some 49, .pick (.t 43) (.c (.bool true)) (.t 48), none⟩,
      ⟨some 50, .mov (.t 49), none⟩,
      ⟨some 51, .mov (.t 4), (some (50, false))⟩,
      ⟨some 52, .ixa 1 (.t 51) (.c (.int .i64 5)), (some (50, false))⟩,
      ⟨some 53, .ld 1 false (.t 52), (some (50, false))⟩,
      ⟨some 54, .idx (.t 53) (.c (.int .i64 0)), (some (50, false))⟩,
      ⟨some 55, .bin .neq (.t 54) (.c (.int .u8 43)), (some (50, false))⟩,
      ⟨some 56, .mov (.t 55), (some (50, false))⟩,
      ⟨some 57, .mov (.t 4), (some (56, true))⟩,
      ⟨some 58, .ixa 1 (.t 57) (.c (.int .i64 5)), (some (56, true))⟩,
      ⟨some 59, .ld 1 false (.t 58), (some (56, true))⟩,
      ⟨some 60, .idx (.t 59) (.c (.int .i64 0)), (some (56, true))⟩,
      ⟨some 61, .bin .neq (.t 60) (.c (.int .u8 45)), (some (56, true))⟩,
      ⟨some 62, .pick (.t 56) (.t 61) (.c (.bool false)), (some (50, false))⟩,
      ⟨some 63, .pick (.t 50) (.c (.bool true)) (.t 62), none⟩])
    (.cond (.t 63) (.seq (.reg [⟨some 2, .mov (.c (.int .i64 0)), none⟩,
      ⟨some 3, .mov (.c (.bool false)), none⟩])
    .ret) .skip))
    (.seq (.reg [⟨some 65, .mov (.t 4), none⟩,
      ⟨some 66, .ixa 1 (.t 65) (.c (.int .i64 0)), none⟩,
      ⟨some 67, .ld 1 false (.t 66), none⟩,
      ⟨some 68, .call 89 [.t 67, .c (.str [44])], none⟩,
      ⟨some 69, .call 170 [.t 68, .c (.str [77, 111, 110, 84, 117, 101, 87, 101, 100, 84, 104, 117, 70, 114, 105, 83, 97, 116, 83, 117, 110])], none⟩,
      ⟨some 64, .mov (.t 69), none⟩,
      ⟨some 70, .ext 0 (.t 64), none⟩,
      ⟨some 71, .ext 1 (.t 64), none⟩,
      ⟨some 5, .mov (.t 70), none⟩,
      ⟨some 6, .mov (.t 71), none⟩])
    (.seq (.reg [⟨some 73, .mov (.t 4), none⟩,
      ⟨some 74, .ixa 1 (.t 73) (.c (.int .i64 1)), none⟩,
      ⟨some 75, .ld 1 false (.t 74), none⟩,
      ⟨some 76, .call 171 [.t 75, .c (.int .i64 2)], none⟩,
      ⟨some 72, .mov (.t 76), none⟩,
      ⟨some 77, .ext 0 (.t 72), none⟩,
      ⟨some 78, .ext 1 (.t 72), none⟩,
      ⟨some 7, .mov (.t 77), none⟩,
      ⟨some 8, .mov (.t 78), none⟩])
    (.seq (.reg [⟨some 80, .mov (.t 4), none⟩,
      ⟨some 81, .ixa 1 (.t 80) (.c (.int .i64 2)), none⟩,
      ⟨some 82, .ld 1 false (.t 81), none⟩,
      ⟨some 83, .call 170 [.t 82, .c (.str [74, 97, 110, 70, 101, 98, 77, 97, 114, 65, 112, 114, 77, 97, 121, 74, 117, 110, 74, 117, 108, 65, 117, 103, 83, 101, 112, 79, 99, 116, 78, 111, 118, 68, 101, 99])], none⟩,
      ⟨some 79, .mov (.t 83), none⟩,
      ⟨some 84, .ext 0 (.t 79), none⟩,
      ⟨some 85, .ext 1 (.t 79), none⟩,
      ⟨some 9, .mov (.t 84), none⟩,
      ⟨some 10, .mov (.t 85), none⟩])
    (.seq (.reg [⟨some 87, .mov (.t 4), none⟩,
      ⟨some 88, .ixa 1 (.t 87) (.c (.int .i64 3)), none⟩,
      ⟨some 89, .ld 1 false (.t 88), none⟩,
      ⟨some 90, .call 172 [.t 89, .c (.int .i64 4), .c (.int .i64 9999)], none⟩,
      ⟨some 86, .mov (.t 90), none⟩,
      ⟨some 91, .ext 0 (.t 86), none⟩,
      ⟨some 92, .ext 1 (.t 86), none⟩,
      ⟨some 11, .mov (.t 91), none⟩,
      ⟨some 12, .mov (.t 92), none⟩])
    (.seq (.reg [⟨some 94, .mov (.t 4), none⟩,
      ⟨some 95, .ixa 1 (.t 94) (.c (.int .i64 4)), none⟩,
      ⟨some 96, .ld 1 false (.t 95), none⟩,
      ⟨some 97, .ssl (.t 96) none (some (.c (.int .i64 2))), none⟩,
      ⟨some 98, .call 172 [.t 97, .c (.int .i64 2), .c (.int .i64 23)], none⟩,
      ⟨some 93, .mov (.t 98), none⟩,
      ⟨some 99, .ext 0 (.t 93), none⟩,
      ⟨some 100, .ext 1 (.t 93), none⟩,
      ⟨some 13, .mov (.t 99), none⟩,
      ⟨some 14, .mov (.t 100), none⟩])
    (.seq (.reg [⟨some 102, .mov (.t 4), none⟩,
      ⟨some 103, .ixa 1 (.t 102) (.c (.int .i64 4)), none⟩,
      ⟨some 104, .ld 1 false (.t 103), none⟩,
      ⟨some 105, .ssl (.t 104) (some (.c (.int .i64 3))) none, none⟩,
      ⟨some 106, .call 172 [.t 105, .c (.int .i64 2), .c (.int .i64 59)], none⟩,
      ⟨some 101, .mov (.t 106), none⟩,
      ⟨some 107, .ext 0 (.t 101), none⟩,
      ⟨some 108, .ext 1 (.t 101), none⟩,
      ⟨some 15, .mov (.t 107), none⟩,
      ⟨some 16, .mov (.t 108), none⟩])
    (.seq (.reg [⟨some 110, .mov (.t 4), none⟩,
      ⟨some 111, .ixa 1 (.t 110) (.c (.int .i64 5)), none⟩,
      ⟨some 112, .ld 1 false (.t 111), none⟩,
      ⟨some 113, .ssl (.t 112) (some (.c (.int .i64 1))) (some (.c (.int .i64 3))), none⟩,
      ⟨some 114, .call 172 [.t 113, .c (.int .i64 2), .c (.int .i64 14)], none⟩,
      ⟨some 109, .mov (.t 114), none⟩,
      ⟨some 115, .ext 0 (.t 109), none⟩,
      ⟨some 116, .ext 1 (.t 109), none⟩,
      ⟨some 17, .mov (.t 115), none⟩,
      ⟨some 18, .mov (.t 116), none⟩])
    (.seq (.reg [⟨some 118, .mov (.t 4), none⟩,
      ⟨some 119, .ixa 1 (.t 118) (.c (.int .i64 5)), none⟩,
      ⟨some 120, .ld 1 false (.t 119), none⟩,
      ⟨some 121, .ssl (.t 120) (some (.c (.int .i64 3))) none, none⟩,
      ⟨some 122, .call 172 [.t 121, .c (.int .i64 2), .c (.int .i64 59)], none⟩,
      ⟨some 117, .mov (.t 122), none⟩,
      ⟨some 123, .ext 0 (.t 117), none⟩,
      ⟨some 124, .ext 1 (.t 117), none⟩,
      ⟨some 19, .mov (.t 123), none⟩,
      ⟨some 20, .mov (.t 124), none⟩])
    (.seq (.seq (.reg [⟨some 125, .mov (.t 4), none⟩,
      ⟨some 126, .ixa 1 (.t 125) (.c (.int .i64 0)), none⟩,
      ⟨some 127, .ld 1 false (.t 126), none⟩,
      ⟨some 128, .call 100 [.t 127, .c (.str [44])], none⟩,
      ⟨some 129, .not (.t 128), none⟩,
      ⟨some 130, .mov (.t 129), none⟩,
      ⟨some 131, .mov (.t 4), (some (130, false))⟩,
      ⟨some 132, .ixa 1 (.t 131) (.c (.int .i64 0)), (some (130, false))⟩,
      ⟨some 133, .ld 1 false (.t 132), (some (130, false))⟩,
      ⟨some 134, .sln (.t 133), (some (130, false))⟩,
      ⟨some 135, .bin .neq (.t 134) (.c (.int .i64 4)), (some (130, false))⟩,
      ⟨some 136, .pick (.t 130) (.c (.bool true)) (.t 135), none⟩,
      ⟨some 137, .mov (.t 136), none⟩,
      ⟨some 138, .mov (.t 6), (some (137, false))⟩,
      ⟨some 139, .mov (.t 138), (some (137, false))⟩,
      ⟨some 140, .mov (.t 8), (some (139, true))⟩,
      ⟨some 141, .pick (.t 139) (.t 140) (.c (.bool false)), (some (137, false))⟩,
      ⟨some 142, .mov (.t 141), (some (137, false))⟩,
      ⟨some 143, .mov (.t 10), (some (142, true))⟩,
      ⟨some 144, .pick (.t 142) (.t 143) (.c (.bool false)), (some (137, false))⟩,
      ⟨some 145, .mov (.t 144), (some (137, false))⟩,
      ⟨some 146, .mov (.t 12), (some (145, true))⟩,
      ⟨some 147, .pick (.t 145) (.t 146) (.c (.bool false)), (some (137, false))⟩,
      ⟨some 148, .mov (.t 147), (some (137, false))⟩,
      ⟨some 149, .mov (.t 14), (some (148, true))⟩,
      ⟨some 150, .pick (.t 148) (.t 149) (.c (.bool false)), (some (137, false))⟩,
      ⟨some 151, .mov (.t 150), (some (137, false))⟩,
      ⟨some 152, .mov (.t 16), (some (151, true))⟩,
      ⟨some 153, .pick (.t 151) (.t 152) (.c (.bool false)), (some (137, false))⟩,
      ⟨some 154, .mov (.t 153), (some (137, false))⟩,
      ⟨some 155, .mov (.t 18), (some (154, true))⟩,
      ⟨some 156, .pick (.t 154) (.t 155) (.c (.bool false)), (some (137, false))⟩,
      ⟨some 157, .mov (.t 156), (some (137, false))⟩,
      ⟨some 158, .mov (.t 20), (some (157, true))⟩,
      ⟨some 159, .pick (.t 157) (.t 158) (.c (.bool false)), (some (137, false))⟩,
      ⟨some 160, .not (.t 159), (some (137, false))⟩,
      ⟨some 161, .pick (.t 137) (.c (.bool true)) (.t 160), none⟩])
    (.cond (.t 161) (.seq (.reg [⟨some 2, .mov (.c (.int .i64 0)), none⟩,
      ⟨some 3, .mov (.c (.bool false)), none⟩])
    .ret) .skip))
    (.seq (.reg [⟨some 163, .mov (.t 11), none⟩,
      ⟨some 164, .mov (.t 9), none⟩,
      ⟨some 165, .bin .add (.t 164) (.c (.int .i64 1)), none⟩,
      ⟨some 166, .mov (.t 7), none⟩,
      ⟨some 167, .call 173 [.t 163, .t 165, .t 166], none⟩,
      ⟨some 162, .mov (.t 167), none⟩,
      ⟨some 168, .ext 0 (.t 162), none⟩,
      ⟨some 169, .ext 1 (.t 162), none⟩,
      ⟨some 21, .mov (.t 168), none⟩,
      ⟨some 22, .mov (.t 169), none⟩])
    (.seq (.seq (.reg [⟨some 170, .mov (.t 22), none⟩,
      ⟨some 171, .not (.t 170), none⟩,
      ⟨some 172, .mov (.t 171), none⟩,
      ⟨some 173, .mov (.t 21), (some (172, false))⟩,
      ⟨some 174, .mov (.t 21), (some (172, false))⟩,
      ⟨some 175, .call 174 [.t 174, .c (.int .i64 7)], (some (172, false))⟩,
      ⟨some 176, .bin .mul (.c (.int .i64 7)) (.t 175), (some (172, false))⟩,
      ⟨some 177, .bin .sub (.t 173) (.t 176), (some (172, false))⟩,
      ⟨some 178, .mov (.t 5), (some (172, false))⟩,
      ⟨some 179, .bin .neq (.t 177) (.t 178), (some (172, false))⟩,
      ⟨some 180, .pick (.t 172) (.c (.bool true)) (.t 179), none⟩])
    (.cond (.t 180) (.seq (.reg [⟨some 2, .mov (.c (.int .i64 0)), none⟩,
      ⟨some 3, .mov (.c (.bool false)), none⟩])
    .ret) .skip))
    (.seq (.reg [⟨some 181, .mov (.t 17), none⟩,
      ⟨some 182, .bin .mul (.c (.int .i64 60)) (.t 181), none⟩,
      ⟨some 183, .mov (.t 19), none⟩,
      ⟨some 184, .bin .add (.t 182) (.t 183), none⟩,
      ⟨some 23, .mov (.t 184), none⟩])
    (.seq (.seq (.reg [⟨some 185, .mov (.t 4), none⟩,
      ⟨some 186, .ixa 1 (.t 185) (.c (.int .i64 5)), none⟩,
      ⟨some 187, .ld 1 false (.t 186), none⟩,
      ⟨some 188, .idx (.t 187) (.c (.int .i64 0)), none⟩,
      ⟨some 189, .bin .eql (.t 188) (.c (.int .u8 45)), none⟩])
    (.cond (.t 189) (.reg [⟨some 190, .mov (.t 23), none⟩,
      ⟨some 191, .neg (.t 190), none⟩,
      ⟨some 23, .mov (.t 191), none⟩]) .skip))
    (.cut (.seq (.reg [⟨some 192, .mov (.t 21), none⟩,
      ⟨some 193, .bin .mul (.t 192) (.c (.int .i64 1440)), none⟩,
      ⟨some 194, .mov (.t 13), none⟩,
      ⟨some 195, .bin .mul (.c (.int .i64 60)) (.t 194), none⟩,
      ⟨some 196, .bin .add (.t 193) (.t 195), none⟩,
      ⟨some 197, .mov (.t 15), none⟩,
      ⟨some 198, .bin .add (.t 196) (.t 197), none⟩,
      ⟨some 199, .mov (.t 23), none⟩,
      ⟨some 200, .bin .sub (.t 198) (.t 199), none⟩,
      ⟨some 2, .mov (.t 200), none⟩,
      ⟨some 3, .mov (.c (.bool true)), none⟩])
    .ret))))))))))))))))))
def rs_thread_date : List IRes := [.t 2, .t 3]
theorem ck_thread_date : chkF Tryz.prog Tryz.f91 ir_thread_date rs_thread_date 201 = true := by kernel_rfl
/- paperchase/thread.Date -/
def ir_thread_Date : IC :=
  (.seq (.reg [⟨some 2, .mov (.c (.int .i64 0)), none⟩,
      ⟨some 3, .mov (.c (.int .i64 0)), none⟩])
    (.seq (.reg [⟨some 7, .mov (.t 0), none⟩,
      ⟨some 8, .call 91 [.t 7], none⟩,
      ⟨some 6, .mov (.t 8), none⟩,
      ⟨some 9, .ext 0 (.t 6), none⟩,
      ⟨some 10, .ext 1 (.t 6), none⟩,
      ⟨some 4, .mov (.t 9), none⟩,
      ⟨some 5, .mov (.t 10), none⟩])
    (.seq (.seq (.reg [⟨some 11, .mov (.t 5), none⟩,
      ⟨some 12, .not (.t 11), none⟩])
    (.cond (.t 12) (.seq (.reg [⟨some 2, .mov (.c (.int .i64 0)), none⟩,
      ⟨some 3, .mov (.c (.int .i64 9)), none⟩])
    .ret) .skip))
    (.seq (.seq (.reg [⟨some 13, .mov (.t 4), none⟩,
      ⟨some 14, .call 92 [.t 13], none⟩,
      ⟨some 15, .not (.t 14), none⟩])
    (.cond (.t 15) (.seq (.reg [⟨some 2, .mov (.c (.int .i64 0)), none⟩,
      ⟨some 3, .mov (.c (.int .i64 1)), none⟩])
    .ret) .skip))
    (.seq (.reg [⟨some 16, .mov (.t 4), none⟩,
      ⟨some 2, .mov (.t 16), none⟩,
      ⟨some 3, .mov (.c (.int .i64 0)), none⟩])
    .ret)))))
def rs_thread_Date : List IRes := [.t 2, .t 3]
theorem ck_thread_Date : chkF Tryz.prog Tryz.f28 ir_thread_Date rs_thread_Date 17 = true := by kernel_rfl

def nmF (L : List (List UInt8)) (s : List UInt8) : Int × Bool := if 0 ≤ idxS L s 0 then (idxS L s 0, true) else (0, false)
def ntF (s : List UInt8) (dg : Int) : Int × Bool := if badN s dg = false ∧ (cutPreF s [45]).1.all digB = true then (atV s, atB s && decide (0 ≤ atV s)) else (0, false)
def fxF (s : List UInt8) (d : Nat) (most : Int) : Int × Bool := if fxOk s d = true then ((foldD s : Nat), decide ((foldD s : Int) ≤ most)) else (0, false)
theorem weekdays_ok {E : Envt} (s : List UInt8) (hs : s.length ≤ 1000000) : PCall Tryz.prog E 170 [.str s, .str [77, 111, 110, 84, 117, 101, 87, 101, 100, 84, 104, 117, 70, 114, 105, 83, 97, 116, 83, 117, 110]] (· = .tup [int (nmF dayL s).1, .bool (nmF dayL s).2]) := by
  have h := name3_ok (E := E) s [77, 111, 110, 84, 117, 101, 87, 101, 100, 84, 104, 117, 70, 114, 105, 83, 97, 116, 83, 117, 110] dayL (by decide) (by decide) hs (by
    intro k x hx
    have hk := (List.getElem?_eq_some_iff.1 hx).1
    have : ∀ i : Fin 7, dayL[i.val]? = some (([77, 111, 110, 84, 117, 101, 87, 101, 100, 84, 104, 117, 70, 114, 105, 83, 97, 116, 83, 117, 110] : List UInt8).take (3 * i.val + 3) |>.drop (3 * i.val)) := by decide
    have := this ⟨k, hk⟩
    simp only at this
    rw [hx] at this
    exact (Option.some.inj this).symm)
  unfold nmF
  split
  · rename_i h0; rw [if_pos h0] at h; exact h
  · rename_i h0; rw [if_neg h0] at h; exact h
theorem months_ok {E : Envt} (s : List UInt8) (hs : s.length ≤ 1000000) : PCall Tryz.prog E 170 [.str s, .str [74, 97, 110, 70, 101, 98, 77, 97, 114, 65, 112, 114, 77, 97, 121, 74, 117, 110, 74, 117, 108, 65, 117, 103, 83, 101, 112, 79, 99, 116, 78, 111, 118, 68, 101, 99]] (· = .tup [int (nmF monL s).1, .bool (nmF monL s).2]) := by
  have h := name3_ok (E := E) s [74, 97, 110, 70, 101, 98, 77, 97, 114, 65, 112, 114, 77, 97, 121, 74, 117, 110, 74, 117, 108, 65, 117, 103, 83, 101, 112, 79, 99, 116, 78, 111, 118, 68, 101, 99] monL (by decide) (by decide) hs (by
    intro k x hx
    have hk := (List.getElem?_eq_some_iff.1 hx).1
    have : ∀ i : Fin 12, monL[i.val]? = some (([74, 97, 110, 70, 101, 98, 77, 97, 114, 65, 112, 114, 77, 97, 121, 74, 117, 110, 74, 117, 108, 65, 117, 103, 83, 101, 112, 79, 99, 116, 78, 111, 118, 68, 101, 99] : List UInt8).take (3 * i.val + 3) |>.drop (3 * i.val)) := by decide
    have := this ⟨k, hk⟩
    simp only at this
    rw [hx] at this
    exact (Option.some.inj this).symm)
  unfold nmF
  split
  · rename_i h0; rw [if_pos h0] at h; exact h
  · rename_i h0; rw [if_neg h0] at h; exact h
theorem Natural_ok' (s : List UInt8) (dg : Int) (hs : s.length ≤ 1000000) : PCall Tryz.prog E5 171 [.str s, int dg] (· = .tup [int (ntF s dg).1, .bool (ntF s dg).2]) := by
  have h := Natural_ok s dg hs
  unfold ntF
  split
  · rename_i h0; rw [if_pos h0] at h; exact h
  · rename_i h0; rw [if_neg h0] at h; exact h
theorem fixed_ok' {E : Envt} (s : List UInt8) (d : Nat) (most : Int) (hd : d ≤ 9) (hs : s.length ≤ 1000000) : PCall Tryz.prog E 172 [.str s, int (d : Nat), int most] (· = .tup [int (fxF s d most).1, .bool (fxF s d most).2]) := by
  have h := fixed_ok (E := E) s d most hd hs
  unfold fxF
  split
  · rename_i h0; rw [if_pos h0] at h; exact h
  · rename_i h0; rw [if_neg h0] at h; exact h
theorem idxS_bd (l : List (List UInt8)) (x : List UInt8) : ∀ (n k : Nat), l.length - k ≤ n → -1 ≤ idxS l x k ∧ idxS l x k < l.length ∨ idxS l x k = -1 := by
  intro n
  induction n with
  | zero =>
    intro k hk
    rw [idxS, dif_neg (by omega)]
    exact .inr rfl
  | succ n ih =>
    intro k hk
    rw [idxS]
    split
    · split
      · left; omega
      · exact ih (k + 1) (by omega)
    · exact .inr rfl
theorem nmF_bd (L : List (List UInt8)) (s : List UInt8) (hL : 0 < L.length) : 0 ≤ (nmF L s).1 ∧ (nmF L s).1 < L.length := by
  unfold nmF
  have := idxS_bd L s L.length 0 (by omega)
  split
  · simp only; omega
  · simp only; omega
theorem fxF_bd (s : List UInt8) {d : Nat} (most : Int) (hd : d ≤ 9) : 0 ≤ (fxF s d most).1 ∧ (fxF s d most).1 < 1000000000 ∧ ((fxF s d most).2 = true → (fxF s d most).1 ≤ most) := by
  unfold fxF
  split
  · rename_i h
    simp only [fxOk, Bool.and_eq_true, decide_eq_true_eq] at h
    have hb := vfoldD_lt s h.2
    have hp : (10 : Nat) ^ s.length ≤ 10 ^ 9 := Nat.pow_le_pow_right (by decide) (by omega)
    simp only
    exact ⟨by omega, by omega, fun h => of_decide_eq_true h⟩
  · exact ⟨by decide, by decide, fun h => by cases h⟩
theorem list6 {w : List (List UInt8)} (h : w.length = 6) : ∃ a b c d e f, w = [a, b, c, d, e, f] := by
  match w, h with
  | [a, b, c, d, e, f], _ => exact ⟨a, b, c, d, e, f, rfl⟩
/-- What the date's six words say. -/
def preT (e f : List UInt8) : Bool := (((!decide ((e.length : Int) = 5) || !decide (((e.getD 2 0).toNat : Int) = 58)) || !decide ((f.length : Int) = 5)) || (!decide (((f.getD 0 0).toNat : Int) = 43) && !decide (((f.getD 0 0).toNat : Int) = 45)))
theorem daysN_bd {y m d : Int} (hy0 : 0 ≤ y) (hy1 : y ≤ 10000) (hm0 : 1 ≤ m) (hm1 : m ≤ 12) (hd : 1 ≤ d ∧ d ≤ 31) : -1000000 ≤ daysN y m d ∧ daysN y m d ≤ 5000000 := by
  have h1 := mS_b y (m - 1).toNat
  have h2 := yS_b 2024 (y - 2024).toNat
  have h3 := yS_b y (2024 - y).toNat
  unfold daysN
  omega
def dT3 (sf : Bool) (al : Nat) (X0 X1 X2 X3 X4 X5 X6 X7 : Int × Bool) (sg : Nat) : Int × Bool :=
  if ((!sf || !decide ((al : Int) = 4)) || !(((((((X0.2 && X1.2) && X2.2) && X3.2) && X4.2) && X5.2) && X6.2) && X7.2)) = true then (0, false)
  else if inE X1.1 1 (mlen X3.1 (X2.1 + 1)) = true ∧ daysN X3.1 (X2.1 + 1) X1.1 - 7 * (daysN X3.1 (X2.1 + 1) X1.1 / 7) = X0.1 then
    (daysN X3.1 (X2.1 + 1) X1.1 * 1440 + 60 * X4.1 + X5.1 - (if (sg : Int) = 45 then -(60 * X6.1 + X7.1) else 60 * X6.1 + X7.1), true)
  else (0, false)
def dateT : List (List UInt8) → Int × Bool
  | [a, b, c, d, e, f] => if preT e f = true then (0, false) else dT3 (sufE a [44]) a.length (nmF dayL (trimSufL a [44])) (ntF b 2) (nmF monL c) (fxF d 4 9999) (fxF (e.take 2) 2 23) (fxF (e.drop 3) 2 59) (fxF ((f.take 3).drop 1) 2 14) (fxF (f.drop 3) 2 59) (f.getD 0 0).toNat
  | _ => (0, false)
theorem dateT_bad {w : List (List UInt8)} (h : ¬ w.length = 6) : dateT w = (0, false) := by
  unfold dateT
  split
  · exact absurd rfl h
  · rfl
set_option maxHeartbeats 8000000 in
set_option maxRecDepth 100000 in
theorem date_ok (t : List UInt8) (ht : t.length ≤ 1000) : PCall Tryz.prog E5 91 [.str t] (· = .tup [int (dateT (splF t 32)).1, .bool (dateT (splF t 32)).2]) := by
  refine pcallF mixed Tryz.func91 ck_thread_date ?_
  simp only [a0, l0, OS.ao, List.map_cons, List.map_nil, List.length_cons, List.length_nil, List.cons_append, List.nil_append, Nat.reduceSub, Nat.reduceAdd, List.replicate_succ, List.replicate_zero, ir_thread_date, rs_thread_date, ZZ, YY, Ze, ite_true, ite_false, forall_const, reduceCtorEq, Nat.reduceAdd, Nat.reduceMul, Nat.reduceLeDiff, Nat.reduceLT, Nat.reduceEqDiff]
  refine use1 (up5 (Split_ok t 32 (by omega))) rfl (.inl rfl) ?_
  have hlb := splF_mem t 32
  generalize splF t 32 = w at *
  rw [strs_eq]
  by_cases h6 : w.length = 6
  rotate_left
  · have hb : decide (((w.length : Nat) : Int) = 6) = false := decide_eq_false (by omega)
    have hget : ∀ k : Nat, (∃ x, (strE w).getD k [] = [.str x]) ∨ (strE w).getD k [] = [] := by
      intro k
      cases h : w[k]? with
      | some x => exact .inl ⟨x, strE_get h⟩
      | none => exact .inr (by simp [List.getD, strE, h])
    have e4 : Int.toNat 4 = 4 := rfl
    have e5 : Int.toNat 5 = 5 := rfl
    rw [dateT_bad h6]
    rcases hget 4 with ⟨x, h4⟩ | h4
    · rcases hget 5 with ⟨y, h5⟩ | h5
      · simp only [ZZ, YY, Ze, ite_true, ite_false, forall_const, reduceCtorEq, Nat.reduceAdd, Nat.reduceMul, Nat.reduceLeDiff, Nat.reduceLT, Nat.reduceEqDiff, strE_len, hb, e4, e5, h4, h5, false_implies, Bool.false_and]
      · simp only [ZZ, YY, Ze, ite_true, ite_false, forall_const, reduceCtorEq, Nat.reduceAdd, Nat.reduceMul, Nat.reduceLeDiff, Nat.reduceLT, Nat.reduceEqDiff, strE_len, hb, e4, e5, h4, h5, false_implies, Bool.false_and]
    · rcases hget 5 with ⟨y, h5⟩ | h5
      · simp only [ZZ, YY, Ze, ite_true, ite_false, forall_const, reduceCtorEq, Nat.reduceAdd, Nat.reduceMul, Nat.reduceLeDiff, Nat.reduceLT, Nat.reduceEqDiff, strE_len, hb, e4, e5, h4, h5, false_implies, Bool.false_and]
      · simp only [ZZ, YY, Ze, ite_true, ite_false, forall_const, reduceCtorEq, Nat.reduceAdd, Nat.reduceMul, Nat.reduceLeDiff, Nat.reduceLT, Nat.reduceEqDiff, strE_len, hb, e4, e5, h4, h5, false_implies, Bool.false_and]
  · obtain ⟨a, b, c, d, e, f, rfl⟩ := list6 h6
    have g0 : (strE [a, b, c, d, e, f]).getD (Int.toNat 0) [] = [.str a] := rfl
    have g1 : (strE [a, b, c, d, e, f]).getD (Int.toNat 1) [] = [.str b] := rfl
    have g2 : (strE [a, b, c, d, e, f]).getD (Int.toNat 2) [] = [.str c] := rfl
    have g3 : (strE [a, b, c, d, e, f]).getD (Int.toNat 3) [] = [.str d] := rfl
    have g4 : (strE [a, b, c, d, e, f]).getD (Int.toNat 4) [] = [.str e] := rfl
    have g5 : (strE [a, b, c, d, e, f]).getD (Int.toNat 5) [] = [.str f] := rfl
    have g0' : (strE [a, b, c, d, e, f]).getD 0 [] = [.str a] := rfl
    have g5' : (strE [a, b, c, d, e, f]).getD 5 [] = [.str f] := rfl
    have c6 : decide (((6 : Nat) : Int) = 6) = true := by decide
    have z0 : Int.toNat 0 = 0 := rfl
    have z1 : Int.toNat 1 = 1 := rfl
    have z2 : Int.toNat 2 = 2 := rfl
    have z3 : Int.toNat 3 = 3 := rfl
    have hla : a.length ≤ 1000 := Nat.le_trans (hlb a (by simp)) ht
    have hlb1 : b.length ≤ 1000 := Nat.le_trans (hlb b (by simp)) ht
    have hlc : c.length ≤ 1000 := Nat.le_trans (hlb c (by simp)) ht
    have hld : d.length ≤ 1000 := Nat.le_trans (hlb d (by simp)) ht
    have hle : e.length ≤ 1000 := Nat.le_trans (hlb e (by simp)) ht
    have hlf : f.length ≤ 1000 := Nat.le_trans (hlb f (by simp)) ht
    clear hlb h6
    cases b1 : decide (((e.length : Nat) : Int) = 5) with
    | false =>
      have hp : preT e f = true := by simp only [preT, b1, Bool.not_false, Bool.true_or]
      rw [dateT, if_pos hp]
      simp only [ZZ, YY, Ze, ite_true, ite_false, forall_const, reduceCtorEq, Nat.reduceAdd, Nat.reduceMul, Nat.reduceLeDiff, Nat.reduceLT, Nat.reduceEqDiff, strE_len, g0, g1, g2, g3, g4, g5, c6, z0, z2, false_implies, Bool.false_and, b1]
      simp
    | true =>
      have hl5 : e.length = 5 := by have := of_decide_eq_true b1; omega
      cases b2 : decide (((e.getD 2 0).toNat : Int) = 58) with
      | false =>
        have hp : preT e f = true := by simp only [preT, b1, b2, Bool.not_true, Bool.not_false, Bool.false_or, Bool.true_or]
        rw [dateT, if_pos hp]
        simp only [ZZ, YY, Ze, ite_true, ite_false, forall_const, reduceCtorEq, Nat.reduceAdd, Nat.reduceMul, Nat.reduceLeDiff, Nat.reduceLT, Nat.reduceEqDiff, strE_len, g0, g1, g2, g3, g4, g5, c6, z0, z2, false_implies, Bool.false_and, b1, b2]
        simp [hl5]
      | true =>
        cases b3 : decide (((f.length : Nat) : Int) = 5) with
        | false =>
          have hp : preT e f = true := by simp only [preT, b1, b2, b3, Bool.not_true, Bool.not_false, Bool.false_or, Bool.true_or]
          rw [dateT, if_pos hp]
          simp only [ZZ, YY, Ze, ite_true, ite_false, forall_const, reduceCtorEq, Nat.reduceAdd, Nat.reduceMul, Nat.reduceLeDiff, Nat.reduceLT, Nat.reduceEqDiff, strE_len, g0, g1, g2, g3, g4, g5, c6, z0, z2, false_implies, Bool.false_and, b1, b2, b3]
          simp [hl5]
        | true =>
          have hf5 : f.length = 5 := by have := of_decide_eq_true b3; omega
          have hpr : preT e f = (!decide (((f.getD 0 0).toNat : Int) = 43) && !decide (((f.getD 0 0).toNat : Int) = 45)) := by simp only [preT, b1, b2, b3, Bool.not_true, Bool.false_or]
          simp only [ZZ, YY, Ze, ite_true, ite_false, forall_const, reduceCtorEq, Nat.reduceAdd, Nat.reduceMul, Nat.reduceLeDiff, Nat.reduceLT, Nat.reduceEqDiff, strE_len, g0, g1, g2, g3, g4, g5, c6, z0, z2, false_implies, Bool.false_and, b1, b2, b3]
          rw [← hpr]
          refine ⟨⟨by decide, by decide⟩, by decide, ⟨by decide, by decide⟩, by decide, ⟨by decide, by omega⟩, ⟨by decide, by decide⟩, by decide, ⟨by decide, by decide⟩, by decide, ⟨by decide, by omega⟩, fun h => ⟨h, by decide, by decide⟩, fun h => ⟨h, by decide⟩, fun h => ⟨h, by decide, by omega⟩, ?_⟩
          have i1 : ∀ k : Int, 0 ≤ k → k < 6 → (0 ≤ k ∧ k < ((6 : Nat) : Int)) ∧ k.toNat < 6 := fun k h1 h2 => ⟨⟨h1, h2⟩, by omega⟩
          refine br ?_ ?_
          · intro hp
            rw [dateT, if_pos hp]
            simp only [ZZ, YY, Ze, ite_true, ite_false, forall_const, reduceCtorEq, Nat.reduceAdd, Nat.reduceMul, Nat.reduceLeDiff, Nat.reduceLT, Nat.reduceEqDiff]
          · intro hp
            rw [dateT, if_neg (by rw [hp]; simp)]
            clear hpr hp b1 b2 b3
            have n0 := nmF_bd dayL (trimSufL a [44]) (by decide)
            have n2 := nmF_bd monL c (by decide)
            have n3 := fxF_bd d (d := 4) 9999 (by decide)
            have n4 := fxF_bd (e.take 2) (d := 2) 23 (by decide)
            have n5 := fxF_bd (e.drop 3) (d := 2) 59 (by decide)
            have n6 := fxF_bd ((f.take 3).drop 1) (d := 2) 14 (by decide)
            have n7 := fxF_bd (f.drop 3) (d := 2) 59 (by decide)
            have hml : (monL.length : Int) = 12 := rfl
            have hdl : (dayL.length : Int) = 7 := rfl
            have k0 := weekdays_ok (E := E5) (trimSufL a [44]) (by have := trimSufL_len a [44]; omega)
            have k1 := Natural_ok' b 2 (by omega)
            have k2 := months_ok (E := E5) c (by omega)
            have k3 := fixed_ok' (E := E5) d 4 9999 (by decide) (by omega)
            have k4 := fixed_ok' (E := E5) (e.take 2) 2 23 (by decide) (by rw [List.length_take]; omega)
            have k5 := fixed_ok' (E := E5) (e.drop 3) 2 59 (by decide) (by rw [List.length_drop]; omega)
            have k6 := fixed_ok' (E := E5) ((f.take 3).drop 1) 2 14 (by decide) (by rw [List.length_drop, List.length_take]; omega)
            have k7 := fixed_ok' (E := E5) (f.drop 3) 2 59 (by decide) (by rw [List.length_drop]; omega)
            generalize nmF dayL (trimSufL a [44]) = X0 at *
            generalize ntF b 2 = X1 at *
            generalize nmF monL c = X2 at *
            generalize fxF d 4 9999 = X3 at *
            generalize fxF (e.take 2) 2 23 = X4 at *
            generalize fxF (e.drop 3) 2 59 = X5 at *
            generalize fxF ((f.take 3).drop 1) 2 14 = X6 at *
            generalize fxF (f.drop 3) 2 59 = X7 at *
            simp only [ZZ, YY, Ze, ite_true, ite_false, forall_const, reduceCtorEq, Nat.reduceAdd, Nat.reduceMul, Nat.reduceLeDiff, Nat.reduceLT, Nat.reduceEqDiff, g0, g1, g2, g3, g4, g5, strE_len, z0, z1, z2, z3]
            ((repeat' (with_reducible apply And.intro)) <;> try ((first | first | assumption | trivial | exact (fun hq => by rw [hq]; rfl) | exact i64_of (by omega) (by omega) | omega | (simp; done) | (simp; omega) | (intro hsc; have hs0 := hsc; (try have hsd := of_decide_eq_true hsc); (try simp only [Bool.not_eq_true', Bool.or_eq_false_iff, Bool.and_eq_true, Bool.or_eq_true, decide_eq_true_eq, decide_eq_false_iff_not] at hsc); (repeat' (with_reducible apply And.intro)) <;> (first | assumption | trivial | exact (fun hq => by rw [hq]; rfl) | exact i64_of (by omega) (by omega) | omega | (simp; done) | (simp; omega) | (intro hse; simp [hse, hs0]; done) | (intro hse; simp only [hse, hs0, Bool.true_and, Bool.and_true, Bool.not_false, Bool.not_true, Bool.and_self]; done))))))
            refine use1 (TrimSuffix_ok a [44] (by omega) (by decide)) rfl (.inl rfl) ?_
            simp only [ZZ, YY, Ze, ite_true, ite_false, forall_const, reduceCtorEq, Nat.reduceAdd, Nat.reduceMul, Nat.reduceLeDiff, Nat.reduceLT, Nat.reduceEqDiff]
            refine use1 k0 rfl (.inl rfl) ?_
            simp only [ZZ, YY, Ze, ite_true, ite_false, forall_const, reduceCtorEq, Nat.reduceAdd, Nat.reduceMul, Nat.reduceLeDiff, Nat.reduceLT, Nat.reduceEqDiff, g0, g1, g2, g3, g4, g5, strE_len, z0, z1, z2, z3]
            ((repeat' (with_reducible apply And.intro)) <;> try ((first | first | assumption | trivial | exact (fun hq => by rw [hq]; rfl) | exact i64_of (by omega) (by omega) | omega | (simp; done) | (simp; omega) | (intro hsc; have hs0 := hsc; (try have hsd := of_decide_eq_true hsc); (try simp only [Bool.not_eq_true', Bool.or_eq_false_iff, Bool.and_eq_true, Bool.or_eq_true, decide_eq_true_eq, decide_eq_false_iff_not] at hsc); (repeat' (with_reducible apply And.intro)) <;> (first | assumption | trivial | exact (fun hq => by rw [hq]; rfl) | exact i64_of (by omega) (by omega) | omega | (simp; done) | (simp; omega) | (intro hse; simp [hse, hs0]; done) | (intro hse; simp only [hse, hs0, Bool.true_and, Bool.and_true, Bool.not_false, Bool.not_true, Bool.and_self]; done))))))
            refine use1 k1 rfl (.inl rfl) ?_
            simp only [ZZ, YY, Ze, ite_true, ite_false, forall_const, reduceCtorEq, Nat.reduceAdd, Nat.reduceMul, Nat.reduceLeDiff, Nat.reduceLT, Nat.reduceEqDiff, g0, g1, g2, g3, g4, g5, strE_len, z0, z1, z2, z3]
            ((repeat' (with_reducible apply And.intro)) <;> try ((first | first | assumption | trivial | exact (fun hq => by rw [hq]; rfl) | exact i64_of (by omega) (by omega) | omega | (simp; done) | (simp; omega) | (intro hsc; have hs0 := hsc; (try have hsd := of_decide_eq_true hsc); (try simp only [Bool.not_eq_true', Bool.or_eq_false_iff, Bool.and_eq_true, Bool.or_eq_true, decide_eq_true_eq, decide_eq_false_iff_not] at hsc); (repeat' (with_reducible apply And.intro)) <;> (first | assumption | trivial | exact (fun hq => by rw [hq]; rfl) | exact i64_of (by omega) (by omega) | omega | (simp; done) | (simp; omega) | (intro hse; simp [hse, hs0]; done) | (intro hse; simp only [hse, hs0, Bool.true_and, Bool.and_true, Bool.not_false, Bool.not_true, Bool.and_self]; done))))))
            refine use1 k2 rfl (.inl rfl) ?_
            simp only [ZZ, YY, Ze, ite_true, ite_false, forall_const, reduceCtorEq, Nat.reduceAdd, Nat.reduceMul, Nat.reduceLeDiff, Nat.reduceLT, Nat.reduceEqDiff, g0, g1, g2, g3, g4, g5, strE_len, z0, z1, z2, z3]
            ((repeat' (with_reducible apply And.intro)) <;> try ((first | first | assumption | trivial | exact (fun hq => by rw [hq]; rfl) | exact i64_of (by omega) (by omega) | omega | (simp; done) | (simp; omega) | (intro hsc; have hs0 := hsc; (try have hsd := of_decide_eq_true hsc); (try simp only [Bool.not_eq_true', Bool.or_eq_false_iff, Bool.and_eq_true, Bool.or_eq_true, decide_eq_true_eq, decide_eq_false_iff_not] at hsc); (repeat' (with_reducible apply And.intro)) <;> (first | assumption | trivial | exact (fun hq => by rw [hq]; rfl) | exact i64_of (by omega) (by omega) | omega | (simp; done) | (simp; omega) | (intro hse; simp [hse, hs0]; done) | (intro hse; simp only [hse, hs0, Bool.true_and, Bool.and_true, Bool.not_false, Bool.not_true, Bool.and_self]; done))))))
            refine use1 k3 rfl (.inl rfl) ?_
            simp only [ZZ, YY, Ze, ite_true, ite_false, forall_const, reduceCtorEq, Nat.reduceAdd, Nat.reduceMul, Nat.reduceLeDiff, Nat.reduceLT, Nat.reduceEqDiff, g0, g1, g2, g3, g4, g5, strE_len, z0, z1, z2, z3]
            ((repeat' (with_reducible apply And.intro)) <;> try ((first | first | assumption | trivial | exact (fun hq => by rw [hq]; rfl) | exact i64_of (by omega) (by omega) | omega | (simp; done) | (simp; omega) | (intro hsc; have hs0 := hsc; (try have hsd := of_decide_eq_true hsc); (try simp only [Bool.not_eq_true', Bool.or_eq_false_iff, Bool.and_eq_true, Bool.or_eq_true, decide_eq_true_eq, decide_eq_false_iff_not] at hsc); (repeat' (with_reducible apply And.intro)) <;> (first | assumption | trivial | exact (fun hq => by rw [hq]; rfl) | exact i64_of (by omega) (by omega) | omega | (simp; done) | (simp; omega) | (intro hse; simp [hse, hs0]; done) | (intro hse; simp only [hse, hs0, Bool.true_and, Bool.and_true, Bool.not_false, Bool.not_true, Bool.and_self]; done))))))
            refine use1 k4 rfl (.inl rfl) ?_
            simp only [ZZ, YY, Ze, ite_true, ite_false, forall_const, reduceCtorEq, Nat.reduceAdd, Nat.reduceMul, Nat.reduceLeDiff, Nat.reduceLT, Nat.reduceEqDiff, g0, g1, g2, g3, g4, g5, strE_len, z0, z1, z2, z3, List.take_length]
            ((repeat' (with_reducible apply And.intro)) <;> try ((first | first | assumption | trivial | exact (fun hq => by rw [hq]; rfl) | exact i64_of (by omega) (by omega) | omega | (simp; done) | (simp; omega) | (intro hsc; have hs0 := hsc; (try have hsd := of_decide_eq_true hsc); (try simp only [Bool.not_eq_true', Bool.or_eq_false_iff, Bool.and_eq_true, Bool.or_eq_true, decide_eq_true_eq, decide_eq_false_iff_not] at hsc); (repeat' (with_reducible apply And.intro)) <;> (first | assumption | trivial | exact (fun hq => by rw [hq]; rfl) | exact i64_of (by omega) (by omega) | omega | (simp; done) | (simp; omega) | (intro hse; simp [hse, hs0]; done) | (intro hse; simp only [hse, hs0, Bool.true_and, Bool.and_true, Bool.not_false, Bool.not_true, Bool.and_self]; done))))))
            refine use1 k5 rfl (.inl rfl) ?_
            simp only [ZZ, YY, Ze, ite_true, ite_false, forall_const, reduceCtorEq, Nat.reduceAdd, Nat.reduceMul, Nat.reduceLeDiff, Nat.reduceLT, Nat.reduceEqDiff, g0, g1, g2, g3, g4, g5, strE_len, z0, z1, z2, z3, List.take_length]
            ((repeat' (with_reducible apply And.intro)) <;> try ((first | first | assumption | trivial | exact (fun hq => by rw [hq]; rfl) | exact i64_of (by omega) (by omega) | omega | (simp; done) | (simp; omega) | (intro hsc; have hs0 := hsc; (try have hsd := of_decide_eq_true hsc); (try simp only [Bool.not_eq_true', Bool.or_eq_false_iff, Bool.and_eq_true, Bool.or_eq_true, decide_eq_true_eq, decide_eq_false_iff_not] at hsc); (repeat' (with_reducible apply And.intro)) <;> (first | assumption | trivial | exact (fun hq => by rw [hq]; rfl) | exact i64_of (by omega) (by omega) | omega | (simp; done) | (simp; omega) | (intro hse; simp [hse, hs0]; done) | (intro hse; simp only [hse, hs0, Bool.true_and, Bool.and_true, Bool.not_false, Bool.not_true, Bool.and_self]; done))))))
            refine use1 k6 rfl (.inl rfl) ?_
            simp only [ZZ, YY, Ze, ite_true, ite_false, forall_const, reduceCtorEq, Nat.reduceAdd, Nat.reduceMul, Nat.reduceLeDiff, Nat.reduceLT, Nat.reduceEqDiff, g0, g1, g2, g3, g4, g5, strE_len, z0, z1, z2, z3, List.take_length]
            ((repeat' (with_reducible apply And.intro)) <;> try ((first | first | assumption | trivial | exact (fun hq => by rw [hq]; rfl) | exact i64_of (by omega) (by omega) | omega | (simp; done) | (simp; omega) | (intro hsc; have hs0 := hsc; (try have hsd := of_decide_eq_true hsc); (try simp only [Bool.not_eq_true', Bool.or_eq_false_iff, Bool.and_eq_true, Bool.or_eq_true, decide_eq_true_eq, decide_eq_false_iff_not] at hsc); (repeat' (with_reducible apply And.intro)) <;> (first | assumption | trivial | exact (fun hq => by rw [hq]; rfl) | exact i64_of (by omega) (by omega) | omega | (simp; done) | (simp; omega) | (intro hse; simp [hse, hs0]; done) | (intro hse; simp only [hse, hs0, Bool.true_and, Bool.and_true, Bool.not_false, Bool.not_true, Bool.and_self]; done))))))
            refine use1 k7 rfl (.inl rfl) ?_
            simp only [ZZ, YY, Ze, ite_true, ite_false, forall_const, reduceCtorEq, Nat.reduceAdd, Nat.reduceMul, Nat.reduceLeDiff, Nat.reduceLT, Nat.reduceEqDiff, g0, g1, g2, g3, g4, g5, strE_len, z0, z1, z2, z3, List.take_length]
            ((repeat' (with_reducible apply And.intro)) <;> try ((first | first | assumption | trivial | exact (fun hq => by rw [hq]; rfl) | exact i64_of (by omega) (by omega) | omega | (simp; done) | (simp; omega) | (intro hsc; have hs0 := hsc; (try have hsd := of_decide_eq_true hsc); (try simp only [Bool.not_eq_true', Bool.or_eq_false_iff, Bool.and_eq_true, Bool.or_eq_true, decide_eq_true_eq, decide_eq_false_iff_not] at hsc); (repeat' (with_reducible apply And.intro)) <;> (first | assumption | trivial | exact (fun hq => by rw [hq]; rfl) | exact i64_of (by omega) (by omega) | omega | (simp; done) | (simp; omega) | (intro hse; simp [hse, hs0]; done) | (intro hse; simp only [hse, hs0, Bool.true_and, Bool.and_true, Bool.not_false, Bool.not_true, Bool.and_self]; done))))))
            refine use1 (HasSuffix_ok a [44] (by omega)) rfl (.inl rfl) ?_
            clear k0 k1 k2 k3 k4 k5 k6 k7
            generalize sufE a [44] = sf
            generalize b4 : decide (((a.length : Nat) : Int) = 4) = ba
            simp only [ZZ, YY, Ze, ite_true, ite_false, forall_const, reduceCtorEq, Nat.reduceAdd, Nat.reduceMul, Nat.reduceLeDiff, Nat.reduceLT, Nat.reduceEqDiff, g0', b4, g0, g1, g2, g3, g4, g5, strE_len, z0, z1, z2, z3]
            refine ⟨fun h => ⟨h, by decide, by decide⟩, fun h => by rw [h]; rfl, fun h => ⟨h, fun h2 => by rw [h, h2]; rfl⟩, fun h => ⟨h, fun h2 => by rw [h, h2]; rfl⟩, fun h => ⟨h, fun h2 => by rw [h, h2]; rfl⟩, fun h => ⟨h, fun h2 => by rw [h, h2]; rfl⟩, fun h => ⟨h, fun h2 => by rw [h, h2]; rfl⟩, fun h => ⟨h, fun h2 => by rw [h, h2]; rfl⟩, fun h => ⟨h, fun h2 => by rw [h, h2]; rfl⟩, fun h => by rw [h]; rfl, ?_⟩
            unfold dT3
            rw [b4]
            refine br ?_ ?_
            · intro h
              rw [if_pos h]
              simp only [ZZ, YY, Ze, ite_true, ite_false, forall_const, reduceCtorEq, Nat.reduceAdd, Nat.reduceMul, Nat.reduceLeDiff, Nat.reduceLT, Nat.reduceEqDiff]
            intro h
            rw [if_neg (by rw [h]; simp)]
            simp only [Bool.or_eq_false_iff, Bool.not_eq_false', Bool.and_eq_true] at h
            obtain ⟨_, ⟨⟨⟨⟨⟨⟨v0, v1⟩, v2⟩, v3⟩, v4⟩, v5⟩, v6⟩, v7⟩ := h
            have m3 := n3.2.2 v3
            have m4 := n4.2.2 v4
            have m5 := n5.2.2 v5
            have m6 := n6.2.2 v6
            have m7 := n7.2.2 v7
            have hD := days_ok (E := E5) X3.1 (X2.1 + 1) X1.1 (by omega) (by omega) (by omega) (by omega)
            have hbd := fun hd => daysN_bd (y := X3.1) (m := X2.1 + 1) (d := X1.1) (by omega) (by omega) (by omega) (by omega) hd
            have hmb := mlen_b X3.1 (X2.1 + 1)
            simp only [ZZ, YY, Ze, ite_true, ite_false, forall_const, reduceCtorEq, Nat.reduceAdd, Nat.reduceMul, Nat.reduceLeDiff, Nat.reduceLT, Nat.reduceEqDiff]
            ((repeat' (with_reducible apply And.intro)) <;> try ((first | first | assumption | trivial | exact (fun hq => by rw [hq]; rfl) | exact i64_of (by omega) (by omega) | omega | (simp; done) | (simp; omega) | (intro hsc; have hs0 := hsc; (try have hsd := of_decide_eq_true hsc); (try simp only [Bool.not_eq_true', Bool.or_eq_false_iff, Bool.and_eq_true, Bool.or_eq_true, decide_eq_true_eq, decide_eq_false_iff_not] at hsc); (repeat' (with_reducible apply And.intro)) <;> (first | assumption | trivial | exact (fun hq => by rw [hq]; rfl) | exact i64_of (by omega) (by omega) | omega | (simp; done) | (simp; omega) | (intro hse; simp [hse, hs0]; done) | (intro hse; simp only [hse, hs0, Bool.true_and, Bool.and_true, Bool.not_false, Bool.not_true, Bool.and_self]; done))))))
            by_cases hin : inE X1.1 1 (mlen X3.1 (X2.1 + 1)) = true
            rotate_left
            · rw [if_neg hin] at hD
              rw [if_neg (fun h => hin h.1)]
              refine use1 hD rfl (.inl rfl) ?_
              simp only [ZZ, YY, Ze, ite_true, ite_false, forall_const, reduceCtorEq, Nat.reduceAdd, Nat.reduceMul, Nat.reduceLeDiff, Nat.reduceLT, Nat.reduceEqDiff]
              refine useG (r := int 0) (fun h => by cases h) rfl (.inl rfl) ?_
              simp only [ZZ, YY, Ze, ite_true, ite_false, forall_const, reduceCtorEq, Nat.reduceAdd, Nat.reduceMul, Nat.reduceLeDiff, Nat.reduceLT, Nat.reduceEqDiff, false_implies]
              done
            · rw [if_pos hin] at hD
              have hbd := hbd (by simp only [inE, Bool.and_eq_true, decide_eq_true_eq] at hin; omega)
              generalize daysN X3.1 (X2.1 + 1) X1.1 = n at *
              refine use1 hD rfl (.inl rfl) ?_
              simp only [ZZ, YY, Ze, ite_true, ite_false, forall_const, reduceCtorEq, Nat.reduceAdd, Nat.reduceMul, Nat.reduceLeDiff, Nat.reduceLT, Nat.reduceEqDiff]
              refine useG (fun _ => Floor_ok n (by omega)) rfl (.inl rfl) ?_
              simp only [ZZ, YY, Ze, ite_true, ite_false, forall_const, reduceCtorEq, Nat.reduceAdd, Nat.reduceMul, Nat.reduceLeDiff, Nat.reduceLT, Nat.reduceEqDiff]
              ((repeat' (with_reducible apply And.intro)) <;> try ((first | first | assumption | trivial | exact (fun hq => by rw [hq]; rfl) | exact i64_of (by omega) (by omega) | omega | (simp; done) | (simp; omega) | (intro hsc; have hs0 := hsc; (try have hsd := of_decide_eq_true hsc); (try simp only [Bool.not_eq_true', Bool.or_eq_false_iff, Bool.and_eq_true, Bool.or_eq_true, decide_eq_true_eq, decide_eq_false_iff_not] at hsc); (repeat' (with_reducible apply And.intro)) <;> (first | assumption | trivial | exact (fun hq => by rw [hq]; rfl) | exact i64_of (by omega) (by omega) | omega | (simp; done) | (simp; omega) | (intro hse; simp [hse, hs0]; done) | (intro hse; simp only [hse, hs0, Bool.true_and, Bool.and_true, Bool.not_false, Bool.not_true, Bool.and_self]; done))))))
              refine br ?_ ?_
              · intro hw
                have hw : ¬ n - 7 * (n / 7) = X0.1 := by simpa using hw
                rw [if_neg (fun h => hw h.2)]
                simp only [ZZ, YY, Ze, ite_true, ite_false, forall_const, reduceCtorEq, Nat.reduceAdd, Nat.reduceMul, Nat.reduceLeDiff, Nat.reduceLT, Nat.reduceEqDiff]
              · intro hw
                have hw : n - 7 * (n / 7) = X0.1 := by simpa using hw
                rw [if_pos ⟨hin, hw⟩]
                simp only [ZZ, YY, Ze, ite_true, ite_false, forall_const, reduceCtorEq, Nat.reduceAdd, Nat.reduceMul, Nat.reduceLeDiff, Nat.reduceLT, Nat.reduceEqDiff, g5, g5', strE_len, z0]
                ((repeat' (with_reducible apply And.intro)) <;> try ((first | first | assumption | trivial | exact (fun hq => by rw [hq]; rfl) | exact i64_of (by omega) (by omega) | omega | (simp; done) | (simp; omega) | (intro hsc; have hs0 := hsc; (try have hsd := of_decide_eq_true hsc); (try simp only [Bool.not_eq_true', Bool.or_eq_false_iff, Bool.and_eq_true, Bool.or_eq_true, decide_eq_true_eq, decide_eq_false_iff_not] at hsc); (repeat' (with_reducible apply And.intro)) <;> (first | assumption | trivial | exact (fun hq => by rw [hq]; rfl) | exact i64_of (by omega) (by omega) | omega | (simp; done) | (simp; omega) | (intro hse; simp [hse, hs0]; done) | (intro hse; simp only [hse, hs0, Bool.true_and, Bool.and_true, Bool.not_false, Bool.not_true, Bool.and_self]; done))))))
                refine br ?_ ?_
                · intro hsg
                  have hsg := of_decide_eq_true hsg
                  rw [if_pos hsg]
                  simp only [ZZ, YY, Ze, ite_true, ite_false, forall_const, reduceCtorEq, Nat.reduceAdd, Nat.reduceMul, Nat.reduceLeDiff, Nat.reduceLT, Nat.reduceEqDiff]
                  refine ⟨i64_of (by omega) (by omega), ?_⟩
                  refine cut_re _ _ ReOk.refl ?_
                  simp only [ZZ, YY, Ze, ite_true, ite_false, forall_const, reduceCtorEq, Nat.reduceAdd, Nat.reduceMul, Nat.reduceLeDiff, Nat.reduceLT, Nat.reduceEqDiff]
                  ((repeat' (with_reducible apply And.intro)) <;> try ((first | first | assumption | trivial | exact (fun hq => by rw [hq]; rfl) | exact i64_of (by omega) (by omega) | omega | (simp; done) | (simp; omega) | (intro hsc; have hs0 := hsc; (try have hsd := of_decide_eq_true hsc); (try simp only [Bool.not_eq_true', Bool.or_eq_false_iff, Bool.and_eq_true, Bool.or_eq_true, decide_eq_true_eq, decide_eq_false_iff_not] at hsc); (repeat' (with_reducible apply And.intro)) <;> (first | assumption | trivial | exact (fun hq => by rw [hq]; rfl) | exact i64_of (by omega) (by omega) | omega | (simp; done) | (simp; omega) | (intro hse; simp [hse, hs0]; done) | (intro hse; simp only [hse, hs0, Bool.true_and, Bool.and_true, Bool.not_false, Bool.not_true, Bool.and_self]; done))))))
                  done
                · intro hsg
                  have hsg := of_decide_eq_false hsg
                  rw [if_neg hsg]
                  simp only [ZZ, YY, Ze, ite_true, ite_false, forall_const, reduceCtorEq, Nat.reduceAdd, Nat.reduceMul, Nat.reduceLeDiff, Nat.reduceLT, Nat.reduceEqDiff]
                  refine cut_re _ _ ReOk.refl ?_
                  simp only [ZZ, YY, Ze, ite_true, ite_false, forall_const, reduceCtorEq, Nat.reduceAdd, Nat.reduceMul, Nat.reduceLeDiff, Nat.reduceLT, Nat.reduceEqDiff]
                  ((repeat' (with_reducible apply And.intro)) <;> try ((first | first | assumption | trivial | exact (fun hq => by rw [hq]; rfl) | exact i64_of (by omega) (by omega) | omega | (simp; done) | (simp; omega) | (intro hsc; have hs0 := hsc; (try have hsd := of_decide_eq_true hsc); (try simp only [Bool.not_eq_true', Bool.or_eq_false_iff, Bool.and_eq_true, Bool.or_eq_true, decide_eq_true_eq, decide_eq_false_iff_not] at hsc); (repeat' (with_reducible apply And.intro)) <;> (first | assumption | trivial | exact (fun hq => by rw [hq]; rfl) | exact i64_of (by omega) (by omega) | omega | (simp; done) | (simp; omega) | (intro hse; simp [hse, hs0]; done) | (intro hse; simp only [hse, hs0, Bool.true_and, Bool.and_true, Bool.not_false, Bool.not_true, Bool.and_self]; done))))))
                  done
theorem Date_ok (t : List UInt8) (ht : t.length ≤ 1000) : PCall Tryz.prog E5 28 [.str t] (· = if (dateT (splF t 32)).2 = false then .tup [int 0, int 9] else if inE (dateT (splF t 32)).1 0 5761439 = true then .tup [int (dateT (splF t 32)).1, int 0] else .tup [int 0, int 1]) := by
  refine pcallF mixed Tryz.func28 ck_thread_Date ?_
  simp only [a0, l0, OS.ao, List.map_cons, List.map_nil, List.length_cons, List.length_nil, List.cons_append, List.nil_append, Nat.reduceSub, Nat.reduceAdd, List.replicate_succ, List.replicate_zero, ir_thread_Date, rs_thread_Date, ZZ, YY, Ze, ite_true, ite_false, forall_const, reduceCtorEq, Nat.reduceAdd, Nat.reduceMul, Nat.reduceLeDiff, Nat.reduceLT, Nat.reduceEqDiff]
  refine use1 (date_ok t ht) rfl (.inl rfl) ?_
  generalize dateT (splF t 32) = q
  simp only [ZZ, YY, Ze, ite_true, ite_false, forall_const, reduceCtorEq, Nat.reduceAdd, Nat.reduceMul, Nat.reduceLeDiff, Nat.reduceLT, Nat.reduceEqDiff]
  refine br ?_ ?_
  · intro h
    have h : q.2 = false := by simpa using h
    simp only [ZZ, YY, Ze, ite_true, ite_false, forall_const, reduceCtorEq, Nat.reduceAdd, Nat.reduceMul, Nat.reduceLeDiff, Nat.reduceLT, Nat.reduceEqDiff]
    rw [if_pos h]
  · intro h
    have h : q.2 = true := by simpa using h
    simp only [ZZ, YY, Ze, ite_true, ite_false, forall_const, reduceCtorEq, Nat.reduceAdd, Nat.reduceMul, Nat.reduceLeDiff, Nat.reduceLT, Nat.reduceEqDiff]
    refine use1 (Moment_ok q.1) rfl (.inl rfl) ?_
    simp only [ZZ, YY, Ze, ite_true, ite_false, forall_const, reduceCtorEq, Nat.reduceAdd, Nat.reduceMul, Nat.reduceLeDiff, Nat.reduceLT, Nat.reduceEqDiff]
    rw [if_neg (by rw [h]; simp)]
    refine br ?_ ?_
    · intro h2
      have h2 : inE q.1 0 5761439 = false := by simpa using h2
      simp only [ZZ, YY, Ze, ite_true, ite_false, forall_const, reduceCtorEq, Nat.reduceAdd, Nat.reduceMul, Nat.reduceLeDiff, Nat.reduceLT, Nat.reduceEqDiff]
      rw [if_neg (by rw [h2]; simp)]
    · intro h2
      have h2 : inE q.1 0 5761439 = true := by simpa using h2
      simp only [ZZ, YY, Ze, ite_true, ite_false, forall_const, reduceCtorEq, Nat.reduceAdd, Nat.reduceMul, Nat.reduceLeDiff, Nat.reduceLT, Nat.reduceEqDiff]
      rw [if_pos h2]
end Go.Proofs.YtidmphcocnaonaaGreatDoor

/- Dates as the reference reads them. -/
namespace Go.Proofs.YtidmphcocnaonaaGreatDoor
open Go.RowKit
set_option linter.unusedVariables false
set_option linter.unusedSimpArgs false
set_option linter.defProp false

/- paperchase/chaseref1.DateOf -/
def ir_chaseref1_DateOf : IC :=
  (.seq (.reg [⟨some 2, .mov (.c (.int .i64 0)), none⟩,
      ⟨some 3, .mov (.c (.int .i64 0)), none⟩])
    (.seq (.reg [⟨some 16, .mov (.t 0), none⟩,
      ⟨some 17, .call 93 [.t 16, .c (.str [32])], none⟩,
      ⟨some 4, .mov (.t 17), none⟩])
    (.seq (.seq (.reg [⟨some 18, .mov (.t 4), none⟩,
      ⟨some 19, .len (.t 18), none⟩,
      ⟨some 20, .bin .neq (.t 19) (.c (.int .i64 6)), none⟩])
    (.cond (.t 20) (.seq (.reg [⟨some 2, .mov (.c (.int .i64 0)), none⟩,
      ⟨some 3, .mov (.c (.int .i64 9)), none⟩])
    .ret) .skip))
    (.seq (.drg [⟨some 21, .pcall 0 95 [], none⟩,
      ⟨some 22, .mov (.t 4), none⟩,
      ⟨some 23, .ixa 1 (.t 22) (.c (.int .i64 0)), none⟩,
      ⟨some 24, .ld 1 false (.t 23), none⟩,
      ⟨some 25, .pcall 1 89 [.t 24, .c (.str [44])], none⟩,
      ⟨some 26, .pcall 2 94 [.t 21, .t 25], none⟩,
      ⟨some 5, .mov (.t 26), none⟩])
    (.seq (.reg [⟨some 28, .mov (.t 4), none⟩,
      ⟨some 29, .ixa 1 (.t 28) (.c (.int .i64 1)), none⟩,
      ⟨some 30, .ld 1 false (.t 29), none⟩,
      ⟨some 31, .call 96 [.t 30, .c (.int .i64 2)], none⟩,
      ⟨some 27, .mov (.t 31), none⟩,
      ⟨some 32, .ext 0 (.t 27), none⟩,
      ⟨some 33, .ext 1 (.t 27), none⟩,
      ⟨some 6, .mov (.t 32), none⟩,
      ⟨some 7, .mov (.t 33), none⟩])
    (.seq (.drg [⟨some 34, .pcall 0 97 [], none⟩,
      ⟨some 35, .mov (.t 4), none⟩,
      ⟨some 36, .ixa 1 (.t 35) (.c (.int .i64 2)), none⟩,
      ⟨some 37, .ld 1 false (.t 36), none⟩,
      ⟨some 38, .pcall 1 94 [.t 34, .t 37], none⟩,
      ⟨some 39, .bin .add (.t 38) (.c (.int .i64 1)), none⟩,
      ⟨some 8, .mov (.t 39), none⟩])
    (.seq (.reg [⟨some 41, .mov (.t 4), none⟩,
      ⟨some 42, .ixa 1 (.t 41) (.c (.int .i64 3)), none⟩,
      ⟨some 43, .ld 1 false (.t 42), none⟩,
      ⟨some 44, .call 98 [.t 43, .c (.int .i64 4)], none⟩,
      ⟨some 40, .mov (.t 44), none⟩,
      ⟨some 45, .ext 0 (.t 40), none⟩,
      ⟨some 46, .ext 1 (.t 40), none⟩,
      ⟨some 9, .mov (.t 45), none⟩,
      ⟨some 10, .mov (.t 46), none⟩])
    (.seq (.reg [⟨some 48, .mov (.t 4), none⟩,
      ⟨some 49, .ixa 1 (.t 48) (.c (.int .i64 4)), none⟩,
      ⟨some 50, .ld 1 false (.t 49), none⟩,
      ⟨some 51, .call 99 [.t 50, .c (.str [58]), .c (.int .i64 23)], none⟩,
      ⟨some 47, .mov (.t 51), none⟩,
      ⟨some 52, .ext 0 (.t 47), none⟩,
      ⟨some 53, .ext 1 (.t 47), none⟩,
      ⟨some 11, .mov (.t 52), none⟩,
      ⟨some 12, .mov (.t 53), none⟩])
    (.seq (.seq (.reg [⟨some 54, .mov (.t 5), none⟩,
      ⟨some 55, .bin .lss (.t 54) (.c (.int .i64 0)), none⟩,
      ⟨some 56, .mov (.t 55), none⟩,
      ⟨some 57, .mov (.t 4), (some (56, false))⟩,
      ⟨some 58, .ixa 1 (.t 57) (.c (.int .i64 0)), (some (56, false))⟩,
      ⟨some 59, .ld 1 false (.t 58), (some (56, false))⟩,
      ⟨some 60, .call 100 [.t 59, .c (.str [44])], (some (56, false))⟩,
      ⟨some 61, .not (.t 60), (some (56, false))⟩,
      ⟨some 62, .pick (.t 56) (.c (.bool true)) (.t 61), none⟩,
      ⟨some 63, .mov (.t 62), none⟩,
      ⟨some 64, .mov (.t 7), (some (63, false))⟩,
      ⟨some 65, .not (.t 64), (some (63, false))⟩,
      ⟨some 66, .pick (.t 63) (.c (.bool true)) (.t 65), none⟩,
      ⟨some 67, .mov (.t 66), none⟩,
      ⟨some 68, .mov (.t 6), (some (67, false))⟩,
      ⟨some 69, .bin .lss (.t 68) (.c (.int .i64 1)), (some (67, false))⟩,
      ⟨some 70, .pick (.t 67) (.c (.bool true)) (.t 69), none⟩,
      ⟨some 71, .mov (.t 70), none⟩,
      ⟨some 72, .mov (.t 8), (some (71, false))⟩,
      ⟨some 73, .bin .lss (.t 72) (.c (.int .i64 1)), (some (71, false))⟩,
      ⟨some 74, .pick (.t 71) (.c (.bool true)) (.t 73), none⟩,
      ⟨some 75, .mov (.t 74), none⟩,
      ⟨some 76, .mov (.t 10), (some (75, false))⟩,
      ⟨some 77, .not (.t 76), (some (75, false))⟩,
      ⟨some 78, .pick (.t 75) (.c (.bool true)) (.t 77), none⟩,
      ⟨some 79, .mov (.t 78), none⟩,
      ⟨some 80, .mov (.t 12), (some (79, false))⟩,
      ⟨some 81, .not (.t 80), (some (79, false))⟩,
      ⟨some 82, .pick (.t 79) (.c (.bool true)) (.t 81), none⟩,
      ⟨some 83, .mov (.t 82), none⟩,
      ⟨some 84, .mov (.t 6), (some (83, false))⟩,
      ⟨some 85, .mov (.t 9), (some (83, false))⟩,
      ⟨some 86, .mov (.t 8), (some (83, false))⟩,
      ⟨some 87, .call 101 [.t 85, .t 86], (some (83, false))⟩,
      ⟨some 88, .bin .gtr (.t 84) (.t 87), (some (83, false))⟩,
      ⟨some 89, .pick (.t 83) (.c (.bool true)) (.t 88), none⟩,
      ⟨some 90, .mov (.t 89), none⟩,
      ⟨some 91, .mov (.t 4), (some (90, false))⟩,
      ⟨some 92, .ixa 1 (.t 91) (.c (.int .i64 5)), (some (90, false))⟩,
      ⟨some 93, .ld 1 false (.t 92), (some (90, false))⟩,
      ⟨some 94, .bin .eql (.t 93) (.c (.str [])), (some (90, false))⟩,
      ⟨some 95, .pick (.t 90) (.c (.bool true)) (.t 94), none⟩])
    (.cond (.t 95) (.seq (.reg [⟨some 2, .mov (.c (.int .i64 0)), none⟩,
      ⟨some 3, .mov (.c (.int .i64 9)), none⟩])
    .ret) .skip))
    (.seq (.reg [⟨some 97, .mov (.t 4), none⟩,
      ⟨some 98, .ixa 1 (.t 97) (.c (.int .i64 5)), none⟩,
      ⟨some 99, .ld 1 false (.t 98), none⟩,
      ⟨some 100, .ssl (.t 99) (some (.c (.int .i64 1))) none, none⟩,
      ⟨some 101, .call 99 [.t 100, .c (.str []), .c (.int .i64 14)], none⟩,
      ⟨some 96, .mov (.t 101), none⟩,
      ⟨some 102, .ext 0 (.t 96), none⟩,
      ⟨some 103, .ext 1 (.t 96), none⟩,
      ⟨some 13, .mov (.t 102), none⟩,
      ⟨some 14, .mov (.t 103), none⟩])
    (.seq (.reg [⟨some 104, .mov (.t 9), none⟩,
      ⟨some 105, .mov (.t 8), none⟩,
      ⟨some 106, .mov (.t 6), none⟩,
      ⟨some 107, .call 102 [.t 104, .t 105, .t 106], none⟩,
      ⟨some 15, .mov (.t 107), none⟩])
    (.seq (.seq (.reg [⟨some 108, .mov (.t 14), none⟩,
      ⟨some 109, .not (.t 108), none⟩,
      ⟨some 110, .mov (.t 109), none⟩,
      ⟨some 111, .mov (.t 4), (some (110, false))⟩,
      ⟨some 112, .ixa 1 (.t 111) (.c (.int .i64 5)), (some (110, false))⟩,
      ⟨some 113, .ld 1 false (.t 112), (some (110, false))⟩,
      ⟨some 114, .idx (.t 113) (.c (.int .i64 0)), (some (110, false))⟩,
      ⟨some 115, .bin .neq (.t 114) (.c (.int .u8 43)), (some (110, false))⟩,
      ⟨some 116, .mov (.t 115), (some (110, false))⟩,
      ⟨some 117, .mov (.t 4), (some (116, true))⟩,
      ⟨some 118, .ixa 1 (.t 117) (.c (.int .i64 5)), (some (116, true))⟩,
      ⟨some 119, .ld 1 false (.t 118), (some (116, true))⟩,
      ⟨some 120, .idx (.t 119) (.c (.int .i64 0)), (some (116, true))⟩,
      ⟨some 121, .bin .neq (.t 120) (.c (.int .u8 45)), (some (116, true))⟩,
      ⟨some 122, .pick (.t 116) (.t 121) (.c (.bool false)), (some (110, false))⟩,
      ⟨some 123, .pick (.t 110) (.c (.bool true)) (.t 122), none⟩,
      ⟨some 124, .mov (.t 123), none⟩,
      ⟨some 125, .mov (.t 15), (some (124, false))⟩,
      ⟨some 126, .bin .rem (.t 125) (.c (.int .i64 7)), (some (124, false))⟩,
      ⟨some 127, .bin .add (.t 126) (.c (.int .i64 7)), (some (124, false))⟩,
      ⟨some 128, .bin .rem (.t 127) (.c (.int .i64 7)), (some (124, false))⟩,
      ⟨some 129, .mov (.t 5), (some (124, false))⟩,
      ⟨some 130, .bin .neq (.t 128) (.t 129), (some (124, false))⟩,
      ⟨some 131, .pick (.t 124) (.c (.bool true)) (.t 130), none⟩])
    (.cond (.t 131) (.seq (.reg [⟨some 2, .mov (.c (.int .i64 0)), none⟩,
      ⟨some 3, .mov (.c (.int .i64 9)), none⟩])
    .ret) .skip))
    (.seq (.seq (.reg [⟨some 132, .mov (.t 4), none⟩,
      ⟨some 133, .ixa 1 (.t 132) (.c (.int .i64 5)), none⟩,
      ⟨some 134, .ld 1 false (.t 133), none⟩,
      ⟨some 135, .idx (.t 134) (.c (.int .i64 0)), none⟩,
      ⟨some 136, .bin .eql (.t 135) (.c (.int .u8 43)), none⟩])
    (.cond (.t 136) (.reg [⟨some 137, .mov (.t 13), none⟩,
      ⟨some 138, .neg (.t 137), none⟩,
      ⟨some 13, .mov (.t 138), none⟩]) .skip))
    (.cut (.seq (.seq (.reg [⟨some 139, .mov (.t 11), none⟩,
      ⟨some 140, .mov (.t 15), none⟩,
      ⟨some 141, .bin .mul (.t 140) (.c (.int .i64 1440)), none⟩,
      ⟨some 142, .mov (.t 13), none⟩,
      ⟨some 143, .bin .add (.t 141) (.t 142), none⟩,
      ⟨some 144, .bin .add (.t 139) (.t 143), none⟩,
      ⟨some 11, .mov (.t 144), none⟩])
    (.seq (.reg [⟨some 145, .mov (.t 11), none⟩,
      ⟨some 146, .call 32 [.t 145], none⟩,
      ⟨some 147, .not (.t 146), none⟩])
    (.cond (.t 147) (.seq (.reg [⟨some 2, .mov (.c (.int .i64 0)), none⟩,
      ⟨some 3, .mov (.c (.int .i64 1)), none⟩])
    .ret) .skip)))
    (.seq (.reg [⟨some 148, .mov (.t 11), none⟩,
      ⟨some 2, .mov (.t 148), none⟩,
      ⟨some 3, .mov (.c (.int .i64 0)), none⟩])
    .ret))))))))))))))))
def rs_chaseref1_DateOf : List IRes := [.t 2, .t 3]
theorem ck_chaseref1_DateOf : chkF Tryz.prog Tryz.f29 ir_chaseref1_DateOf rs_chaseref1_DateOf 149 = true := by kernel_rfl

/-- The end of the reference's reading. -/
def dR4 (n at_ zone : Int) (sg : Nat) : Int × Int := if inE (at_ + (n * 1440 + (if (sg : Int) = 43 then -zone else zone))) 0 5761439 = true then (at_ + (n * 1440 + (if (sg : Int) = 43 then -zone else zone)), 0) else (0, 1)
def dR3 (day n at_ : Int) (Z : Int × Bool) (sg : Nat) : Int × Int :=
  if ((!Z.2 || (!decide ((sg : Int) = 43) && !decide ((sg : Int) = 45))) || !decide (((n.tmod 7 + 7).tmod 7) = day)) = true then (0, 9) else dR4 n at_ Z.1 sg
def dR2 (day m : Int) (sf fe : Bool) (N Y C : Int × Bool) : Bool :=
  (((((((decide (day < 0) || !sf) || !N.2) || decide (N.1 < 1)) || decide (m < 1)) || !Y.2) || !C.2) || decide (mlen Y.1 m < N.1)) || fe
def dateR : List (List UInt8) → Int × Int
  | [a, b, c, d, e, f] => if dR2 (idxS dayL (trimSufL a [44]) 0) (idxS monL c 0 + 1) (sufE a [44]) (decide (f = [])) (atV b, numOk b 2) (dgF d 4) (ckF e [58] 23) = true then (0, 9) else dR3 (idxS dayL (trimSufL a [44]) 0) (daysN (dgF d 4).1 (idxS monL c 0 + 1) (atV b)) (ckF e [58] 23).1 (ckF (f.drop 1) [] 14) (f.getD 0 0).toNat
  | _ => (0, 9)
theorem dateR_bad {w : List (List UInt8)} (h : ¬ w.length = 6) : dateR w = (0, 9) := by
  unfold dateR
  split
  · exact absurd rfl h
  · rfl
theorem ckF_bd (s b : List UInt8) (most : Int) : 0 ≤ (ckF s b most).1 ∧ (ckF s b most).1 < 100000000000 := by
  unfold ckF
  have h1 := dgF_bd (s.take 2) (n := 2) (by decide)
  have h2 := dgF_bd (s.drop (2 + b.length)) (n := 2) (by decide)
  split
  · simp only; omega
  · exact ⟨by decide, by decide⟩
theorem idxS_rng (L : List (List UInt8)) (s : List UInt8) : -1 ≤ idxS L s 0 ∧ (idxS L s 0 < L.length ∨ idxS L s 0 = -1) := by
  rcases idxS_bd L s L.length 0 (by omega) with h | h
  · exact ⟨h.1, .inl h.2⟩
  · exact ⟨by omega, .inr h⟩
set_option maxHeartbeats 8000000 in
set_option maxRecDepth 100000 in
theorem DateOf_ok (t : List UInt8) (ht : t.length ≤ 1000) : PCall Tryz.prog E5 29 [.str t] (· = .tup [int (dateR (splF t 32)).1, int (dateR (splF t 32)).2]) := by
  refine pcallF mixed Tryz.func29 ck_chaseref1_DateOf ?_
  simp only [a0, l0, OS.ao, List.map_cons, List.map_nil, List.length_cons, List.length_nil, List.cons_append, List.nil_append, Nat.reduceSub, Nat.reduceAdd, List.replicate_succ, List.replicate_zero, ir_chaseref1_DateOf, rs_chaseref1_DateOf, ZZ, YY, Ze, ite_true, ite_false, forall_const, reduceCtorEq, Nat.reduceAdd, Nat.reduceMul, Nat.reduceLeDiff, Nat.reduceLT, Nat.reduceEqDiff]
  refine use1 (up5 (Split_ok t 32 (by omega))) rfl (.inl rfl) ?_
  have hlb := splF_mem t 32
  generalize splF t 32 = w at *
  rw [strs_eq]
  simp only [ZZ, YY, Ze, ite_true, ite_false, forall_const, reduceCtorEq, Nat.reduceAdd, Nat.reduceMul, Nat.reduceLeDiff, Nat.reduceLT, Nat.reduceEqDiff, strE_len]
  refine br ?_ ?_
  · intro h
    have h6 : ¬ w.length = 6 := by have := h; simp at this; omega
    simp only [ZZ, YY, Ze, ite_true, ite_false, forall_const, reduceCtorEq, Nat.reduceAdd, Nat.reduceMul, Nat.reduceLeDiff, Nat.reduceLT, Nat.reduceEqDiff]
    rw [dateR_bad h6]
  · intro h
    have h6 : w.length = 6 := by have := h; simp at this; omega
    obtain ⟨a, b, c, d, e, f, rfl⟩ := list6 h6
    have g0 : (strE [a, b, c, d, e, f]).getD 0 [] = [.str a] := rfl
    have g1 : (strE [a, b, c, d, e, f]).getD 1 [] = [.str b] := rfl
    have g2 : (strE [a, b, c, d, e, f]).getD 2 [] = [.str c] := rfl
    have g3 : (strE [a, b, c, d, e, f]).getD 3 [] = [.str d] := rfl
    have g4 : (strE [a, b, c, d, e, f]).getD 4 [] = [.str e] := rfl
    have g5 : (strE [a, b, c, d, e, f]).getD 5 [] = [.str f] := rfl
    have z0 : Int.toNat 0 = 0 := rfl
    have z1 : Int.toNat 1 = 1 := rfl
    have z2 : Int.toNat 2 = 2 := rfl
    have z3 : Int.toNat 3 = 3 := rfl
    have z4 : Int.toNat 4 = 4 := rfl
    have z5 : Int.toNat 5 = 5 := rfl
    have hla : a.length ≤ 1000 := Nat.le_trans (hlb a (by simp)) ht
    have hlb1 : b.length ≤ 1000 := Nat.le_trans (hlb b (by simp)) ht
    have hlc : c.length ≤ 1000 := Nat.le_trans (hlb c (by simp)) ht
    have hld : d.length ≤ 1000 := Nat.le_trans (hlb d (by simp)) ht
    have hle : e.length ≤ 1000 := Nat.le_trans (hlb e (by simp)) ht
    have hlf : f.length ≤ 1000 := Nat.le_trans (hlb f (by simp)) ht
    clear hlb h6 h
    have hts := trimSufL_len a [44]
    have i0 := idxS_rng dayL (trimSufL a [44])
    have i2 := idxS_rng monL c
    have hml : (monL.length : Int) = 12 := rfl
    have hdl : (dayL.length : Int) = 7 := rfl
    have nb := atV_bd b
    have yb := dgF_bd d (n := 4) (by decide)
    have cb := ckF_bd e [58] 23
    have hY4 : (dgF d 4).2 = true → (dgF d 4).1 ≤ 9999 := by
      intro h
      unfold dgF at h ⊢
      split
      · rename_i hf
        simp only [fxOk, Bool.and_eq_true, decide_eq_true_eq] at hf
        have hb := vfoldD_lt d hf.2
        rw [hf.1] at hb
        simp only
        omega
      · rename_i hf
        rw [if_neg hf] at h
        cases h
    have zb := ckF_bd (f.drop 1) [] 14
    have k0 := up5 (IndexS_ok dayL (trimSufL a [44]) (by decide))
    have k1 := number_ok b 2 (by omega)
    have k2 := up5 (IndexS_ok monL c (by decide))
    have k3 := digitsOf_ok d 4 (by decide) (by decide) (by omega)
    have k4 := clock_ok e [58] 23 (by omega) (by decide)
    have k5 := clock_ok (f.drop 1) [] 14 (by rw [List.length_drop]; omega) (by decide)
    simp only [ZZ, YY, Ze, ite_true, ite_false, forall_const, reduceCtorEq, Nat.reduceAdd, Nat.reduceMul, Nat.reduceLeDiff, Nat.reduceLT, Nat.reduceEqDiff]
    refine drg3 (x1 := .sl 1 (strE dayL)) (x2 := .str (trimSufL a [44])) (x3 := int (idxS dayL (trimSufL a [44]) 0)) ?_
    simp only [ZZ, YY, Ze, ite_true, ite_false, forall_const, reduceCtorEq, Nat.reduceAdd, Nat.reduceMul, Nat.reduceLeDiff, Nat.reduceLT, Nat.reduceEqDiff, strE_len, g0, g1, g2, g3, g4, g5, z0, z1, z2, z3, z4, z5]
    refine ⟨usep dayNames_ok rfl (.inl rfl), ⟨by decide, by decide⟩, usep (TrimSuffix_ok a [44] (by omega) (by decide)) rfl (.inl rfl), usep k0 rfl (.inl rfl), ⟨by decide, by decide⟩, ?_⟩
    refine use1 k1 rfl (.inl rfl) ?_
    simp only [ZZ, YY, Ze, ite_true, ite_false, forall_const, reduceCtorEq, Nat.reduceAdd, Nat.reduceMul, Nat.reduceLeDiff, Nat.reduceLT, Nat.reduceEqDiff, strE_len, g0, g1, g2, g3, g4, g5, z0, z1, z2, z3, z4, z5]
    refine drg2 (x1 := .sl 1 (strE monL)) (x2 := int (idxS monL c 0)) ?_
    simp only [ZZ, YY, Ze, ite_true, ite_false, forall_const, reduceCtorEq, Nat.reduceAdd, Nat.reduceMul, Nat.reduceLeDiff, Nat.reduceLT, Nat.reduceEqDiff, strE_len, g0, g1, g2, g3, g4, g5, z0, z1, z2, z3, z4, z5]
    refine ⟨usep monthNames_ok rfl (.inl rfl), ⟨by decide, by decide⟩, usep k2 rfl (.inl rfl), i64_of (by omega) (by omega), ⟨by decide, by decide⟩, ?_⟩
    refine use1 k3 rfl (.inl rfl) ?_
    simp only [ZZ, YY, Ze, ite_true, ite_false, forall_const, reduceCtorEq, Nat.reduceAdd, Nat.reduceMul, Nat.reduceLeDiff, Nat.reduceLT, Nat.reduceEqDiff, strE_len, g0, g1, g2, g3, g4, g5, z0, z1, z2, z3, z4, z5]
    ((repeat' (with_reducible apply And.intro)) <;> try ((first | first | assumption | trivial | exact (fun hq => by rw [hq]; rfl) | exact i64_of (by omega) (by omega) | omega | (simp; done) | (simp; omega) | (intro hsc; have hs0 := hsc; (try have hsd := of_decide_eq_true hsc); (try simp only [Bool.not_eq_true', Bool.or_eq_false_iff, Bool.and_eq_true, Bool.or_eq_true, decide_eq_true_eq, decide_eq_false_iff_not] at hsc); (repeat' (with_reducible apply And.intro)) <;> (first | assumption | trivial | exact (fun hq => by rw [hq]; rfl) | exact i64_of (by omega) (by omega) | omega | (simp; done) | (simp; omega) | (intro hse; simp [hse, hs0]; done) | (intro hse; simp only [hse, hs0, Bool.true_and, Bool.and_true, Bool.not_false, Bool.not_true, Bool.and_self]; done))))))
    refine use1 k4 rfl (.inl rfl) ?_
    rw [dateR]
    clear k0 k1 k2 k3 k4
    generalize idxS dayL (trimSufL a [44]) 0 = day at *
    generalize idxS monL c 0 = mi at *
    generalize atV b = nv at *
    generalize numOk b 2 = nk at *
    generalize dgF d 4 = Y at *
    generalize ckF e [58] 23 = C at *
    generalize ckF (f.drop 1) [] 14 = Z at *
    simp only [ZZ, YY, Ze, ite_true, ite_false, forall_const, reduceCtorEq, Nat.reduceAdd, Nat.reduceMul, Nat.reduceLeDiff, Nat.reduceLT, Nat.reduceEqDiff, strE_len, g0, g1, g2, g3, g4, g5, z0, z1, z2, z3, z4, z5]
    refine ⟨fun h => ⟨h, by decide, by decide⟩, ?_⟩
    refine useG (fun _ => HasSuffix_ok a [44] (by omega)) rfl (.inl rfl) ?_
    generalize sufE a [44] = sf at *
    simp only [ZZ, YY, Ze, ite_true, ite_false, forall_const, reduceCtorEq, Nat.reduceAdd, Nat.reduceMul, Nat.reduceLeDiff, Nat.reduceLT, Nat.reduceEqDiff, strE_len, g0, g1, g2, g3, g4, g5, z0, z1, z2, z3, z4, z5]
    refine ⟨fun h => by rw [h]; rfl, fun h => by rw [h]; rfl, fun h => by rw [h]; rfl, fun h => by rw [h]; rfl, fun h => by rw [h]; rfl, fun h => by rw [h]; rfl, ?_⟩
    refine useG (fun hg => mlenR_ok Y.1 (mi + 1) (by simp only [Bool.not_eq_true', Bool.or_eq_false_iff, decide_eq_false_iff_not] at hg; omega) (by omega)) rfl (.inl rfl) ?_
    simp only [ZZ, YY, Ze, ite_true, ite_false, forall_const, reduceCtorEq, Nat.reduceAdd, Nat.reduceMul, Nat.reduceLeDiff, Nat.reduceLT, Nat.reduceEqDiff, strE_len, g0, g1, g2, g3, g4, g5, z0, z1, z2, z3, z4, z5]
    refine ⟨fun h => by rw [h]; rfl, fun h => ⟨h, by decide, by decide⟩, fun h => by rw [h]; rfl, ?_⟩
    refine br ?_ ?_
    · intro h
      rw [if_pos (show dR2 day (mi + 1) sf (decide (f = [])) (nv, nk) Y C = true from h)]
      simp only [ZZ, YY, Ze, ite_true, ite_false, forall_const, reduceCtorEq, Nat.reduceAdd, Nat.reduceMul, Nat.reduceLeDiff, Nat.reduceLT, Nat.reduceEqDiff]
    · intro h
      rw [if_neg (by rw [show dR2 day (mi + 1) sf (decide (f = [])) (nv, nk) Y C = false from h]; simp)]
      simp only [Bool.or_eq_false_iff, Bool.not_eq_false', decide_eq_false_iff_not] at h
      obtain ⟨⟨⟨⟨⟨⟨⟨⟨h1, h2⟩, h3⟩, h4⟩, h5⟩, h6⟩, h7⟩, h8⟩, h9⟩ := h
      have hfl : 1 ≤ f.length := by have := List.length_pos_iff.2 h9; omega
      have hmb := mlen_b Y.1 (mi + 1)
      have hY : Y.1 ≤ 9999 := hY4 h6
      have hbd := daysN_bd (y := Y.1) (m := mi + 1) (d := nv) (by omega) (by omega) (by omega) (by omega) (by omega)
      have hD := dayNumber_ok (E := E5) Y.1 (mi + 1) nv (by omega) (by omega) (by omega) (by omega) (by omega)
      generalize daysN Y.1 (mi + 1) nv = n at *
      simp only [ZZ, YY, Ze, ite_true, ite_false, forall_const, reduceCtorEq, Nat.reduceAdd, Nat.reduceMul, Nat.reduceLeDiff, Nat.reduceLT, Nat.reduceEqDiff, strE_len, g0, g1, g2, g3, g4, g5, z0, z1, z2, z3, z4, z5, List.take_length]
      ((repeat' (with_reducible apply And.intro)) <;> try ((first | first | assumption | trivial | exact (fun hq => by rw [hq]; rfl) | exact i64_of (by omega) (by omega) | omega | (simp; done) | (simp; omega) | (intro hsc; have hs0 := hsc; (try have hsd := of_decide_eq_true hsc); (try simp only [Bool.not_eq_true', Bool.or_eq_false_iff, Bool.and_eq_true, Bool.or_eq_true, decide_eq_true_eq, decide_eq_false_iff_not] at hsc); (repeat' (with_reducible apply And.intro)) <;> (first | assumption | trivial | exact (fun hq => by rw [hq]; rfl) | exact i64_of (by omega) (by omega) | omega | (simp; done) | (simp; omega) | (intro hse; simp [hse, hs0]; done) | (intro hse; simp only [hse, hs0, Bool.true_and, Bool.and_true, Bool.not_false, Bool.not_true, Bool.and_self]; done))))))
      refine use1 k5 rfl (.inl rfl) ?_
      simp only [ZZ, YY, Ze, ite_true, ite_false, forall_const, reduceCtorEq, Nat.reduceAdd, Nat.reduceMul, Nat.reduceLeDiff, Nat.reduceLT, Nat.reduceEqDiff]
      refine use1 hD rfl (.inl rfl) ?_
      unfold dR3 dR4
      simp only [ZZ, YY, Ze, ite_true, ite_false, forall_const, reduceCtorEq, Nat.reduceAdd, Nat.reduceMul, Nat.reduceLeDiff, Nat.reduceLT, Nat.reduceEqDiff, strE_len, g0, g1, g2, g3, g4, g5, z0, z1, z2, z3, z4, z5]
      have tm : -7 < n.tmod 7 ∧ n.tmod 7 < 7 := by
        have e2 := Int.tmod_eq_emod (a := n) (b := 7)
        rw [show (7 : Int).natAbs = 7 from rfl] at e2
        split at e2 <;> omega
      refine ⟨fun h => ⟨h, by decide, by decide⟩, fun h => ⟨h, by decide, by omega⟩, fun h => ⟨h, by decide, by decide⟩, fun h => ⟨h, by decide, by omega⟩, fun h => ⟨h, fun h2 => by rw [h, h2]; rfl⟩, fun h => by rw [h]; rfl, fun h => ⟨h, by decide⟩, fun h => ⟨h, i64_of (by omega) (by omega)⟩, fun h => ⟨h, by decide⟩, fun h => by rw [h]; rfl, ?_⟩
      refine br ?_ ?_
      · intro h
        rw [if_pos h]
        simp only [ZZ, YY, Ze, ite_true, ite_false, forall_const, reduceCtorEq, Nat.reduceAdd, Nat.reduceMul, Nat.reduceLeDiff, Nat.reduceLT, Nat.reduceEqDiff]
      · intro h
        rw [if_neg (by rw [h]; simp)]
        simp only [ZZ, YY, Ze, ite_true, ite_false, forall_const, reduceCtorEq, Nat.reduceAdd, Nat.reduceMul, Nat.reduceLeDiff, Nat.reduceLT, Nat.reduceEqDiff, strE_len, g0, g1, g2, g3, g4, g5, z0, z1, z2, z3, z4, z5]
        ((repeat' (with_reducible apply And.intro)) <;> try ((first | first | assumption | trivial | exact (fun hq => by rw [hq]; rfl) | exact i64_of (by omega) (by omega) | omega | (simp; done) | (simp; omega) | (intro hsc; have hs0 := hsc; (try have hsd := of_decide_eq_true hsc); (try simp only [Bool.not_eq_true', Bool.or_eq_false_iff, Bool.and_eq_true, Bool.or_eq_true, decide_eq_true_eq, decide_eq_false_iff_not] at hsc); (repeat' (with_reducible apply And.intro)) <;> (first | assumption | trivial | exact (fun hq => by rw [hq]; rfl) | exact i64_of (by omega) (by omega) | omega | (simp; done) | (simp; omega) | (intro hse; simp [hse, hs0]; done) | (intro hse; simp only [hse, hs0, Bool.true_and, Bool.and_true, Bool.not_false, Bool.not_true, Bool.and_self]; done))))))
        refine br ?_ ?_
        · intro hsg
          have hsg := of_decide_eq_true hsg
          rw [if_pos hsg]
          have hz : 0 - Z.1 = -Z.1 := by omega
          simp only [ZZ, YY, Ze, ite_true, ite_false, forall_const, reduceCtorEq, Nat.reduceAdd, Nat.reduceMul, Nat.reduceLeDiff, Nat.reduceLT, Nat.reduceEqDiff, hz]
          refine ⟨i64_of (by omega) (by omega), ?_⟩
          refine cut_re _ _ ReOk.refl ?_
          simp only [ZZ, YY, Ze, ite_true, ite_false, forall_const, reduceCtorEq, Nat.reduceAdd, Nat.reduceMul, Nat.reduceLeDiff, Nat.reduceLT, Nat.reduceEqDiff]
          ((repeat' (with_reducible apply And.intro)) <;> try ((first | first | assumption | trivial | exact (fun hq => by rw [hq]; rfl) | exact i64_of (by omega) (by omega) | omega | (simp; done) | (simp; omega) | (intro hsc; have hs0 := hsc; (try have hsd := of_decide_eq_true hsc); (try simp only [Bool.not_eq_true', Bool.or_eq_false_iff, Bool.and_eq_true, Bool.or_eq_true, decide_eq_true_eq, decide_eq_false_iff_not] at hsc); (repeat' (with_reducible apply And.intro)) <;> (first | assumption | trivial | exact (fun hq => by rw [hq]; rfl) | exact i64_of (by omega) (by omega) | omega | (simp; done) | (simp; omega) | (intro hse; simp [hse, hs0]; done) | (intro hse; simp only [hse, hs0, Bool.true_and, Bool.and_true, Bool.not_false, Bool.not_true, Bool.and_self]; done))))))
          refine use1 (MomentR_ok (C.1 + (n * 1440 + -Z.1))) rfl (.inl rfl) ?_
          simp only [ZZ, YY, Ze, ite_true, ite_false, forall_const, reduceCtorEq, Nat.reduceAdd, Nat.reduceMul, Nat.reduceLeDiff, Nat.reduceLT, Nat.reduceEqDiff]
          refine br ?_ ?_
          · intro h2
            have h2 : inE (C.1 + (n * 1440 + -Z.1)) 0 5761439 = false := by simpa using h2
            simp only [ZZ, YY, Ze, ite_true, ite_false, forall_const, reduceCtorEq, Nat.reduceAdd, Nat.reduceMul, Nat.reduceLeDiff, Nat.reduceLT, Nat.reduceEqDiff]
            rw [if_neg (by rw [h2]; simp)]
          · intro h2
            have h2 : inE (C.1 + (n * 1440 + -Z.1)) 0 5761439 = true := by simpa using h2
            simp only [ZZ, YY, Ze, ite_true, ite_false, forall_const, reduceCtorEq, Nat.reduceAdd, Nat.reduceMul, Nat.reduceLeDiff, Nat.reduceLT, Nat.reduceEqDiff]
            rw [if_pos h2]
        · intro hsg
          have hsg := of_decide_eq_false hsg
          rw [if_neg hsg]
          simp only [ZZ, YY, Ze, ite_true, ite_false, forall_const, reduceCtorEq, Nat.reduceAdd, Nat.reduceMul, Nat.reduceLeDiff, Nat.reduceLT, Nat.reduceEqDiff]
          refine cut_re _ _ ReOk.refl ?_
          simp only [ZZ, YY, Ze, ite_true, ite_false, forall_const, reduceCtorEq, Nat.reduceAdd, Nat.reduceMul, Nat.reduceLeDiff, Nat.reduceLT, Nat.reduceEqDiff]
          ((repeat' (with_reducible apply And.intro)) <;> try ((first | first | assumption | trivial | exact (fun hq => by rw [hq]; rfl) | exact i64_of (by omega) (by omega) | omega | (simp; done) | (simp; omega) | (intro hsc; have hs0 := hsc; (try have hsd := of_decide_eq_true hsc); (try simp only [Bool.not_eq_true', Bool.or_eq_false_iff, Bool.and_eq_true, Bool.or_eq_true, decide_eq_true_eq, decide_eq_false_iff_not] at hsc); (repeat' (with_reducible apply And.intro)) <;> (first | assumption | trivial | exact (fun hq => by rw [hq]; rfl) | exact i64_of (by omega) (by omega) | omega | (simp; done) | (simp; omega) | (intro hse; simp [hse, hs0]; done) | (intro hse; simp only [hse, hs0, Bool.true_and, Bool.and_true, Bool.not_false, Bool.not_true, Bool.and_self]; done))))))
          refine use1 (MomentR_ok (C.1 + (n * 1440 + Z.1))) rfl (.inl rfl) ?_
          simp only [ZZ, YY, Ze, ite_true, ite_false, forall_const, reduceCtorEq, Nat.reduceAdd, Nat.reduceMul, Nat.reduceLeDiff, Nat.reduceLT, Nat.reduceEqDiff]
          refine br ?_ ?_
          · intro h2
            have h2 : inE (C.1 + (n * 1440 + Z.1)) 0 5761439 = false := by simpa using h2
            simp only [ZZ, YY, Ze, ite_true, ite_false, forall_const, reduceCtorEq, Nat.reduceAdd, Nat.reduceMul, Nat.reduceLeDiff, Nat.reduceLT, Nat.reduceEqDiff]
            rw [if_neg (by rw [h2]; simp)]
          · intro h2
            have h2 : inE (C.1 + (n * 1440 + Z.1)) 0 5761439 = true := by simpa using h2
            simp only [ZZ, YY, Ze, ite_true, ite_false, forall_const, reduceCtorEq, Nat.reduceAdd, Nat.reduceMul, Nat.reduceLeDiff, Nat.reduceLT, Nat.reduceEqDiff]
            rw [if_pos h2]
end Go.Proofs.YtidmphcocnaonaaGreatDoor

/- Moments written as dates, on both sides. -/
namespace Go.Proofs.YtidmphcocnaonaaGreatDoor
open Go.RowKit
set_option linter.unusedVariables false
set_option linter.unusedSimpArgs false
set_option linter.defProp false

/- paperchase/thread.shown -/
def ir_thread_shown_L1 : IC :=
  (.seq (.seq (.reg [⟨some 26, .mov (.t 5), none⟩,
      ⟨some 27, .bin .lss (.t 26) (.c (.int .i64 12)), none⟩])
    (.cond (.t 27) .skip (.exit 2)))
    (.block 3 (.seq (.reg [⟨some 29, .mov (.t 4), none⟩,
      ⟨some 30, .mov (.t 5), none⟩,
      ⟨some 31, .bin .add (.t 30) (.c (.int .i64 1)), none⟩,
      ⟨some 32, .call 173 [.t 29, .t 31, .c (.int .i64 1)], none⟩,
      ⟨some 28, .mov (.t 32), none⟩,
      ⟨some 33, .ext 0 (.t 28), none⟩,
      ⟨some 34, .ext 1 (.t 28), none⟩,
      ⟨some 8, .mov (.t 33), none⟩,
      ⟨some 9, .mov (.t 34), none⟩])
    (.seq (.seq (.reg [⟨some 35, .mov (.t 8), none⟩,
      ⟨some 36, .mov (.t 3), none⟩,
      ⟨some 37, .bin .gtr (.t 35) (.t 36), none⟩])
    (.cond (.t 37) (.exit 2) .skip))
    (.reg [⟨some 38, .mov (.t 5), none⟩,
      ⟨some 39, .bin .add (.t 38) (.c (.int .i64 1)), none⟩,
      ⟨some 5, .mov (.t 39), none⟩])))))
def ir_thread_shown_L0 : IC :=
  (.block 1 (.seq (.reg [⟨some 16, .mov (.t 4), none⟩,
      ⟨some 17, .bin .add (.t 16) (.c (.int .i64 1)), none⟩,
      ⟨some 18, .call 173 [.t 17, .c (.int .i64 1), .c (.int .i64 1)], none⟩,
      ⟨some 15, .mov (.t 18), none⟩,
      ⟨some 19, .ext 0 (.t 15), none⟩,
      ⟨some 20, .ext 1 (.t 15), none⟩,
      ⟨some 6, .mov (.t 19), none⟩,
      ⟨some 7, .mov (.t 20), none⟩])
    (.seq (.seq (.reg [⟨some 21, .mov (.t 6), none⟩,
      ⟨some 22, .mov (.t 3), none⟩,
      ⟨some 23, .bin .gtr (.t 21) (.t 22), none⟩])
    (.cond (.t 23) (.exit 0) .skip))
    (.reg [⟨some 24, .mov (.t 4), none⟩,
      ⟨some 25, .bin .add (.t 24) (.c (.int .i64 1)), none⟩,
      ⟨some 4, .mov (.t 25), none⟩]))))
def ir_thread_shown : IC :=
  (.seq (.reg [⟨some 2, .mov (.c (.str [])), none⟩])
    (.seq (.reg [⟨some 13, .mov (.t 0), none⟩,
      ⟨some 14, .bin .quo (.t 13) (.c (.int .i64 1440)), none⟩,
      ⟨some 3, .mov (.t 14), none⟩])
    (.seq (.reg [⟨some 4, .mov (.c (.int .i64 2024)), none⟩,
      ⟨some 5, .mov (.c (.int .i64 1)), none⟩])
    (.seq (.block 0 (.loop ir_thread_shown_L0))
    (.seq (.block 2 (.loop ir_thread_shown_L1))
    (.cut (.seq (.reg [⟨some 41, .mov (.t 4), none⟩,
      ⟨some 42, .mov (.t 5), none⟩,
      ⟨some 43, .call 173 [.t 41, .t 42, .c (.int .i64 1)], none⟩,
      ⟨some 40, .mov (.t 43), none⟩,
      ⟨some 44, .ext 0 (.t 40), none⟩,
      ⟨some 45, .ext 1 (.t 40), none⟩,
      ⟨some 10, .mov (.t 44), none⟩,
      ⟨some 11, .mov (.t 45), none⟩])
    (.seq (.reg [⟨some 46, .mov (.t 0), none⟩,
      ⟨some 47, .bin .rem (.t 46) (.c (.int .i64 1440)), none⟩,
      ⟨some 12, .mov (.t 47), none⟩])
    (.seq (.drg [⟨some 48, .mov (.t 3), none⟩,
      ⟨some 49, .bin .rem (.t 48) (.c (.int .i64 7)), none⟩,
      ⟨some 50, .bin .mul (.c (.int .i64 3)) (.t 49), none⟩,
      ⟨some 51, .mov (.t 3), none⟩,
      ⟨some 52, .bin .rem (.t 51) (.c (.int .i64 7)), none⟩,
      ⟨some 53, .bin .mul (.c (.int .i64 3)) (.t 52), none⟩,
      ⟨some 54, .bin .add (.t 53) (.c (.int .i64 3)), none⟩,
      ⟨some 55, .ssl (.c (.str [77, 111, 110, 84, 117, 101, 87, 101, 100, 84, 104, 117, 70, 114, 105, 83, 97, 116, 83, 117, 110])) (some (.t 50)) (some (.t 54)), none⟩,
      ⟨some 56, .bin .add (.t 55) (.c (.str [44, 32])), none⟩,
      ⟨some 57, .mov (.t 3), none⟩,
      ⟨some 58, .mov (.t 10), none⟩,
      ⟨some 59, .bin .sub (.t 57) (.t 58), none⟩,
      ⟨some 60, .bin .add (.t 59) (.c (.int .i64 1)), none⟩,
      ⟨some 61, .pcall 0 105 [.t 60], none⟩,
      ⟨some 62, .bin .add (.t 56) (.t 61), none⟩,
      ⟨some 63, .bin .add (.t 62) (.c (.str [32])), none⟩,
      ⟨some 64, .mov (.t 5), none⟩,
      ⟨some 65, .bin .mul (.c (.int .i64 3)) (.t 64), none⟩,
      ⟨some 66, .bin .sub (.t 65) (.c (.int .i64 3)), none⟩,
      ⟨some 67, .mov (.t 5), none⟩,
      ⟨some 68, .bin .mul (.c (.int .i64 3)) (.t 67), none⟩,
      ⟨some 69, .ssl (.c (.str [74, 97, 110, 70, 101, 98, 77, 97, 114, 65, 112, 114, 77, 97, 121, 74, 117, 110, 74, 117, 108, 65, 117, 103, 83, 101, 112, 79, 99, 116, 78, 111, 118, 68, 101, 99])) (some (.t 66)) (some (.t 68)), none⟩,
      ⟨some 70, .bin .add (.t 63) (.t 69), none⟩,
      ⟨some 71, .bin .add (.t 70) (.c (.str [32])), none⟩,
      ⟨some 72, .mov (.t 4), none⟩,
      ⟨some 73, .pcall 1 105 [.t 72], none⟩,
      ⟨some 74, .bin .add (.t 71) (.t 73), none⟩,
      ⟨some 75, .bin .add (.t 74) (.c (.str [32])), none⟩,
      ⟨some 76, .mov (.t 12), none⟩,
      ⟨some 77, .bin .quo (.t 76) (.c (.int .i64 60)), none⟩,
      ⟨some 78, .pcall 2 181 [.t 77], none⟩,
      ⟨some 79, .bin .add (.t 75) (.t 78), none⟩,
      ⟨some 80, .bin .add (.t 79) (.c (.str [58])), none⟩,
      ⟨some 81, .mov (.t 12), none⟩,
      ⟨some 82, .bin .rem (.t 81) (.c (.int .i64 60)), none⟩,
      ⟨some 83, .pcall 3 181 [.t 82], none⟩,
      ⟨some 84, .bin .add (.t 80) (.t 83), none⟩,
      ⟨some 85, .bin .add (.t 84) (.c (.str [32, 43, 48, 48, 48, 48])), none⟩,
      ⟨some 2, .mov (.t 85), none⟩])
    .ret)))))))))
def rs_thread_shown : List IRes := [.t 2]
theorem ck_thread_shown : chkF Tryz.prog Tryz.f103 ir_thread_shown rs_thread_shown 86 = true := by kernel_rfl
/- paperchase/thread.PrintDate -/
def ir_thread_PrintDate : IC :=
  (.seq (.reg [⟨some 2, .mov (.c (.str [])), none⟩,
      ⟨some 3, .mov (.c (.int .i64 0)), none⟩])
    (.seq (.seq (.reg [⟨some 4, .mov (.t 0), none⟩,
      ⟨some 5, .call 92 [.t 4], none⟩,
      ⟨some 6, .not (.t 5), none⟩])
    (.cond (.t 6) (.seq (.reg [⟨some 2, .mov (.c (.str [])), none⟩,
      ⟨some 3, .mov (.c (.int .i64 1)), none⟩])
    .ret) .skip))
    (.seq (.reg [⟨some 7, .mov (.t 0), none⟩,
      ⟨some 8, .call 103 [.t 7], none⟩,
      ⟨some 2, .mov (.t 8), none⟩,
      ⟨some 3, .mov (.c (.int .i64 0)), none⟩])
    .ret)))
def rs_thread_PrintDate : List IRes := [.t 2, .t 3]
theorem ck_thread_PrintDate : chkF Tryz.prog Tryz.f31 ir_thread_PrintDate rs_thread_PrintDate 9 = true := by kernel_rfl
/- paperchase/chaseref1.DateText -/
def ir_chaseref1_DateText_L0 : IC :=
  (.seq (.seq (.reg [⟨some 10, .mov (.t 6), none⟩,
      ⟨some 11, .mov (.t 4), none⟩,
      ⟨some 12, .mov (.t 5), none⟩,
      ⟨some 13, .call 101 [.t 11, .t 12], none⟩,
      ⟨some 14, .bin .geq (.t 10) (.t 13), none⟩])
    (.cond (.t 14) .skip (.exit 0)))
    (.block 1 (.seq (.reg [⟨some 15, .mov (.t 6), none⟩,
      ⟨some 16, .mov (.t 4), none⟩,
      ⟨some 17, .mov (.t 5), none⟩,
      ⟨some 18, .call 101 [.t 16, .t 17], none⟩,
      ⟨some 19, .bin .sub (.t 15) (.t 18), none⟩,
      ⟨some 6, .mov (.t 19), none⟩])
    (.seq (.reg [⟨some 20, .mov (.t 5), none⟩,
      ⟨some 21, .bin .add (.t 20) (.c (.int .i64 1)), none⟩,
      ⟨some 5, .mov (.t 21), none⟩])
    (.seq (.reg [⟨some 22, .mov (.t 5), none⟩,
      ⟨some 23, .bin .gtr (.t 22) (.c (.int .i64 12)), none⟩])
    (.cond (.t 23) (.reg [⟨some 24, .mov (.t 4), none⟩,
      ⟨some 25, .bin .add (.t 24) (.c (.int .i64 1)), none⟩,
      ⟨some 4, .mov (.t 25), none⟩,
      ⟨some 5, .mov (.c (.int .i64 1)), none⟩]) .skip))))))
def ir_chaseref1_DateText : IC :=
  (.seq (.reg [⟨some 2, .mov (.c (.str [])), none⟩])
    (.seq (.reg [⟨some 7, .mov (.t 0), none⟩,
      ⟨some 8, .bin .quo (.t 7) (.c (.int .i64 1440)), none⟩,
      ⟨some 3, .mov (.t 8), none⟩])
    (.seq (.reg [⟨some 4, .mov (.c (.int .i64 2024)), none⟩,
      ⟨some 5, .mov (.c (.int .i64 1)), none⟩])
    (.seq (.reg [⟨some 9, .mov (.t 3), none⟩,
      ⟨some 6, .mov (.t 9), none⟩])
    (.seq (.block 0 (.loop ir_chaseref1_DateText_L0))
    (.seq (.drg [⟨some 26, .pcall 0 95 [], none⟩,
      ⟨some 27, .mov (.t 3), none⟩,
      ⟨some 28, .bin .rem (.t 27) (.c (.int .i64 7)), none⟩,
      ⟨some 29, .ixa 1 (.t 26) (.t 28), none⟩,
      ⟨some 30, .ld 1 false (.t 29), none⟩,
      ⟨some 31, .bin .add (.t 30) (.c (.str [44, 32])), none⟩,
      ⟨some 32, .mov (.t 6), none⟩,
      ⟨some 33, .bin .add (.t 32) (.c (.int .i64 1)), none⟩,
      ⟨some 34, .pcall 1 105 [.t 33], none⟩,
      ⟨some 35, .bin .add (.t 31) (.t 34), none⟩,
      ⟨some 36, .bin .add (.t 35) (.c (.str [32])), none⟩,
      ⟨some 37, .pcall 2 97 [], none⟩,
      ⟨some 38, .mov (.t 5), none⟩,
      ⟨some 39, .bin .sub (.t 38) (.c (.int .i64 1)), none⟩,
      ⟨some 40, .ixa 1 (.t 37) (.t 39), none⟩,
      ⟨some 41, .ld 1 false (.t 40), none⟩,
      ⟨some 42, .bin .add (.t 36) (.t 41), none⟩,
      ⟨some 43, .bin .add (.t 42) (.c (.str [32])), none⟩,
      ⟨some 44, .mov (.t 4), none⟩,
      ⟨some 45, .pcall 3 105 [.t 44], none⟩,
      ⟨some 46, .bin .add (.t 43) (.t 45), none⟩,
      ⟨some 47, .bin .add (.t 46) (.c (.str [32])), none⟩,
      ⟨some 48, .mov (.t 0), none⟩,
      ⟨some 49, .bin .rem (.t 48) (.c (.int .i64 1440)), none⟩,
      ⟨some 50, .bin .quo (.t 49) (.c (.int .i64 60)), none⟩,
      ⟨some 51, .pcall 4 106 [.t 50], none⟩,
      ⟨some 52, .bin .add (.t 47) (.t 51), none⟩,
      ⟨some 53, .bin .add (.t 52) (.c (.str [58])), none⟩,
      ⟨some 54, .mov (.t 0), none⟩,
      ⟨some 55, .bin .rem (.t 54) (.c (.int .i64 60)), none⟩,
      ⟨some 56, .pcall 5 106 [.t 55], none⟩,
      ⟨some 57, .bin .add (.t 53) (.t 56), none⟩,
      ⟨some 58, .bin .add (.t 57) (.c (.str [32, 43, 48, 48, 48, 48])), none⟩,
      ⟨some 2, .mov (.t 58), none⟩])
    .ret))))))
def rs_chaseref1_DateText : List IRes := [.t 2]
theorem ck_chaseref1_DateText : chkF Tryz.prog Tryz.f34 ir_chaseref1_DateText rs_chaseref1_DateText 59 = true := by kernel_rfl

/-- The day on which a month begins: months counted from January 2024 on. -/
def Dn (i : Nat) : Int := daysN (2024 + (i / 12 : Nat)) ((i % 12 : Nat) + 1) 1
theorem Dn_eq (i : Nat) : Dn i = mS (2024 + (i / 12 : Nat)) (i % 12) + yS 2024 (i / 12) := by
  unfold Dn daysN
  have e1 : (((i % 12 : Nat) : Int) + 1 - 1).toNat = i % 12 := by omega
  have e2 : (2024 + ((i / 12 : Nat) : Int) - 2024).toNat = i / 12 := by omega
  have e3 : (2024 - (2024 + ((i / 12 : Nat) : Int))).toNat = 0 := by omega
  rw [e1, e2, e3, yS]
  omega
theorem mS12 (y : Int) : mS y 12 = ylen y := by
  simp only [mS, mlen, ylen]
  cases leapY y <;> decide
theorem Dn_next (i : Nat) : Dn (i + 1) = Dn i + mlen (2024 + (i / 12 : Nat)) ((i % 12 : Nat) + 1) := by
  rw [Dn_eq, Dn_eq]
  by_cases h : i % 12 = 11
  · have e1 : (i + 1) / 12 = i / 12 + 1 := by omega
    have e2 : (i + 1) % 12 = 0 := by omega
    have h12 := mS12 (2024 + (i / 12 : Nat))
    rw [mS] at h12
    rw [e1, e2, h, yS, mS, ← h12]
    have e3 : ((11 + 1 : Nat) : Int) = ((11 : Nat) : Int) + 1 := rfl
    rw [e3]
    omega
  · have e1 : (i + 1) / 12 = i / 12 := by omega
    have e2 : (i + 1) % 12 = i % 12 + 1 := by omega
    rw [e1, e2, mS]
    have e3 : ((i % 12 + 1 : Nat) : Int) = ((i % 12 : Nat) : Int) + 1 := by omega
    rw [e3]
    omega
theorem Dn_zero : Dn 0 = 0 := by decide
theorem Dn_mono : ∀ (k i : Nat), Dn i + 28 * (k : Int) ≤ Dn (i + k)
  | 0, i => by simp
  | k + 1, i => by
    have h1 := Dn_mono k i
    have h2 := Dn_next (i + k)
    have h3 := (mlen_b (2024 + ((i + k) / 12 : Nat)) (((i + k) % 12 : Nat) + 1)).1
    rw [← Nat.add_assoc]
    omega
theorem Dn_ge (i : Nat) : 28 * (i : Int) ≤ Dn i := by
  have := Dn_mono i 0
  rw [Dn_zero, Nat.zero_add] at this
  omega
theorem Dn_lt {i j : Nat} (h : i < j) : Dn i < Dn j := by
  have := Dn_mono (j - i) i
  rw [show i + (j - i) = j from by omega] at this
  omega
theorem Dn_uniq {i j : Nat} {n : Int} (h1 : Dn i ≤ n) (h2 : n < Dn (i + 1)) (h3 : Dn j ≤ n) (h4 : n < Dn (j + 1)) : i = j := by
  rcases Nat.lt_trichotomy i j with h | h | h
  · have : Dn (i + 1) ≤ Dn j := by
      rcases Nat.lt_or_eq_of_le (Nat.succ_le_of_lt h) with h5 | h5
      · exact Int.le_of_lt (Dn_lt h5)
      · rw [← h5]; exact Int.le_refl _
    omega
  · exact h
  · have : Dn (j + 1) ≤ Dn i := by
      rcases Nat.lt_or_eq_of_le (Nat.succ_le_of_lt h) with h5 | h5
      · exact Int.le_of_lt (Dn_lt h5)
      · rw [← h5]; exact Int.le_refl _
    omega
theorem Dn_ex (n : Nat) : ∃ i, Dn i ≤ (n : Int) ∧ (n : Int) < Dn (i + 1) := by
  have key : ∀ k : Nat, (∃ i, Dn i ≤ (n : Int) ∧ (n : Int) < Dn (i + 1)) ∨ Dn k ≤ (n : Int) := by
    intro k
    induction k with
    | zero => right; rw [Dn_zero]; omega
    | succ k ih =>
      rcases ih with ih | ih
      · exact .inl ih
      · by_cases h : (n : Int) < Dn (k + 1)
        · exact .inl ⟨k, ih, h⟩
        · right; omega
  rcases key (n + 1) with h | h
  · exact h
  · have := Dn_ge (n + 1)
    omega
def dtText (m i : Nat) : List UInt8 :=
  ((((((((((dayL.getD (m / 1440 % 7) [] ++ [44, 32]) ++ Lib.itoa (((m / 1440 : Nat) : Int) - Dn i + 1)) ++ [32]) ++ monL.getD (i % 12) []) ++ [32]) ++ Lib.itoa (2024 + (i / 12 : Nat))) ++ [32]) ++ twoS (m % 1440 / 60)) ++ [58]) ++ twoS (m % 60)) ++ [32, 43, 48, 48, 48, 48]
theorem day_len (k : Nat) : (dayL.getD k []).length ≤ 3 := by
  cases h : dayL[k]? with
  | none => simp [List.getD, h]
  | some x =>
    have : ∀ x ∈ dayL, x.length ≤ 3 := by decide
    have := this x (List.mem_of_getElem? h)
    simpa [List.getD, h] using this
theorem mon_len (k : Nat) : (monL.getD k []).length ≤ 3 := by
  cases h : monL[k]? with
  | none => simp [List.getD, h]
  | some x =>
    have : ∀ x ∈ monL, x.length ≤ 3 := by decide
    have := this x (List.mem_of_getElem? h)
    simpa [List.getD, h] using this
theorem dtText_len {m i : Nat} (h0 : -1000000 ≤ ((m / 1440 : Nat) : Int) - Dn i) (h1 : ((m / 1440 : Nat) : Int) - Dn i ≤ 1000000) (hi : i ≤ 1000000) : (dtText m i).length ≤ 80 := by
  unfold dtText
  have a1 := day_len (m / 1440 % 7)
  have a2 := mon_len (i % 12)
  have a3 := Lib.itoa_length_le (((m / 1440 : Nat) : Int) - Dn i + 1) (by omega) (by omega)
  have a4 := Lib.itoa_length_le (2024 + (i / 12 : Nat)) (by omega) (by omega)
  simp only [List.length_append, List.length_cons, List.length_nil, twoS]
  omega
set_option maxHeartbeats 4000000 in
theorem DateText_ok (m i : Nat) (hm : m ≤ 5761439) (hi1 : Dn i ≤ ((m / 1440 : Nat) : Int)) (hi2 : ((m / 1440 : Nat) : Int) < Dn (i + 1)) : PCall Tryz.prog E5 34 [int (m : Nat)] (· = .str (dtText m i)) := by
  have d1 : ((m : Nat) : Int).tdiv 1440 = ((m / 1440 : Nat) : Int) := by rw [Int.tdiv_eq_ediv_of_nonneg (by omega)]; rfl
  refine pcallF mixed Tryz.func34 ck_chaseref1_DateText ?_
  simp only [a0, l0, OS.ao, List.map_cons, List.map_nil, List.length_cons, List.length_nil, List.cons_append, List.nil_append, Nat.reduceSub, Nat.reduceAdd, List.replicate_succ, List.replicate_zero, ir_chaseref1_DateText, rs_chaseref1_DateText, ZZ, YY, Ze, ite_true, ite_false, forall_const, reduceCtorEq, Nat.reduceAdd, Nat.reduceMul, Nat.reduceLeDiff, Nat.reduceLT, Nat.reduceEqDiff]
  simp only [ZZ, YY, Ze, ite_true, ite_false, forall_const, reduceCtorEq, Nat.reduceAdd, Nat.reduceMul, Nat.reduceLeDiff, Nat.reduceLT, Nat.reduceEqDiff, d1]
  ((repeat' (with_reducible apply And.intro)) <;> try ((first | first | assumption | trivial | exact (fun hq => by rw [hq]; rfl) | exact i64_of (by omega) (by omega) | omega | (simp; done) | (simp; omega) | (intro hsc; have hs0 := hsc; (try have hsd := of_decide_eq_true hsc); (try simp only [Bool.not_eq_true', Bool.or_eq_false_iff, Bool.and_eq_true, Bool.or_eq_true, decide_eq_true_eq, decide_eq_false_iff_not] at hsc); (repeat' (with_reducible apply And.intro)) <;> (first | assumption | trivial | exact (fun hq => by rw [hq]; rfl) | exact i64_of (by omega) (by omega) | omega | (simp; done) | (simp; omega) | (intro hse; simp [hse, hs0]; done) | (intro hse; simp only [hse, hs0, Bool.true_and, Bool.and_true, Bool.not_false, Bool.not_true, Bool.and_self]; done))))))
  obtain ⟨nn, hnn⟩ : ∃ nn : Nat, nn = m / 1440 := ⟨_, rfl⟩
  rw [← hnn] at hi1 hi2 d1 ⊢
  have hn4 : nn ≤ 4000 := by omega
  refine loop_intro (fun n fr L => ∃ (j : Nat) (yy : Int) (mm : Int) (cu : Int), ((nn : Int) - Dn j).toNat = n ∧ (Dn j ≤ (nn : Int)) ∧ (yy = 2024 + (j / 12 : Nat)) ∧ (mm = (j % 12 : Nat) + 1) ∧ (cu = (nn : Int) - Dn j) ∧ fr = [.p (int (m : Nat)), .any, .any, .p (int (nn : Nat)), .p (int yy), .p (int mm), .p (int cu), .any, .any, .any, .any, .any, .any, .any, .any, .any, .any, .any, .any, .any, .any, .any, .any, .any, .any, .any, .any, .any, .any, .any, .any, .any, .any, .any, .any, .any, .any, .any, .any, .any, .any, .any, .any, .any, .any, .any, .any, .any, .any, .any, .any, .any, .any, .any, .any, .any, .any, .any, .any] ∧ L = []) (((nn : Int) - Dn 0).toNat) [.p (int (m : Nat)), .any, .any, .p (int (nn : Nat)), .p (int 2024), .p (int 1), .p (int ((nn : Nat))), .any, .any, .any, .any, .any, .any, .any, .any, .any, .any, .any, .any, .any, .any, .any, .any, .any, .any, .any, .any, .any, .any, .any, .any, .any, .any, .any, .any, .any, .any, .any, .any, .any, .any, .any, .any, .any, .any, .any, .any, .any, .any, .any, .any, .any, .any, .any, .any, .any, .any, .any, .any] [] (by (simp only [ZZ, YY, Ze, ite_true, ite_false, forall_const, reduceCtorEq, Nat.reduceAdd, Nat.reduceMul, Nat.reduceLeDiff, Nat.reduceLT, Nat.reduceEqDiff]; try trivial)) (by (simp only [ZZ, YY, Ze, ite_true, ite_false, forall_const, reduceCtorEq, Nat.reduceAdd, Nat.reduceMul, Nat.reduceLeDiff, Nat.reduceLT, Nat.reduceEqDiff]; try trivial)) ⟨0, 2024, 1, (nn : Nat), rfl, by rw [Dn_zero]; omega, rfl, rfl, by rw [Dn_zero]; omega, rfl, rfl⟩ ?_
  rintro n fr L ⟨j, yy, mm, cu, rfl, hj, hy, hmm, hcu, rfl, rfl⟩
  simp only [ir_chaseref1_DateText_L0, ZZ, YY, Ze, ite_true, ite_false, forall_const, reduceCtorEq, Nat.reduceAdd, Nat.reduceMul, Nat.reduceLeDiff, Nat.reduceLT, Nat.reduceEqDiff]
  have hjg := Dn_ge j
  have hnx := Dn_next j
  rw [← hy, ← hmm] at hnx
  have hmb := mlen_b yy mm
  refine use1 (mlenR_ok yy mm (by omega) (by omega)) rfl (.inl rfl) ?_
  simp only [ZZ, YY, Ze, ite_true, ite_false, forall_const, reduceCtorEq, Nat.reduceAdd, Nat.reduceMul, Nat.reduceLeDiff, Nat.reduceLT, Nat.reduceEqDiff]
  refine br ?_ ?_
  · intro h
    have h : mlen yy mm ≤ cu := of_decide_eq_true h
    simp only [ZZ, YY, Ze, ite_true, ite_false, forall_const, reduceCtorEq, Nat.reduceAdd, Nat.reduceMul, Nat.reduceLeDiff, Nat.reduceLT, Nat.reduceEqDiff]
    refine use1 (mlenR_ok yy mm (by omega) (by omega)) rfl (.inl rfl) ?_
    simp only [ZZ, YY, Ze, ite_true, ite_false, forall_const, reduceCtorEq, Nat.reduceAdd, Nat.reduceMul, Nat.reduceLeDiff, Nat.reduceLT, Nat.reduceEqDiff]
    ((repeat' (with_reducible apply And.intro)) <;> try ((first | first | assumption | trivial | exact (fun hq => by rw [hq]; rfl) | exact i64_of (by omega) (by omega) | omega | (simp; done) | (simp; omega) | (intro hsc; have hs0 := hsc; (try have hsd := of_decide_eq_true hsc); (try simp only [Bool.not_eq_true', Bool.or_eq_false_iff, Bool.and_eq_true, Bool.or_eq_true, decide_eq_true_eq, decide_eq_false_iff_not] at hsc); (repeat' (with_reducible apply And.intro)) <;> (first | assumption | trivial | exact (fun hq => by rw [hq]; rfl) | exact i64_of (by omega) (by omega) | omega | (simp; done) | (simp; omega) | (intro hse; simp [hse, hs0]; done) | (intro hse; simp only [hse, hs0, Bool.true_and, Bool.and_true, Bool.not_false, Bool.not_true, Bool.and_self]; done))))))
    refine br ?_ ?_
    · intro h12
      have h12 : 12 < mm + 1 := of_decide_eq_true h12
      simp only [ZZ, YY, Ze, ite_true, ite_false, forall_const, reduceCtorEq, Nat.reduceAdd, Nat.reduceMul, Nat.reduceLeDiff, Nat.reduceLT, Nat.reduceEqDiff]
      ((repeat' (with_reducible apply And.intro)) <;> try ((first | first | assumption | trivial | exact (fun hq => by rw [hq]; rfl) | exact i64_of (by omega) (by omega) | omega | (simp; done) | (simp; omega) | (intro hsc; have hs0 := hsc; (try have hsd := of_decide_eq_true hsc); (try simp only [Bool.not_eq_true', Bool.or_eq_false_iff, Bool.and_eq_true, Bool.or_eq_true, decide_eq_true_eq, decide_eq_false_iff_not] at hsc); (repeat' (with_reducible apply And.intro)) <;> (first | assumption | trivial | exact (fun hq => by rw [hq]; rfl) | exact i64_of (by omega) (by omega) | omega | (simp; done) | (simp; omega) | (intro hse; simp [hse, hs0]; done) | (intro hse; simp only [hse, hs0, Bool.true_and, Bool.and_true, Bool.not_false, Bool.not_true, Bool.and_self]; done))))))
      refine end_round (((nn : Int) - Dn (j + 1)).toNat) [.p (int (m : Nat)), .any, .any, .p (int (nn : Nat)), .p (int (yy + 1)), .p (int (1)), .p (int (cu - mlen yy mm)), .any, .any, .any, .any, .any, .any, .any, .any, .any, .any, .any, .any, .any, .any, .any, .any, .any, .any, .any, .any, .any, .any, .any, .any, .any, .any, .any, .any, .any, .any, .any, .any, .any, .any, .any, .any, .any, .any, .any, .any, .any, .any, .any, .any, .any, .any, .any, .any, .any, .any, .any, .any] [] (by omega) (by (simp only [ZZ, YY, Ze, ite_true, ite_false, forall_const, reduceCtorEq, Nat.reduceAdd, Nat.reduceMul, Nat.reduceLeDiff, Nat.reduceLT, Nat.reduceEqDiff]; try trivial)) (by (simp only [ZZ, YY, Ze, ite_true, ite_false, forall_const, reduceCtorEq, Nat.reduceAdd, Nat.reduceMul, Nat.reduceLeDiff, Nat.reduceLT, Nat.reduceEqDiff]; try trivial)) ⟨j + 1, yy + 1, 1, cu - mlen yy mm, rfl, by omega, by omega, by omega, by omega, rfl, rfl⟩
    · intro h12
      have h12 : ¬ 12 < mm + 1 := of_decide_eq_false h12
      simp only [ZZ, YY, Ze, ite_true, ite_false, forall_const, reduceCtorEq, Nat.reduceAdd, Nat.reduceMul, Nat.reduceLeDiff, Nat.reduceLT, Nat.reduceEqDiff]
      ((repeat' (with_reducible apply And.intro)) <;> try ((first | first | assumption | trivial | exact (fun hq => by rw [hq]; rfl) | exact i64_of (by omega) (by omega) | omega | (simp; done) | (simp; omega) | (intro hsc; have hs0 := hsc; (try have hsd := of_decide_eq_true hsc); (try simp only [Bool.not_eq_true', Bool.or_eq_false_iff, Bool.and_eq_true, Bool.or_eq_true, decide_eq_true_eq, decide_eq_false_iff_not] at hsc); (repeat' (with_reducible apply And.intro)) <;> (first | assumption | trivial | exact (fun hq => by rw [hq]; rfl) | exact i64_of (by omega) (by omega) | omega | (simp; done) | (simp; omega) | (intro hse; simp [hse, hs0]; done) | (intro hse; simp only [hse, hs0, Bool.true_and, Bool.and_true, Bool.not_false, Bool.not_true, Bool.and_self]; done))))))
      refine end_round (((nn : Int) - Dn (j + 1)).toNat) [.p (int (m : Nat)), .any, .any, .p (int (nn : Nat)), .p (int (yy)), .p (int (mm + 1)), .p (int (cu - mlen yy mm)), .any, .any, .any, .any, .any, .any, .any, .any, .any, .any, .any, .any, .any, .any, .any, .any, .any, .any, .any, .any, .any, .any, .any, .any, .any, .any, .any, .any, .any, .any, .any, .any, .any, .any, .any, .any, .any, .any, .any, .any, .any, .any, .any, .any, .any, .any, .any, .any, .any, .any, .any, .any] [] (by omega) (by (simp only [ZZ, YY, Ze, ite_true, ite_false, forall_const, reduceCtorEq, Nat.reduceAdd, Nat.reduceMul, Nat.reduceLeDiff, Nat.reduceLT, Nat.reduceEqDiff]; try trivial)) (by (simp only [ZZ, YY, Ze, ite_true, ite_false, forall_const, reduceCtorEq, Nat.reduceAdd, Nat.reduceMul, Nat.reduceLeDiff, Nat.reduceLT, Nat.reduceEqDiff]; try trivial)) ⟨j + 1, yy, mm + 1, cu - mlen yy mm, rfl, by omega, by omega, by omega, by omega, rfl, rfl⟩
  · intro h
    have h : ¬ mlen yy mm ≤ cu := of_decide_eq_false h
    have hji : j = i := Dn_uniq hj (by omega) hi1 hi2
    subst hji
    have r1 : ((nn : Nat) : Int).tmod 7 = ((nn % 7 : Nat) : Int) := by rw [Int.tmod_eq_emod_of_nonneg (by omega)]; rfl
    have r2 : ((m : Nat) : Int).tmod 1440 = ((m % 1440 : Nat) : Int) := by rw [Int.tmod_eq_emod_of_nonneg (by omega)]; rfl
    have r3 : ((m % 1440 : Nat) : Int).tdiv 60 = ((m % 1440 / 60 : Nat) : Int) := by rw [Int.tdiv_eq_ediv_of_nonneg (by omega)]; rfl
    have r4 : ((m : Nat) : Int).tmod 60 = ((m % 60 : Nat) : Int) := by rw [Int.tmod_eq_emod_of_nonneg (by omega)]; rfl
    have q1 : ((nn % 7 : Nat) : Int).toNat = nn % 7 := by omega
    have q2 : (mm - 1).toNat = j % 12 := by omega
    have dl : dayL.length = 7 := rfl
    have ml : monL.length = 12 := rfl
    have t1 : (strE dayL).getD (nn % 7) [] = [.str (dayL.getD (nn % 7) [])] := strE_get (by rw [List.getD, List.getElem?_eq_getElem (by omega)]; rfl)
    have t2 : (strE monL).getD (j % 12) [] = [.str (monL.getD (j % 12) [])] := strE_get (by rw [List.getD, List.getElem?_eq_getElem (by omega)]; rfl)
    have a1 := day_len (nn % 7)
    have a2 := mon_len (j % 12)
    have a3 := Lib.itoa_length_le (cu + 1) (by omega) (by omega)
    have a4 := Lib.itoa_length_le yy (by omega) (by omega)
    have k1 := Itoa_ok5 (cu + 1) (by omega) (by omega)
    have k2 := Itoa_ok5 yy (by omega) (by omega)
    have k3 := twoR_ok (E := E5) (m % 1440 / 60) (by omega)
    have k4 := twoR_ok (E := E5) (m % 60) (by omega)
    have b3 : (twoS (m % 1440 / 60)).length = 2 := rfl
    have b4 : (twoS (m % 60)).length = 2 := rfl
    have hfin : dtText m j = ((((((((((dayL.getD (nn % 7) [] ++ [44, 32]) ++ Lib.itoa (cu + 1)) ++ [32]) ++ monL.getD (j % 12) []) ++ [32]) ++ Lib.itoa yy) ++ [32]) ++ twoS (m % 1440 / 60)) ++ [58]) ++ twoS (m % 60)) ++ [32, 43, 48, 48, 48, 48] := by
      rw [dtText, ← hnn, ← hcu, ← hy]
    rw [hfin]
    generalize dayL.getD (nn % 7) [] = s1 at *
    generalize monL.getD (j % 12) [] = s2 at *
    generalize Lib.itoa (cu + 1) = s3 at *
    generalize Lib.itoa yy = s4 at *
    generalize twoS (m % 1440 / 60) = s5 at *
    generalize twoS (m % 60) = s6 at *
    simp only [ZZ, YY, Ze, ite_true, ite_false, forall_const, reduceCtorEq, Nat.reduceAdd, Nat.reduceMul, Nat.reduceLeDiff, Nat.reduceLT, Nat.reduceEqDiff]
    refine drg6 (x1 := .sl 1 (strE dayL)) (x2 := .str s3) (x3 := .sl 1 (strE monL)) (x4 := .str s4) (x5 := .str s5) (x6 := .str s6) ?_
    simp only [ZZ, YY, Ze, ite_true, ite_false, forall_const, reduceCtorEq, Nat.reduceAdd, Nat.reduceMul, Nat.reduceLeDiff, Nat.reduceLT, Nat.reduceEqDiff, strE_len, r1, r2, r3, r4, q1, q2, t1, t2, dl, ml, List.length_append, List.length_cons, List.length_nil]
    refine ⟨usep dayNames_ok rfl (.inl rfl), by decide, ⟨by omega, by omega⟩, by omega, by omega, i64_of (by omega) (by omega), usep k1 rfl (.inl rfl), by omega, by omega, usep monthNames_ok rfl (.inl rfl), i64_of (by omega) (by omega), ⟨by omega, by omega⟩, by omega, by omega, by omega, usep k2 rfl (.inl rfl), by omega, by omega, by decide, ⟨by decide, i64_of (by omega) (by omega)⟩, usep k3 rfl (.inl rfl), by omega, by omega, by decide, usep k4 rfl (.inl rfl), by omega, by omega⟩
theorem wk_at (k : Nat) (h : k < 7) : (([77, 111, 110, 84, 117, 101, 87, 101, 100, 84, 104, 117, 70, 114, 105, 83, 97, 116, 83, 117, 110] : List UInt8).take (3 * k + 3)).drop (3 * k) = dayL.getD k [] := by
  have : ∀ i : Fin 7, (([77, 111, 110, 84, 117, 101, 87, 101, 100, 84, 104, 117, 70, 114, 105, 83, 97, 116, 83, 117, 110] : List UInt8).take (3 * i.val + 3)).drop (3 * i.val) = dayL.getD i.val [] := by decide
  exact this ⟨k, h⟩
theorem mo_at (k : Nat) (h : k < 12) : (([74, 97, 110, 70, 101, 98, 77, 97, 114, 65, 112, 114, 77, 97, 121, 74, 117, 110, 74, 117, 108, 65, 117, 103, 83, 101, 112, 79, 99, 116, 78, 111, 118, 68, 101, 99] : List UInt8).take (3 * k + 3)).drop (3 * k) = monL.getD k [] := by
  have : ∀ i : Fin 12, (([74, 97, 110, 70, 101, 98, 77, 97, 114, 65, 112, 114, 77, 97, 121, 74, 117, 110, 74, 117, 108, 65, 117, 103, 83, 101, 112, 79, 99, 116, 78, 111, 118, 68, 101, 99] : List UInt8).take (3 * i.val + 3)).drop (3 * i.val) = monL.getD i.val [] := by decide
  exact this ⟨k, h⟩
theorem Dn_at (j r : Nat) (hr : r < 12) : daysN (2024 + (j : Nat)) ((r : Nat) + 1) 1 = Dn (12 * j + r) := by
  unfold Dn
  rw [show (12 * j + r) / 12 = j from by omega, show (12 * j + r) % 12 = r from by omega]
set_option maxHeartbeats 4000000 in
theorem shown_ok (m i : Nat) (hm : m ≤ 5761439) (hi1 : Dn i ≤ ((m / 1440 : Nat) : Int)) (hi2 : ((m / 1440 : Nat) : Int) < Dn (i + 1)) : PCall Tryz.prog E5 103 [int (m : Nat)] (· = .str (dtText m i)) := by
  have d1 : ((m : Nat) : Int).tdiv 1440 = ((m / 1440 : Nat) : Int) := by rw [Int.tdiv_eq_ediv_of_nonneg (by omega)]; rfl
  refine pcallF mixed Tryz.func103 ck_thread_shown ?_
  simp only [a0, l0, OS.ao, List.map_cons, List.map_nil, List.length_cons, List.length_nil, List.cons_append, List.nil_append, Nat.reduceSub, Nat.reduceAdd, List.replicate_succ, List.replicate_zero, ir_thread_shown, rs_thread_shown, ZZ, YY, Ze, ite_true, ite_false, forall_const, reduceCtorEq, Nat.reduceAdd, Nat.reduceMul, Nat.reduceLeDiff, Nat.reduceLT, Nat.reduceEqDiff]
  simp only [ZZ, YY, Ze, ite_true, ite_false, forall_const, reduceCtorEq, Nat.reduceAdd, Nat.reduceMul, Nat.reduceLeDiff, Nat.reduceLT, Nat.reduceEqDiff, d1]
  ((repeat' (with_reducible apply And.intro)) <;> try ((first | first | assumption | trivial | exact (fun hq => by rw [hq]; rfl) | exact i64_of (by omega) (by omega) | omega | (simp; done) | (simp; omega) | (intro hsc; have hs0 := hsc; (try have hsd := of_decide_eq_true hsc); (try simp only [Bool.not_eq_true', Bool.or_eq_false_iff, Bool.and_eq_true, Bool.or_eq_true, decide_eq_true_eq, decide_eq_false_iff_not] at hsc); (repeat' (with_reducible apply And.intro)) <;> (first | assumption | trivial | exact (fun hq => by rw [hq]; rfl) | exact i64_of (by omega) (by omega) | omega | (simp; done) | (simp; omega) | (intro hse; simp [hse, hs0]; done) | (intro hse; simp only [hse, hs0, Bool.true_and, Bool.and_true, Bool.not_false, Bool.not_true, Bool.and_self]; done))))))
  obtain ⟨nn, hnn⟩ : ∃ nn : Nat, nn = m / 1440 := ⟨_, rfl⟩
  rw [← hnn] at hi1 hi2 d1 ⊢
  have hn4 : nn ≤ 4000 := by omega
  refine loop_intro (fun n fr L => ∃ (j : Nat) (yy : Int), ((nn : Int) + 1 - Dn (12 * j)).toNat = n ∧ (Dn (12 * j) ≤ (nn : Int)) ∧ (yy = 2024 + (j : Nat)) ∧ fr = [.p (int (m : Nat)), .any, .any, .p (int (nn : Nat)), .p (int yy), .p (int 1), .any, .any, .any, .any, .any, .any, .any, .any, .any, .any, .any, .any, .any, .any, .any, .any, .any, .any, .any, .any, .any, .any, .any, .any, .any, .any, .any, .any, .any, .any, .any, .any, .any, .any, .any, .any, .any, .any, .any, .any, .any, .any, .any, .any, .any, .any, .any, .any, .any, .any, .any, .any, .any, .any, .any, .any, .any, .any, .any, .any, .any, .any, .any, .any, .any, .any, .any, .any, .any, .any, .any, .any, .any, .any, .any, .any, .any, .any, .any, .any] ∧ L = []) (((nn : Int) + 1 - Dn (12 * 0)).toNat) [.p (int (m : Nat)), .any, .any, .p (int (nn : Nat)), .p (int 2024), .p (int 1), .any, .any, .any, .any, .any, .any, .any, .any, .any, .any, .any, .any, .any, .any, .any, .any, .any, .any, .any, .any, .any, .any, .any, .any, .any, .any, .any, .any, .any, .any, .any, .any, .any, .any, .any, .any, .any, .any, .any, .any, .any, .any, .any, .any, .any, .any, .any, .any, .any, .any, .any, .any, .any, .any, .any, .any, .any, .any, .any, .any, .any, .any, .any, .any, .any, .any, .any, .any, .any, .any, .any, .any, .any, .any, .any, .any, .any, .any, .any, .any] [] (by (simp only [ZZ, YY, Ze, ite_true, ite_false, forall_const, reduceCtorEq, Nat.reduceAdd, Nat.reduceMul, Nat.reduceLeDiff, Nat.reduceLT, Nat.reduceEqDiff]; try trivial)) (by (simp only [ZZ, YY, Ze, ite_true, ite_false, forall_const, reduceCtorEq, Nat.reduceAdd, Nat.reduceMul, Nat.reduceLeDiff, Nat.reduceLT, Nat.reduceEqDiff]; try trivial)) ⟨0, 2024, rfl, by rw [Dn_zero]; omega, rfl, rfl, rfl⟩ ?_
  rintro n fr L ⟨j, yy, rfl, hj, hy, rfl, rfl⟩
  simp only [ir_thread_shown_L0, ZZ, YY, Ze, ite_true, ite_false, forall_const, reduceCtorEq, Nat.reduceAdd, Nat.reduceMul, Nat.reduceLeDiff, Nat.reduceLT, Nat.reduceEqDiff]
  have hjg := Dn_ge (12 * j)
  have hD := days_ok (E := E5) (yy + 1) 1 1 (by omega) (by omega) (by decide) (by decide)
  have hin : inE 1 1 (mlen (yy + 1) 1) = true := by
    have := mlen_b (yy + 1) 1
    simp only [inE, Bool.and_eq_true, decide_eq_true_eq]
    omega
  have hDa : daysN (yy + 1) 1 1 = Dn (12 * (j + 1)) := by
    have := Dn_at (j + 1) 0 (by decide)
    rw [hy]
    have e : (2024 + ((j : Nat) : Int) + 1) = 2024 + ((j + 1 : Nat) : Int) := by omega
    rw [e]
    exact this
  have hmo := Dn_mono 12 (12 * j)
  rw [show 12 * j + 12 = 12 * (j + 1) from by omega] at hmo
  rw [if_pos hin, hDa] at hD
  ((repeat' (with_reducible apply And.intro)) <;> try ((first | first | assumption | trivial | exact (fun hq => by rw [hq]; rfl) | exact i64_of (by omega) (by omega) | omega | (simp; done) | (simp; omega) | (intro hsc; have hs0 := hsc; (try have hsd := of_decide_eq_true hsc); (try simp only [Bool.not_eq_true', Bool.or_eq_false_iff, Bool.and_eq_true, Bool.or_eq_true, decide_eq_true_eq, decide_eq_false_iff_not] at hsc); (repeat' (with_reducible apply And.intro)) <;> (first | assumption | trivial | exact (fun hq => by rw [hq]; rfl) | exact i64_of (by omega) (by omega) | omega | (simp; done) | (simp; omega) | (intro hse; simp [hse, hs0]; done) | (intro hse; simp only [hse, hs0, Bool.true_and, Bool.and_true, Bool.not_false, Bool.not_true, Bool.and_self]; done))))))
  refine use1 hD rfl (.inl rfl) ?_
  simp only [ZZ, YY, Ze, ite_true, ite_false, forall_const, reduceCtorEq, Nat.reduceAdd, Nat.reduceMul, Nat.reduceLeDiff, Nat.reduceLT, Nat.reduceEqDiff]
  refine br ?_ ?_
  · intro h
    have h : (nn : Int) < Dn (12 * (j + 1)) := of_decide_eq_true h
    simp only [ZZ, YY, Ze, ite_true, ite_false, forall_const, reduceCtorEq, Nat.reduceAdd, Nat.reduceMul, Nat.reduceLeDiff, Nat.reduceLT, Nat.reduceEqDiff]
    refine loop_intro (fun n fr L => ∃ (r : Nat) (mm : Int), 12 - r = n ∧ (r < 12) ∧ (Dn (12 * j + r) ≤ (nn : Int)) ∧ (mm = (r : Nat) + 1) ∧ fr = [.p (int (m : Nat)), .any, .any, .p (int (nn : Nat)), .p (int yy), .p (int mm), .any, .any, .any, .any, .any, .any, .any, .any, .any, .any, .any, .any, .any, .any, .any, .any, .any, .any, .any, .any, .any, .any, .any, .any, .any, .any, .any, .any, .any, .any, .any, .any, .any, .any, .any, .any, .any, .any, .any, .any, .any, .any, .any, .any, .any, .any, .any, .any, .any, .any, .any, .any, .any, .any, .any, .any, .any, .any, .any, .any, .any, .any, .any, .any, .any, .any, .any, .any, .any, .any, .any, .any, .any, .any, .any, .any, .any, .any, .any, .any] ∧ L = []) (12 - 0) [.p (int (m : Nat)), .any, .any, .p (int (nn : Nat)), .p (int yy), .p (int 1), .any, .any, .any, .any, .any, .any, .any, .any, .any, .any, .any, .any, .any, .any, .any, .any, .any, .any, .any, .any, .any, .any, .any, .any, .any, .any, .any, .any, .any, .any, .any, .any, .any, .any, .any, .any, .any, .any, .any, .any, .any, .any, .any, .any, .any, .any, .any, .any, .any, .any, .any, .any, .any, .any, .any, .any, .any, .any, .any, .any, .any, .any, .any, .any, .any, .any, .any, .any, .any, .any, .any, .any, .any, .any, .any, .any, .any, .any, .any, .any] [] (by (simp only [ZZ, YY, Ze, ite_true, ite_false, forall_const, reduceCtorEq, Nat.reduceAdd, Nat.reduceMul, Nat.reduceLeDiff, Nat.reduceLT, Nat.reduceEqDiff]; try trivial)) (by (simp only [ZZ, YY, Ze, ite_true, ite_false, forall_const, reduceCtorEq, Nat.reduceAdd, Nat.reduceMul, Nat.reduceLeDiff, Nat.reduceLT, Nat.reduceEqDiff]; try trivial)) ⟨0, 1, rfl, by decide, hj, rfl, rfl, rfl⟩ ?_
    rintro n fr L ⟨r, mm, rfl, hr, hrj, hmm, rfl, rfl⟩
    simp only [ir_thread_shown_L1, ZZ, YY, Ze, ite_true, ite_false, forall_const, reduceCtorEq, Nat.reduceAdd, Nat.reduceMul, Nat.reduceLeDiff, Nat.reduceLT, Nat.reduceEqDiff]
    refine br ?_ ?_
    · intro hlt12
      have hlt12 : mm < 12 := of_decide_eq_true hlt12
      have hD2 := days_ok (E := E5) yy (mm + 1) 1 (by omega) (by omega) (by omega) (by omega)
      have hin3 : inE 1 1 (mlen yy (mm + 1)) = true := by
        have := mlen_b yy (mm + 1)
        simp only [inE, Bool.and_eq_true, decide_eq_true_eq]
        omega
      have hDb : daysN yy (mm + 1) 1 = Dn (12 * j + (r + 1)) := by
        have := Dn_at j (r + 1) (by omega)
        rw [hy, hmm]
        exact this
      rw [if_pos hin3, hDb] at hD2
      simp only [ZZ, YY, Ze, ite_true, ite_false, forall_const, reduceCtorEq, Nat.reduceAdd, Nat.reduceMul, Nat.reduceLeDiff, Nat.reduceLT, Nat.reduceEqDiff]
      ((repeat' (with_reducible apply And.intro)) <;> try ((first | first | assumption | trivial | exact (fun hq => by rw [hq]; rfl) | exact i64_of (by omega) (by omega) | omega | (simp; done) | (simp; omega) | (intro hsc; have hs0 := hsc; (try have hsd := of_decide_eq_true hsc); (try simp only [Bool.not_eq_true', Bool.or_eq_false_iff, Bool.and_eq_true, Bool.or_eq_true, decide_eq_true_eq, decide_eq_false_iff_not] at hsc); (repeat' (with_reducible apply And.intro)) <;> (first | assumption | trivial | exact (fun hq => by rw [hq]; rfl) | exact i64_of (by omega) (by omega) | omega | (simp; done) | (simp; omega) | (intro hse; simp [hse, hs0]; done) | (intro hse; simp only [hse, hs0, Bool.true_and, Bool.and_true, Bool.not_false, Bool.not_true, Bool.and_self]; done))))))
      refine use1 hD2 rfl (.inl rfl) ?_
      simp only [ZZ, YY, Ze, ite_true, ite_false, forall_const, reduceCtorEq, Nat.reduceAdd, Nat.reduceMul, Nat.reduceLeDiff, Nat.reduceLT, Nat.reduceEqDiff]
      refine br ?_ ?_
      · intro hlt
        have hlt : (nn : Int) < Dn (12 * j + r + 1) := of_decide_eq_true hlt
        simp only [ZZ, YY, Ze, ite_true, ite_false, forall_const, reduceCtorEq, Nat.reduceAdd, Nat.reduceMul, Nat.reduceLeDiff, Nat.reduceLT, Nat.reduceEqDiff]
        have hix : 12 * j + r = i := Dn_uniq hrj hlt hi1 hi2
        subst hix
        have hF := days_ok (E := E5) yy mm 1 (by omega) (by omega) (by omega) (by omega)
        have hin2 : inE 1 1 (mlen yy mm) = true := by
          have := mlen_b yy mm
          simp only [inE, Bool.and_eq_true, decide_eq_true_eq]
          omega
        have hFa : daysN yy mm 1 = Dn (12 * j + r) := by rw [hy, hmm]; exact Dn_at j r hr
        rw [if_pos hin2, hFa] at hF
        have r1 : ((nn : Nat) : Int).tmod 7 = ((nn % 7 : Nat) : Int) := by rw [Int.tmod_eq_emod_of_nonneg (by omega)]; rfl
        have r2 : ((m : Nat) : Int).tmod 1440 = ((m % 1440 : Nat) : Int) := by rw [Int.tmod_eq_emod_of_nonneg (by omega)]; rfl
        have r3 : ((m % 1440 : Nat) : Int).tdiv 60 = ((m % 1440 / 60 : Nat) : Int) := by rw [Int.tdiv_eq_ediv_of_nonneg (by omega)]; rfl
        have r4 : ((m % 1440 : Nat) : Int).tmod 60 = ((m % 60 : Nat) : Int) := by rw [Int.tmod_eq_emod_of_nonneg (by omega)]; omega
        obtain ⟨e1, he1⟩ : ∃ e1 : Nat, e1 = 3 * (nn % 7) := ⟨_, rfl⟩
        obtain ⟨e2, he2⟩ : ∃ e2 : Nat, e2 = 3 * (nn % 7) + 3 := ⟨_, rfl⟩
        obtain ⟨e3, he3⟩ : ∃ e3 : Nat, e3 = 3 * r := ⟨_, rfl⟩
        obtain ⟨e4, he4⟩ : ∃ e4 : Nat, e4 = 3 * r + 3 := ⟨_, rfl⟩
        have q1 : (3 * ((nn % 7 : Nat) : Int)).toNat = e1 := by omega
        have q2 : (3 * ((nn % 7 : Nat) : Int) + 3).toNat = e2 := by omega
        have q3 : (3 * mm - 3).toNat = e3 := by omega
        have q4 : (3 * mm).toNat = e4 := by omega
        have t1 := wk_at (nn % 7) (by omega)
        have t2 := mo_at r hr
        rw [← he2, ← he1] at t1
        rw [← he4, ← he3] at t2
        have hg2 := Dn_ge (12 * j + r)
        have a1 := day_len (nn % 7)
        have a2 := mon_len r
        have a3 := Lib.itoa_length_le ((nn : Int) - Dn (12 * j + r) + 1) (by omega) (by omega)
        have a4 := Lib.itoa_length_le yy (by omega) (by omega)
        have k1 := Itoa_ok5 ((nn : Int) - Dn (12 * j + r) + 1) (by omega) (by omega)
        have k2 := Itoa_ok5 yy (by omega) (by omega)
        have k3 := two_ok (m % 1440 / 60) (by omega)
        have k4 := two_ok (m % 60) (by omega)
        have b3 : (twoS (m % 1440 / 60)).length = 2 := rfl
        have b4 : (twoS (m % 60)).length = 2 := rfl
        have hfin : dtText m (12 * j + r) = ((((((((((dayL.getD (nn % 7) [] ++ [44, 32]) ++ Lib.itoa ((nn : Int) - Dn (12 * j + r) + 1)) ++ [32]) ++ monL.getD r []) ++ [32]) ++ Lib.itoa yy) ++ [32]) ++ twoS (m % 1440 / 60)) ++ [58]) ++ twoS (m % 60)) ++ [32, 43, 48, 48, 48, 48] := by
          rw [dtText, ← hnn, show (12 * j + r) / 12 = j from by omega, show (12 * j + r) % 12 = r from by omega, ← hy]
        rw [hfin]
        refine cut_re _ _ ReOk.refl ?_
        simp only [ZZ, YY, Ze, ite_true, ite_false, forall_const, reduceCtorEq, Nat.reduceAdd, Nat.reduceMul, Nat.reduceLeDiff, Nat.reduceLT, Nat.reduceEqDiff]
        refine use1 hF rfl (.inl rfl) ?_
        generalize dayL.getD (nn % 7) [] = s1 at *
        generalize monL.getD r [] = s2 at *
        generalize Lib.itoa ((nn : Int) - Dn (12 * j + r) + 1) = s3 at *
        generalize Lib.itoa yy = s4 at *
        generalize twoS (m % 1440 / 60) = s5 at *
        generalize twoS (m % 60) = s6 at *
        simp only [ZZ, YY, Ze, ite_true, ite_false, forall_const, reduceCtorEq, Nat.reduceAdd, Nat.reduceMul, Nat.reduceLeDiff, Nat.reduceLT, Nat.reduceEqDiff, r2]
        ((repeat' (with_reducible apply And.intro)) <;> try ((first | first | assumption | trivial | exact (fun hq => by rw [hq]; rfl) | exact i64_of (by omega) (by omega) | omega | (simp; done) | (simp; omega) | (intro hsc; have hs0 := hsc; (try have hsd := of_decide_eq_true hsc); (try simp only [Bool.not_eq_true', Bool.or_eq_false_iff, Bool.and_eq_true, Bool.or_eq_true, decide_eq_true_eq, decide_eq_false_iff_not] at hsc); (repeat' (with_reducible apply And.intro)) <;> (first | assumption | trivial | exact (fun hq => by rw [hq]; rfl) | exact i64_of (by omega) (by omega) | omega | (simp; done) | (simp; omega) | (intro hse; simp [hse, hs0]; done) | (intro hse; simp only [hse, hs0, Bool.true_and, Bool.and_true, Bool.not_false, Bool.not_true, Bool.and_self]; done))))))
        refine drg4 (x1 := .str s3) (x2 := .str s4) (x3 := .str s5) (x4 := .str s6) ?_
        simp only [ZZ, YY, Ze, ite_true, ite_false, forall_const, reduceCtorEq, Nat.reduceAdd, Nat.reduceMul, Nat.reduceLeDiff, Nat.reduceLT, Nat.reduceEqDiff, r1, r3, r4, q1, q2, q3, q4, t1, t2, List.length_append, List.length_cons, List.length_nil]
        refine ⟨by decide, i64_of (by omega) (by omega), by decide, i64_of (by omega) (by omega), i64_of (by omega) (by omega), ⟨⟨by omega, by omega⟩, by omega, by omega⟩, by omega, i64_of (by omega) (by omega), i64_of (by omega) (by omega), usep k1 rfl (.inl rfl), by omega, by omega, i64_of (by omega) (by omega), i64_of (by omega) (by omega), i64_of (by omega) (by omega), ⟨⟨by omega, by omega⟩, by omega, by omega⟩, by omega, by omega, usep k2 rfl (.inl rfl), by omega, by omega, ⟨by decide, i64_of (by omega) (by omega)⟩, usep k3 rfl (.inl rfl), by omega, by omega, by decide, usep k4 rfl (.inl rfl), by omega, by omega⟩
      · intro hlt
        have hlt : ¬ (nn : Int) < Dn (12 * j + (r + 1)) := of_decide_eq_false hlt
        simp only [ZZ, YY, Ze, ite_true, ite_false, forall_const, reduceCtorEq, Nat.reduceAdd, Nat.reduceMul, Nat.reduceLeDiff, Nat.reduceLT, Nat.reduceEqDiff]
        ((repeat' (with_reducible apply And.intro)) <;> try ((first | first | assumption | trivial | exact (fun hq => by rw [hq]; rfl) | exact i64_of (by omega) (by omega) | omega | (simp; done) | (simp; omega) | (intro hsc; have hs0 := hsc; (try have hsd := of_decide_eq_true hsc); (try simp only [Bool.not_eq_true', Bool.or_eq_false_iff, Bool.and_eq_true, Bool.or_eq_true, decide_eq_true_eq, decide_eq_false_iff_not] at hsc); (repeat' (with_reducible apply And.intro)) <;> (first | assumption | trivial | exact (fun hq => by rw [hq]; rfl) | exact i64_of (by omega) (by omega) | omega | (simp; done) | (simp; omega) | (intro hse; simp [hse, hs0]; done) | (intro hse; simp only [hse, hs0, Bool.true_and, Bool.and_true, Bool.not_false, Bool.not_true, Bool.and_self]; done))))))
        refine end_round (12 - (r + 1)) [.p (int (m : Nat)), .any, .any, .p (int (nn : Nat)), .p (int yy), .p (int (mm + 1)), .any, .any, .any, .any, .any, .any, .any, .any, .any, .any, .any, .any, .any, .any, .any, .any, .any, .any, .any, .any, .any, .any, .any, .any, .any, .any, .any, .any, .any, .any, .any, .any, .any, .any, .any, .any, .any, .any, .any, .any, .any, .any, .any, .any, .any, .any, .any, .any, .any, .any, .any, .any, .any, .any, .any, .any, .any, .any, .any, .any, .any, .any, .any, .any, .any, .any, .any, .any, .any, .any, .any, .any, .any, .any, .any, .any, .any, .any, .any, .any] [] (by omega) (by (simp only [ZZ, YY, Ze, ite_true, ite_false, forall_const, reduceCtorEq, Nat.reduceAdd, Nat.reduceMul, Nat.reduceLeDiff, Nat.reduceLT, Nat.reduceEqDiff]; try trivial)) (by (simp only [ZZ, YY, Ze, ite_true, ite_false, forall_const, reduceCtorEq, Nat.reduceAdd, Nat.reduceMul, Nat.reduceLeDiff, Nat.reduceLT, Nat.reduceEqDiff]; try trivial)) ⟨r + 1, mm + 1, rfl, by omega, by omega, by omega, rfl, rfl⟩
    · intro hge12
      have hge12 : ¬ mm < 12 := of_decide_eq_false hge12
      have hr11 : r = 11 := by omega
      have hlt : (nn : Int) < Dn (12 * j + r + 1) := by rw [hr11]; exact h
      simp only [ZZ, YY, Ze, ite_true, ite_false, forall_const, reduceCtorEq, Nat.reduceAdd, Nat.reduceMul, Nat.reduceLeDiff, Nat.reduceLT, Nat.reduceEqDiff]
      have hix : 12 * j + r = i := Dn_uniq hrj hlt hi1 hi2
      subst hix
      have hF := days_ok (E := E5) yy mm 1 (by omega) (by omega) (by omega) (by omega)
      have hin2 : inE 1 1 (mlen yy mm) = true := by
        have := mlen_b yy mm
        simp only [inE, Bool.and_eq_true, decide_eq_true_eq]
        omega
      have hFa : daysN yy mm 1 = Dn (12 * j + r) := by rw [hy, hmm]; exact Dn_at j r hr
      rw [if_pos hin2, hFa] at hF
      have r1 : ((nn : Nat) : Int).tmod 7 = ((nn % 7 : Nat) : Int) := by rw [Int.tmod_eq_emod_of_nonneg (by omega)]; rfl
      have r2 : ((m : Nat) : Int).tmod 1440 = ((m % 1440 : Nat) : Int) := by rw [Int.tmod_eq_emod_of_nonneg (by omega)]; rfl
      have r3 : ((m % 1440 : Nat) : Int).tdiv 60 = ((m % 1440 / 60 : Nat) : Int) := by rw [Int.tdiv_eq_ediv_of_nonneg (by omega)]; rfl
      have r4 : ((m % 1440 : Nat) : Int).tmod 60 = ((m % 60 : Nat) : Int) := by rw [Int.tmod_eq_emod_of_nonneg (by omega)]; omega
      obtain ⟨e1, he1⟩ : ∃ e1 : Nat, e1 = 3 * (nn % 7) := ⟨_, rfl⟩
      obtain ⟨e2, he2⟩ : ∃ e2 : Nat, e2 = 3 * (nn % 7) + 3 := ⟨_, rfl⟩
      obtain ⟨e3, he3⟩ : ∃ e3 : Nat, e3 = 3 * r := ⟨_, rfl⟩
      obtain ⟨e4, he4⟩ : ∃ e4 : Nat, e4 = 3 * r + 3 := ⟨_, rfl⟩
      have q1 : (3 * ((nn % 7 : Nat) : Int)).toNat = e1 := by omega
      have q2 : (3 * ((nn % 7 : Nat) : Int) + 3).toNat = e2 := by omega
      have q3 : (3 * mm - 3).toNat = e3 := by omega
      have q4 : (3 * mm).toNat = e4 := by omega
      have t1 := wk_at (nn % 7) (by omega)
      have t2 := mo_at r hr
      rw [← he2, ← he1] at t1
      rw [← he4, ← he3] at t2
      have hg2 := Dn_ge (12 * j + r)
      have a1 := day_len (nn % 7)
      have a2 := mon_len r
      have a3 := Lib.itoa_length_le ((nn : Int) - Dn (12 * j + r) + 1) (by omega) (by omega)
      have a4 := Lib.itoa_length_le yy (by omega) (by omega)
      have k1 := Itoa_ok5 ((nn : Int) - Dn (12 * j + r) + 1) (by omega) (by omega)
      have k2 := Itoa_ok5 yy (by omega) (by omega)
      have k3 := two_ok (m % 1440 / 60) (by omega)
      have k4 := two_ok (m % 60) (by omega)
      have b3 : (twoS (m % 1440 / 60)).length = 2 := rfl
      have b4 : (twoS (m % 60)).length = 2 := rfl
      have hfin : dtText m (12 * j + r) = ((((((((((dayL.getD (nn % 7) [] ++ [44, 32]) ++ Lib.itoa ((nn : Int) - Dn (12 * j + r) + 1)) ++ [32]) ++ monL.getD r []) ++ [32]) ++ Lib.itoa yy) ++ [32]) ++ twoS (m % 1440 / 60)) ++ [58]) ++ twoS (m % 60)) ++ [32, 43, 48, 48, 48, 48] := by
        rw [dtText, ← hnn, show (12 * j + r) / 12 = j from by omega, show (12 * j + r) % 12 = r from by omega, ← hy]
      rw [hfin]
      refine cut_re _ _ ReOk.refl ?_
      simp only [ZZ, YY, Ze, ite_true, ite_false, forall_const, reduceCtorEq, Nat.reduceAdd, Nat.reduceMul, Nat.reduceLeDiff, Nat.reduceLT, Nat.reduceEqDiff]
      refine use1 hF rfl (.inl rfl) ?_
      generalize dayL.getD (nn % 7) [] = s1 at *
      generalize monL.getD r [] = s2 at *
      generalize Lib.itoa ((nn : Int) - Dn (12 * j + r) + 1) = s3 at *
      generalize Lib.itoa yy = s4 at *
      generalize twoS (m % 1440 / 60) = s5 at *
      generalize twoS (m % 60) = s6 at *
      simp only [ZZ, YY, Ze, ite_true, ite_false, forall_const, reduceCtorEq, Nat.reduceAdd, Nat.reduceMul, Nat.reduceLeDiff, Nat.reduceLT, Nat.reduceEqDiff, r2]
      ((repeat' (with_reducible apply And.intro)) <;> try ((first | first | assumption | trivial | exact (fun hq => by rw [hq]; rfl) | exact i64_of (by omega) (by omega) | omega | (simp; done) | (simp; omega) | (intro hsc; have hs0 := hsc; (try have hsd := of_decide_eq_true hsc); (try simp only [Bool.not_eq_true', Bool.or_eq_false_iff, Bool.and_eq_true, Bool.or_eq_true, decide_eq_true_eq, decide_eq_false_iff_not] at hsc); (repeat' (with_reducible apply And.intro)) <;> (first | assumption | trivial | exact (fun hq => by rw [hq]; rfl) | exact i64_of (by omega) (by omega) | omega | (simp; done) | (simp; omega) | (intro hse; simp [hse, hs0]; done) | (intro hse; simp only [hse, hs0, Bool.true_and, Bool.and_true, Bool.not_false, Bool.not_true, Bool.and_self]; done))))))
      refine drg4 (x1 := .str s3) (x2 := .str s4) (x3 := .str s5) (x4 := .str s6) ?_
      simp only [ZZ, YY, Ze, ite_true, ite_false, forall_const, reduceCtorEq, Nat.reduceAdd, Nat.reduceMul, Nat.reduceLeDiff, Nat.reduceLT, Nat.reduceEqDiff, r1, r3, r4, q1, q2, q3, q4, t1, t2, List.length_append, List.length_cons, List.length_nil]
      refine ⟨by decide, i64_of (by omega) (by omega), by decide, i64_of (by omega) (by omega), i64_of (by omega) (by omega), ⟨⟨by omega, by omega⟩, by omega, by omega⟩, by omega, i64_of (by omega) (by omega), i64_of (by omega) (by omega), usep k1 rfl (.inl rfl), by omega, by omega, i64_of (by omega) (by omega), i64_of (by omega) (by omega), i64_of (by omega) (by omega), ⟨⟨by omega, by omega⟩, by omega, by omega⟩, by omega, by omega, usep k2 rfl (.inl rfl), by omega, by omega, ⟨by decide, i64_of (by omega) (by omega)⟩, usep k3 rfl (.inl rfl), by omega, by omega, by decide, usep k4 rfl (.inl rfl), by omega, by omega⟩
  · intro h
    have h : ¬ (nn : Int) < Dn (12 * (j + 1)) := of_decide_eq_false h
    simp only [ZZ, YY, Ze, ite_true, ite_false, forall_const, reduceCtorEq, Nat.reduceAdd, Nat.reduceMul, Nat.reduceLeDiff, Nat.reduceLT, Nat.reduceEqDiff]
    ((repeat' (with_reducible apply And.intro)) <;> try ((first | first | assumption | trivial | exact (fun hq => by rw [hq]; rfl) | exact i64_of (by omega) (by omega) | omega | (simp; done) | (simp; omega) | (intro hsc; have hs0 := hsc; (try have hsd := of_decide_eq_true hsc); (try simp only [Bool.not_eq_true', Bool.or_eq_false_iff, Bool.and_eq_true, Bool.or_eq_true, decide_eq_true_eq, decide_eq_false_iff_not] at hsc); (repeat' (with_reducible apply And.intro)) <;> (first | assumption | trivial | exact (fun hq => by rw [hq]; rfl) | exact i64_of (by omega) (by omega) | omega | (simp; done) | (simp; omega) | (intro hse; simp [hse, hs0]; done) | (intro hse; simp only [hse, hs0, Bool.true_and, Bool.and_true, Bool.not_false, Bool.not_true, Bool.and_self]; done))))))
    refine end_round (((nn : Int) + 1 - Dn (12 * (j + 1))).toNat) [.p (int (m : Nat)), .any, .any, .p (int (nn : Nat)), .p (int (yy + 1)), .p (int 1), .any, .any, .any, .any, .any, .any, .any, .any, .any, .any, .any, .any, .any, .any, .any, .any, .any, .any, .any, .any, .any, .any, .any, .any, .any, .any, .any, .any, .any, .any, .any, .any, .any, .any, .any, .any, .any, .any, .any, .any, .any, .any, .any, .any, .any, .any, .any, .any, .any, .any, .any, .any, .any, .any, .any, .any, .any, .any, .any, .any, .any, .any, .any, .any, .any, .any, .any, .any, .any, .any, .any, .any, .any, .any, .any, .any, .any, .any, .any, .any] [] (by omega) (by (simp only [ZZ, YY, Ze, ite_true, ite_false, forall_const, reduceCtorEq, Nat.reduceAdd, Nat.reduceMul, Nat.reduceLeDiff, Nat.reduceLT, Nat.reduceEqDiff]; try trivial)) (by (simp only [ZZ, YY, Ze, ite_true, ite_false, forall_const, reduceCtorEq, Nat.reduceAdd, Nat.reduceMul, Nat.reduceLeDiff, Nat.reduceLT, Nat.reduceEqDiff]; try trivial)) ⟨j + 1, yy + 1, rfl, by omega, by omega, rfl, rfl⟩
theorem PrintDate_ok (m i : Nat) (hm : m ≤ 5761439) (hi1 : Dn i ≤ ((m / 1440 : Nat) : Int)) (hi2 : ((m / 1440 : Nat) : Int) < Dn (i + 1)) : PCall Tryz.prog E5 31 [int (m : Nat)] (· = .tup [.str (dtText m i), int 0]) := by
  refine pcallF mixed Tryz.func31 ck_thread_PrintDate ?_
  simp only [a0, l0, OS.ao, List.map_cons, List.map_nil, List.length_cons, List.length_nil, List.cons_append, List.nil_append, Nat.reduceSub, Nat.reduceAdd, List.replicate_succ, List.replicate_zero, ir_thread_PrintDate, rs_thread_PrintDate, ZZ, YY, Ze, ite_true, ite_false, forall_const, reduceCtorEq, Nat.reduceAdd, Nat.reduceMul, Nat.reduceLeDiff, Nat.reduceLT, Nat.reduceEqDiff]
  refine use1 (Moment_ok (m : Nat)) rfl (.inl rfl) ?_
  have h : inE (m : Nat) 0 5761439 = true := by
    simp only [inE, Bool.and_eq_true, decide_eq_true_eq]
    omega
  simp only [ZZ, YY, Ze, ite_true, ite_false, forall_const, reduceCtorEq, Nat.reduceAdd, Nat.reduceMul, Nat.reduceLeDiff, Nat.reduceLT, Nat.reduceEqDiff, h]
  refine use1 (shown_ok m i hm hi1 hi2) rfl (.inl rfl) ?_
  simp only [ZZ, YY, Ze, ite_true, ite_false, forall_const, reduceCtorEq, Nat.reduceAdd, Nat.reduceMul, Nat.reduceLeDiff, Nat.reduceLT, Nat.reduceEqDiff]
theorem PrintDate_bad (m : Int) (h : inE m 0 5761439 = false) : PCall Tryz.prog E5 31 [int m] (· = .tup [.str [], int 1]) := by
  refine pcallF mixed Tryz.func31 ck_thread_PrintDate ?_
  simp only [a0, l0, OS.ao, List.map_cons, List.map_nil, List.length_cons, List.length_nil, List.cons_append, List.nil_append, Nat.reduceSub, Nat.reduceAdd, List.replicate_succ, List.replicate_zero, ir_thread_PrintDate, rs_thread_PrintDate, ZZ, YY, Ze, ite_true, ite_false, forall_const, reduceCtorEq, Nat.reduceAdd, Nat.reduceMul, Nat.reduceLeDiff, Nat.reduceLT, Nat.reduceEqDiff]
  refine use1 (Moment_ok m) rfl (.inl rfl) ?_
  simp only [ZZ, YY, Ze, ite_true, ite_false, forall_const, reduceCtorEq, Nat.reduceAdd, Nat.reduceMul, Nat.reduceLeDiff, Nat.reduceLT, Nat.reduceEqDiff, h]
end Go.Proofs.YtidmphcocnaonaaGreatDoor

/- Dates, plain: both readings give the same. -/
namespace Go.Proofs.YtidmphcocnaonaaGreatDoor
open Go.RowKit
set_option linter.unusedVariables false
set_option linter.unusedSimpArgs false
set_option linter.defProp false

/-- One or two bytes: what both sides read as a day. -/
def dayB (b : List UInt8) : Bool := ((ntF b 2).2 && decide (1 ≤ (ntF b 2).1)) == ((atB b && decide (itD (atV b) = b) && decide (((cutPreF b [45]).1.length : Int) ≤ 2)) && decide (1 ≤ atV b)) && (decide (-1000 ≤ atV b) && decide (atV b ≤ 1000))
theorem dayB_one : ∀ c : Fin 256, dayB [UInt8.ofNat c.val] = true := by decide +kernel
theorem dayB_two : ∀ c : Fin 256, ∀ k : Fin 10, dayB [UInt8.ofNat c.val, UInt8.ofNat (48 + k.val)] = true := by decide +kernel
theorem dayB_nil : dayB [] = true := by decide +kernel
theorem atB_two {c x : UInt8} (h : digB x = false) : atB [c, x] = false := by
  have hx : ¬ (48 ≤ x.toNat ∧ x.toNat ≤ 57) := by
    intro h2
    simp only [digB, Bool.and_eq_false_iff, decide_eq_false_iff_not] at h
    omega
  unfold atB
  simp only [Lib.atoiAll, Lib.parseMag]
  by_cases h1 : c.toNat = 43 ∨ c.toNat = 45
  · rw [if_pos h1]
    simp [Lib.parseUint10, hx]
  · rw [if_neg h1]
    by_cases h2 : 48 ≤ c.toNat ∧ c.toNat ≤ 57
    · have h3 : ¬ 18446744073709551616 ≤ c.toNat - 48 := by omega
      simp [Lib.parseUint10, hx, h2, h3]
    · simp [Lib.parseUint10, hx, h2]
theorem atV_minus (r : List UInt8) : atV (45 :: r) ≤ 0 := by
  unfold atV
  rw [Lib.atoiAll_minus]
  have hsat : Lib.atoiSat (45 :: r) ≤ 0 := by simp [Lib.atoiSat]
  cases Lib.parseMag r with
  | ok u =>
    by_cases hu : 9223372036854775808 < u
    · have e : Lib.signed (.ok u) = .range := by rw [Lib.signed, if_pos hu]
      rw [e]
      exact hsat
    · have e : Lib.signed (.ok u) = .ok (-(u : Int)) := by rw [Lib.signed, if_neg hu]
      rw [e]
      show -(u : Int) ≤ 0
      omega
  | range => exact hsat
  | _ => exact Int.le_refl 0
theorem cut_minus (b : List UInt8) : (∃ r, b = 45 :: r ∧ cutPreF b [45] = (r, true)) ∨ cutPreF b [45] = (b, false) := by
  cases b with
  | nil => right; rfl
  | cons c r =>
    by_cases h : c = 45
    · subst h; left; exact ⟨r, rfl, by simp [cutPreF, Lib.hasPrefix]⟩
    · right; simp [cutPreF, Lib.hasPrefix, h, Ne.symm h]
/-- Days, on both sides. -/
theorem day_eq (b : List UInt8) : ((ntF b 2).2 = true ∧ 1 ≤ (ntF b 2).1) ↔ (numOk b 2 = true ∧ 1 ≤ atV b) := by
  have small : dayB b = true → (((ntF b 2).2 = true ∧ 1 ≤ (ntF b 2).1) ↔ (numOk b 2 = true ∧ 1 ≤ atV b)) := by
    intro h
    unfold dayB at h
    simp only [Bool.and_eq_true, decide_eq_true_eq, beq_iff_eq] at h
    obtain ⟨h1, h2, h3⟩ := h
    rw [← itD_eq (by omega) (by omega)] at h1
    unfold numOk
    rw [Bool.eq_iff_iff] at h1
    simpa only [Bool.and_eq_true, decide_eq_true_eq] using h1
  match b with
  | [] => exact small dayB_nil
  | [c] =>
    have := dayB_one ⟨c.toNat, c.toNat_lt⟩
    simp only [UInt8.ofNat_toNat] at this
    exact small this
  | [c, x] =>
    by_cases hx : digB x = true
    · have hk : x.toNat - 48 < 10 := by
        simp only [digB, Bool.and_eq_true, decide_eq_true_eq] at hx
        omega
      have := dayB_two ⟨c.toNat, c.toNat_lt⟩ ⟨x.toNat - 48, hk⟩
      have e : UInt8.ofNat (48 + (x.toNat - 48)) = x := by
        simp only [digB, Bool.and_eq_true, decide_eq_true_eq] at hx
        rw [show 48 + (x.toNat - 48) = x.toNat from by omega, UInt8.ofNat_toNat]
      simp only [UInt8.ofNat_toNat, e] at this
      exact small this
    · have hx : digB x = false := by simpa using hx
      have h1 : numOk [c, x] 2 = false := by unfold numOk; rw [atB_two hx]; rfl
      have h2 : (ntF [c, x] 2).2 = false := by
        unfold ntF
        split
        · rename_i h
          exfalso
          have h3 := h.2
          rcases cut_minus [c, x] with ⟨r, e1, e2⟩ | e2
          · rw [e2] at h3
            injection e1 with e3 e4
            rw [← e4] at h3
            simp [hx] at h3
          · rw [e2] at h3
            simp [hx] at h3
        · rfl
      rw [h1, h2]
      simp
  | c :: x :: y :: r =>
    have h1 : ¬ (numOk (c :: x :: y :: r) 2 = true ∧ 1 ≤ atV (c :: x :: y :: r)) := by
      rintro ⟨h1, h2⟩
      simp only [numOk, Bool.and_eq_true, decide_eq_true_eq] at h1
      rcases cut_minus (c :: x :: y :: r) with ⟨q, e1, e2⟩ | e2
      · rw [e1] at h2
        have := atV_minus q
        omega
      · have h3 := h1.2
        rw [e2] at h3
        simp at h3
        omega
    have h2 : ¬ ((ntF (c :: x :: y :: r) 2).2 = true ∧ 1 ≤ (ntF (c :: x :: y :: r) 2).1) := by
      rintro ⟨h2, h3⟩
      unfold ntF at h2 h3
      split at h2
      · rename_i h
        rw [if_pos h] at h3
        simp only at h3
        rcases cut_minus (c :: x :: y :: r) with ⟨q, e1, e2⟩ | e2
        · rw [e1] at h3
          have := atV_minus q
          omega
        · have h4 := h.1
          unfold badN at h4
          rw [e2] at h4
          simp [inE] at h4
          omega
      · cases h2
    exact ⟨fun h => absurd h h2, fun h => absurd h h1⟩
theorem day_val {b : List UInt8} (h : (ntF b 2).2 = true) : (ntF b 2).1 = atV b := by
  unfold ntF at h ⊢
  split
  · rfl
  · rename_i h2
    rw [if_neg h2] at h
    cases h
/-- What a right date is. -/
def dOk (a b c d e f : List UInt8) : Prop :=
  (sufE a [44] = true ∧ 0 ≤ idxS dayL (trimSufL a [44]) 0) ∧ (numOk b 2 = true ∧ 1 ≤ atV b) ∧ 0 ≤ idxS monL c 0 ∧ fxOk d 4 = true ∧ (ckF e [58] 23).2 = true ∧ f ≠ [] ∧ ((ckF (f.drop 1) [] 14).2 = true ∧ ((f.getD 0 0).toNat = 43 ∨ (f.getD 0 0).toNat = 45)) ∧
  atV b ≤ mlen (foldD d : Nat) (idxS monL c 0 + 1) ∧ daysN (foldD d : Nat) (idxS monL c 0 + 1) (atV b) % 7 = idxS dayL (trimSufL a [44]) 0
def dVal (b c d e f : List UInt8) : Int := daysN (foldD d : Nat) (idxS monL c 0 + 1) (atV b) * 1440 + (ckF e [58] 23).1 - (if ((f.getD 0 0).toNat : Int) = 45 then -(ckF (f.drop 1) [] 14).1 else (ckF (f.drop 1) [] 14).1)
theorem tmod7 (n : Int) : (n.tmod 7 + 7).tmod 7 = n % 7 := by
  have e2 := Int.tmod_eq_emod (a := n) (b := 7)
  rw [show (7 : Int).natAbs = 7 from rfl] at e2
  have h0 : 0 ≤ n.tmod 7 + 7 := by split at e2 <;> omega
  rw [Int.tmod_eq_emod_of_nonneg h0]
  split at e2 <;> omega
theorem dgF_ok {s : List UInt8} {n : Nat} : (dgF s n).2 = fxOk s n := by
  unfold dgF
  cases h : fxOk s n <;> simp
theorem dgF_v {s : List UInt8} {n : Nat} (h : fxOk s n = true) : (dgF s n).1 = (foldD s : Nat) := by
  unfold dgF
  rw [if_pos h]
theorem R_val {a b c d e f : List UInt8} (h : dOk a b c d e f) : dateR [a, b, c, d, e, f] = if inE (dVal b c d e f) 0 5761439 = true then (dVal b c d e f, 0) else (0, 1) := by
  obtain ⟨⟨h1, h2⟩, ⟨h3, h4⟩, h5, h6, h7, h8, ⟨h9, h10⟩, h11, h12⟩ := h
  have e1 := dgF_v h6
  have e2 := (dgF_ok (s := d) (n := 4)).trans h6
  rw [dateR, if_neg, e1, dR3, if_neg, dR4]
  · have hv : (ckF e [58] 23).1 + (daysN (foldD d : Nat) (idxS monL c 0 + 1) (atV b) * 1440 + (if (((f.getD 0 0).toNat : Nat) : Int) = 43 then -(ckF (f.drop 1) [] 14).1 else (ckF (f.drop 1) [] 14).1)) = dVal b c d e f := by
      unfold dVal
      rcases h10 with h10 | h10
      · rw [h10, if_pos (show ((43 : Nat) : Int) = 43 from rfl), if_neg (show ¬ ((43 : Nat) : Int) = 45 by decide)]; omega
      · rw [h10, if_neg (show ¬ ((45 : Nat) : Int) = 43 by decide), if_pos (show ((45 : Nat) : Int) = 45 from rfl)]; omega
    rw [hv]
  · rw [tmod7, h12, h9, decide_eq_true rfl]
    rcases h10 with h10 | h10 <;> rw [h10] <;> decide
  · unfold dR2
    rw [e1]
    simp only [h1, h3, e2, h7, Bool.not_true, Bool.or_false, Bool.or_eq_true, decide_eq_true_eq, not_or]
    refine ⟨⟨⟨⟨?_, ?_⟩, ?_⟩, ?_⟩, h8⟩ <;> omega
theorem R_bad {a b c d e f : List UInt8} (h : ¬ dOk a b c d e f) : dateR [a, b, c, d, e, f] = (0, 9) := by
  rw [dateR]
  split
  · rfl
  · rename_i h1
    rw [dR3]
    split
    · rfl
    · rename_i h2
      exfalso
      apply h
      have h1 : dR2 (idxS dayL (trimSufL a [44]) 0) (idxS monL c 0 + 1) (sufE a [44]) (decide (f = [])) (atV b, numOk b 2) (dgF d 4) (ckF e [58] 23) = false := by simpa using h1
      unfold dR2 at h1
      simp only [Bool.or_eq_false_iff, Bool.not_eq_false', decide_eq_false_iff_not] at h1
      obtain ⟨⟨⟨⟨⟨⟨⟨⟨k1, k2⟩, k3⟩, k4⟩, k5⟩, k6⟩, k7⟩, k8⟩, k9⟩ := h1
      rw [dgF_ok] at k6
      rw [dgF_v k6] at k8 h2
      rw [tmod7] at h2
      simp only [Bool.or_eq_true, Bool.and_eq_true, Bool.not_eq_true', decide_eq_false_iff_not, not_or, not_and, Bool.not_eq_false, Decidable.not_not] at h2
      obtain ⟨⟨j1, j2⟩, j3⟩ := h2
      refine ⟨⟨k2, by omega⟩, ⟨k3, by omega⟩, by omega, k6, k7, k9, ⟨j1, ?_⟩, by omega, j3⟩
      by_cases q : (f.getD 0 0).toNat = 43
      · exact .inl q
      · right
        have := j2 (by omega)
        omega
theorem ck_iff (s b : List UInt8) (most : Int) : (ckF s b most).2 = true ↔ (s.length = 4 + b.length ∧ (s.take (2 + b.length)).drop 2 = b) ∧ (fxOk (s.take 2) 2 = true ∧ fxOk (s.drop (2 + b.length)) 2 = true) ∧ ((foldD (s.take 2) : Nat) : Int) ≤ most ∧ foldD (s.drop (2 + b.length)) < 60 := by
  unfold ckF
  by_cases h : s.length = 4 + b.length ∧ (s.take (2 + b.length)).drop 2 = b
  · rw [if_pos h]
    simp only [Bool.and_eq_true, decide_eq_true_eq, dgF_ok]
    constructor
    · rintro ⟨⟨⟨h1, h2⟩, h3⟩, h4⟩
      rw [dgF_v h1] at h3
      rw [dgF_v h2] at h4
      exact ⟨h, ⟨h1, h2⟩, h3, by omega⟩
    · rintro ⟨_, ⟨h1, h2⟩, h3, h4⟩
      rw [dgF_v h1, dgF_v h2]
      exact ⟨⟨⟨h1, h2⟩, h3⟩, by omega⟩
  · rw [if_neg h]
    simp only [Bool.false_eq_true, false_iff]
    exact fun h2 => h h2.1
theorem ck_v {s b : List UInt8} {most : Int} (h : (ckF s b most).2 = true) : (ckF s b most).1 = 60 * (foldD (s.take 2) : Nat) + (foldD (s.drop (2 + b.length)) : Nat) := by
  have h2 := (ck_iff s b most).1 h
  unfold ckF
  rw [if_pos h2.1]
  simp only
  rw [dgF_v h2.2.1.1, dgF_v h2.2.1.2]
theorem day_a {a : List UInt8} (h1 : sufE a [44] = true) (h2 : 0 ≤ idxS dayL (trimSufL a [44]) 0) : a.length = 4 := by
  have h3 := (idxS_mem dayL (trimSufL a [44]) dayL.length 0 (by omega)).1 h2
  rw [List.drop_zero] at h3
  have h4 : ∀ x ∈ dayL, x.length = 3 := by decide
  have h5 := h4 _ h3
  rw [trimSufL, if_pos h1, List.length_take] at h5
  simp only [sufE, Bool.and_eq_true, decide_eq_true_eq, List.length_cons, List.length_nil] at h1 h5
  omega
theorem fx_ok {s : List UInt8} {d : Nat} {most : Int} : (fxF s d most).2 = true ↔ fxOk s d = true ∧ ((foldD s : Nat) : Int) ≤ most := by
  unfold fxF
  split
  · rename_i h; simp [h]
  · rename_i h; simp [h]
theorem fx_v {s : List UInt8} {d : Nat} {most : Int} (h : fxOk s d = true) : (fxF s d most).1 = (foldD s : Nat) := by
  unfold fxF
  rw [if_pos h]
theorem nm_ok {L : List (List UInt8)} {s : List UInt8} : (nmF L s).2 = true ↔ 0 ≤ idxS L s 0 := by
  unfold nmF
  split
  · rename_i h; simp [h]
  · rename_i h; simp [h]
theorem nm_v {L : List (List UInt8)} {s : List UInt8} (h : 0 ≤ idxS L s 0) : (nmF L s).1 = idxS L s 0 := by
  unfold nmF
  rw [if_pos h]
theorem pre_ok {e f : List UInt8} : preT e f = false ↔ (e.length = 5 ∧ (e.getD 2 0).toNat = 58) ∧ f.length = 5 ∧ ((f.getD 0 0).toNat = 43 ∨ (f.getD 0 0).toNat = 45) := by
  unfold preT
  simp only [Bool.or_eq_false_iff, Bool.and_eq_false_iff, Bool.not_eq_false', decide_eq_true_eq]
  constructor
  · rintro ⟨⟨⟨h1, h2⟩, h3⟩, h4⟩
    exact ⟨⟨by omega, by omega⟩, by omega, by omega⟩
  · rintro ⟨⟨h1, h2⟩, h3, h4⟩
    exact ⟨⟨⟨by omega, by omega⟩, by omega⟩, by omega⟩
theorem mid_e {e : List UInt8} (h : e.length = 5) : (e.take (2 + 1)).drop 2 = [58] ↔ (e.getD 2 0).toNat = 58 := by
  match e, h with
  | [a, b, c, d, x], _ =>
    simp only [List.take_succ_cons, List.take_zero, List.drop_succ_cons, List.drop_zero, List.getD_cons_succ, List.getD_cons_zero, List.cons.injEq, and_true]
    rw [← UInt8.toNat_inj]
    rfl
theorem yr {d : List UInt8} (h : fxOk d 4 = true) : ((foldD d : Nat) : Int) ≤ 9999 := by
  simp only [fxOk, Bool.and_eq_true, decide_eq_true_eq] at h
  have hb := vfoldD_lt d h.2
  rw [h.1] at hb
  omega
theorem T_val {a b c d e f : List UInt8} (h : dOk a b c d e f) : dateT [a, b, c, d, e, f] = (dVal b c d e f, true) := by
  obtain ⟨⟨h1, h2⟩, ⟨h3, h4⟩, h5, h6, h7, h8, ⟨h9, h10⟩, h11, h12⟩ := h
  have ke := (ck_iff e [58] 23).1 h7
  have kf := (ck_iff (f.drop 1) [] 14).1 h9
  have ve := ck_v h7
  have vf := ck_v h9
  simp only [List.length_cons, List.length_nil, List.length_drop, Nat.zero_add, Nat.add_zero, List.drop_drop] at ke kf ve vf
  have hfl : f.length = 5 := by have := kf.1.1; have := List.length_pos_iff.2 h8; omega
  have hel : e.length = 5 := ke.1.1
  have hp : preT e f = false := pre_ok.2 ⟨⟨hel, (mid_e hel).1 ke.1.2⟩, hfl, h10⟩
  have e1 : (f.take 3).drop 1 = (f.drop 1).take 2 := by rw [List.drop_take]
  have nt := (day_eq b).2 ⟨h3, h4⟩
  have nv := day_val nt.1
  have h13 := yr h6
  rw [dateT, if_neg (by rw [hp]; simp), e1, dT3, if_neg, if_pos]
  · rw [nv, fx_v h6, nm_v h5, fx_v ke.2.1.1, fx_v ke.2.1.2, fx_v kf.2.1.1, fx_v kf.2.1.2]
    unfold dVal
    rw [ve, vf]
    congr 1
    omega
  · rw [nv, fx_v h6, nm_v h5, nm_v h2]
    refine ⟨?_, by omega⟩
    simp only [inE, Bool.and_eq_true, decide_eq_true_eq]
    omega
  · have al := day_a h1 h2
    rw [h1, nm_ok.2 h2, nt.1, nm_ok.2 h5, fx_ok.2 ⟨h6, h13⟩, fx_ok.2 ⟨ke.2.1.1, ke.2.2.1⟩, (fx_ok (s := e.drop 3) (d := 2) (most := 59)).2 ⟨ke.2.1.2, by have : foldD (e.drop 3) < 60 := ke.2.2.2; omega⟩, fx_ok.2 ⟨kf.2.1.1, kf.2.2.1⟩, (fx_ok (s := f.drop 3) (d := 2) (most := 59)).2 ⟨kf.2.1.2, by have : foldD (f.drop 3) < 60 := kf.2.2.2; omega⟩, al]
    decide
theorem T_bad {a b c d e f : List UInt8} (h : ¬ dOk a b c d e f) : (dateT [a, b, c, d, e, f]).2 = false := by
  rw [dateT]
  split
  · rfl
  · rename_i hp
    have hp := pre_ok.1 (by simpa using hp)
    have e1 : (f.take 3).drop 1 = (f.drop 1).take 2 := by rw [List.drop_take]
    rw [e1, dT3]
    split
    · rfl
    · rename_i h1
      split
      · rename_i h2
        exfalso
        apply h
        simp only [Bool.or_eq_true, Bool.not_eq_true', Bool.and_eq_false_iff, not_or, Bool.not_eq_false, decide_eq_false_iff_not, Decidable.not_not, Bool.and_eq_true] at h1
        obtain ⟨⟨k1, k2⟩, k3⟩ := h1
        have k3 : ((((((((nmF dayL (trimSufL a [44])).2 = true ∧ (ntF b 2).2 = true) ∧ (nmF monL c).2 = true) ∧ (fxF d 4 9999).2 = true) ∧ (fxF (e.take 2) 2 23).2 = true) ∧ (fxF (e.drop 3) 2 59).2 = true) ∧ (fxF ((f.drop 1).take 2) 2 14).2 = true) ∧ (fxF (f.drop 3) 2 59).2 = true) := by
          simpa [and_assoc] using k3
        obtain ⟨⟨⟨⟨⟨⟨⟨j0, j1⟩, j2⟩, j3⟩, j4⟩, j5⟩, j6⟩, j7⟩ := k3
        have j0 := nm_ok.1 j0
        have j2 := nm_ok.1 j2
        have j3 := fx_ok.1 j3
        have j4 := fx_ok.1 j4
        have j5 := fx_ok.1 j5
        have j6 := fx_ok.1 j6
        have j7 := fx_ok.1 j7
        have nv := day_val j1
        rw [nv, fx_v j3.1, nm_v j2, nm_v j0] at h2
        obtain ⟨h2, h3⟩ := h2
        simp only [inE, Bool.and_eq_true, decide_eq_true_eq] at h2
        have nt := (day_eq b).1 ⟨j1, by rw [nv]; exact h2.1⟩
        have ke : (ckF e [58] 23).2 = true := (ck_iff e [58] 23).2 ⟨⟨hp.1.1, (mid_e hp.1.1).2 hp.1.2⟩, ⟨j4.1, j5.1⟩, j4.2, by have := j5.2; show foldD (e.drop 3) < 60; omega⟩
        have kf : (ckF (f.drop 1) [] 14).2 = true := (ck_iff (f.drop 1) [] 14).2 ⟨⟨by rw [List.length_drop, hp.2.1]; rfl, by simp⟩, ⟨j6.1, by rw [List.drop_drop]; exact j7.1⟩, j6.2, by rw [List.drop_drop]; have := j7.2; show foldD (f.drop 3) < 60; omega⟩
        exact ⟨⟨k1, j0⟩, nt, j2, j3.1, ke, by intro e2; rw [e2] at hp; simp at hp, ⟨kf, hp.2.2⟩, h2.2, by omega⟩
      · rfl
theorem date_eq (w : List (List UInt8)) : dateR w = if (dateT w).2 = false then (0, 9) else if inE (dateT w).1 0 5761439 = true then ((dateT w).1, 0) else (0, 1) := by
  by_cases h6 : w.length = 6
  · obtain ⟨a, b, c, d, e, f, rfl⟩ := list6 h6
    by_cases h : dOk a b c d e f
    · rw [R_val h, T_val h]
      rfl
    · rw [R_bad h, if_pos (T_bad h)]
  · rw [dateR_bad h6, dateT_bad h6, if_pos rfl]
end Go.Proofs.YtidmphcocnaonaaGreatDoor

/- Makers: Prose and Changed, in the layer: only sizes are told. -/
namespace Go.Proofs.YtidmphcocnaonaaGreatDoor
set_option linter.unusedVariables false
set_option linter.unusedSimpArgs false
set_option linter.defProp false


/- (*paperchase/chasemake.Stream).Changed -/
def ir_chasemake_Stream_Changed : IC :=
  (.seq (.reg [⟨some 6, .mov (.c (.str [])), none⟩])
    (.seq (.seq (.reg [⟨some 9, .mov (.t 1), none⟩,
      ⟨some 10, .bin .eql (.t 9) (.c (.str [])), none⟩,
      ⟨some 11, .mov (.t 10), none⟩,
      ⟨some 12, .mov (.t 2), (some (11, false))⟩,
      ⟨some 13, .bin .eql (.t 12) (.c (.str [])), (some (11, false))⟩,
      ⟨some 14, .pick (.t 11) (.c (.bool true)) (.t 13), none⟩])
    (.cond (.t 14) (.seq (.reg [⟨some 15, .mov (.t 2), none⟩,
      ⟨some 6, .mov (.t 15), none⟩])
    .ret) .skip))
    (.seq (.reg [⟨some 16, .mov (.t 0), none⟩,
      ⟨some 17, .mov (.t 1), none⟩,
      ⟨some 18, .sln (.t 17), none⟩,
      ⟨some 19, .call 58 [.t 16, .t 18], none⟩,
      ⟨some 7, .mov (.t 19), none⟩])
    (.seq (.reg [⟨some 20, .mov (.t 2), none⟩,
      ⟨some 21, .mov (.t 0), none⟩,
      ⟨some 22, .mov (.t 2), none⟩,
      ⟨some 23, .sln (.t 22), none⟩,
      ⟨some 24, .call 58 [.t 21, .t 23], none⟩,
      ⟨some 25, .idx (.t 20) (.t 24), none⟩,
      ⟨some 8, .mov (.t 25), none⟩])
    (.seq (.seq (.reg [⟨some 26, .mov (.t 0), none⟩,
      ⟨some 27, .call 58 [.t 26, .c (.int .i64 3)], none⟩])
    (.block 0 (.seq (.reg [⟨some 29, .bin .eql (.t 27) (.c (.int .i64 0)), none⟩,
      ⟨some 28, .mov (.t 29), none⟩])
    (.cond (.t 28) (.seq (.drg [⟨some 30, .mov (.t 1), none⟩,
      ⟨some 31, .mov (.t 7), none⟩,
      ⟨some 32, .ssl (.t 30) none (some (.t 31)), none⟩,
      ⟨some 33, .mov (.t 8), none⟩,
      ⟨some 34, .cvi .i32 (.t 33), none⟩,
      ⟨some 35, .cvs (.t 34), none⟩,
      ⟨some 36, .bin .add (.t 32) (.t 35), none⟩,
      ⟨some 37, .mov (.t 1), none⟩,
      ⟨some 38, .mov (.t 7), none⟩,
      ⟨some 39, .bin .add (.t 38) (.c (.int .i64 1)), none⟩,
      ⟨some 40, .ssl (.t 37) (some (.t 39)) none, none⟩,
      ⟨some 41, .bin .add (.t 36) (.t 40), none⟩,
      ⟨some 6, .mov (.t 41), none⟩])
    .ret) (.seq (.reg [⟨some 43, .bin .eql (.t 27) (.c (.int .i64 1)), none⟩,
      ⟨some 42, .mov (.t 43), none⟩])
    (.cond (.t 42) (.seq (.drg [⟨some 44, .mov (.t 1), none⟩,
      ⟨some 45, .mov (.t 7), none⟩,
      ⟨some 46, .ssl (.t 44) none (some (.t 45)), none⟩,
      ⟨some 47, .mov (.t 8), none⟩,
      ⟨some 48, .cvi .i32 (.t 47), none⟩,
      ⟨some 49, .cvs (.t 48), none⟩,
      ⟨some 50, .bin .add (.t 46) (.t 49), none⟩,
      ⟨some 51, .mov (.t 1), none⟩,
      ⟨some 52, .mov (.t 7), none⟩,
      ⟨some 53, .ssl (.t 51) (some (.t 52)) none, none⟩,
      ⟨some 54, .bin .add (.t 50) (.t 53), none⟩,
      ⟨some 6, .mov (.t 54), none⟩])
    .ret) .skip))))))
    (.seq (.drg [⟨some 55, .mov (.t 1), none⟩,
      ⟨some 56, .mov (.t 7), none⟩,
      ⟨some 57, .ssl (.t 55) none (some (.t 56)), none⟩,
      ⟨some 58, .mov (.t 1), none⟩,
      ⟨some 59, .mov (.t 7), none⟩,
      ⟨some 60, .bin .add (.t 59) (.c (.int .i64 1)), none⟩,
      ⟨some 61, .ssl (.t 58) (some (.t 60)) none, none⟩,
      ⟨some 62, .bin .add (.t 57) (.t 61), none⟩,
      ⟨some 6, .mov (.t 62), none⟩])
    .ret))))))
def rs_chasemake_Stream_Changed : List IRes := [.t 6]
theorem ck_chasemake_Stream_Changed : chkF Tryz.prog Tryz.f90 ir_chasemake_Stream_Changed rs_chasemake_Stream_Changed 63 = true := by kernel_rfl

section
variable {E : Envt}
theorem enc_le (c : Int) : (Utf8.encode c).data.toList.length ≤ 4 := by
  rw [Array.length_toList]
  exact encode_size_le c
theorem Changed_ok (l : List Int) (k : Nat) (s t : List UInt8) (hk : k ≤ 900000) (hl : l.length ≤ 9223372036854775807) (hs : s.length ≤ 1000000) (ht : t.length ≤ 1000000) :
    SCall Tryz.prog E 90 T (stm l k) [.str s, .str t] (fun x cs' => ∃ u k', x = .str u ∧ u.length ≤ s.length + t.length + 10 ∧ cs' = stm l k' ∧ k' ≤ k + 3) := by
  unfold SCall
  refine gcallP mixed Tryz.func90 ck_chasemake_Stream_Changed ?_
  simp only [a0, l0, OS.ao, List.map_cons, List.map_nil, List.length_cons, List.length_nil, List.cons_append, List.nil_append, Nat.reduceSub, Nat.reduceAdd, List.replicate_succ, List.replicate_zero, ir_chasemake_Stream_Changed, rs_chasemake_Stream_Changed, ZZ, YY, Ze, ite_true, ite_false, forall_const, reduceCtorEq, Nat.reduceAdd, Nat.reduceMul, Nat.reduceLeDiff, Nat.reduceLT, Nat.reduceEqDiff]
  ((repeat' (with_reducible apply And.intro)) <;> try ((first | first | assumption | trivial | exact (fun hq => by rw [hq]; rfl) | exact i64_of (by omega) (by omega) | omega | (simp; done) | (simp; omega) | (intro hsc; have hs0 := hsc; (try have hsd := of_decide_eq_true hsc); (try simp only [Bool.not_eq_true', Bool.or_eq_false_iff, Bool.and_eq_true, Bool.or_eq_true, decide_eq_true_eq, decide_eq_false_iff_not] at hsc); (repeat' (with_reducible apply And.intro)) <;> (first | assumption | trivial | exact (fun hq => by rw [hq]; rfl) | exact i64_of (by omega) (by omega) | omega | (simp; done) | (simp; omega) | (intro hse; simp [hse, hs0]; done) | (intro hse; simp only [hse, hs0, Bool.true_and, Bool.and_true, Bool.not_false, Bool.not_true, Bool.and_self]; done))))))
  refine br ?_ ?_
  · intro _
    simp only [ZZ, YY, Ze, ite_true, ite_false, forall_const, reduceCtorEq, Nat.reduceAdd, Nat.reduceMul, Nat.reduceLeDiff, Nat.reduceLT, Nat.reduceEqDiff]
    exact fin_S (stm l k) rfl ⟨t, _, rfl, by omega, rfl, by omega⟩
  · intro h
    simp only [Bool.or_eq_false_iff, decide_eq_false_iff_not] at h
    have hs0 : 0 < s.length := List.length_pos_iff.2 h.1
    have ht0 : 0 < t.length := List.length_pos_iff.2 h.2
    simp only [ZZ, YY, Ze, ite_true, ite_false, forall_const, reduceCtorEq, Nat.reduceAdd, Nat.reduceMul, Nat.reduceLeDiff, Nat.reduceLT, Nat.reduceEqDiff]
    refine useS (Next_ok l k _ (by omega) hl (by omega)) rfl rfl rfl (by simp only [ZZ, YY, Ze, ite_true, ite_false, forall_const, reduceCtorEq, Nat.reduceAdd, Nat.reduceMul, Nat.reduceLeDiff, Nat.reduceLT, Nat.reduceEqDiff]) ?_
    rintro x cs' ⟨y, rfl, rfl⟩
    obtain ⟨i, hi, hy⟩ := below_idx y s.length hs0
    rw [hy]
    simp only [ZZ, YY, Ze, ite_true, ite_false, forall_const, reduceCtorEq, Nat.reduceAdd, Nat.reduceMul, Nat.reduceLeDiff, Nat.reduceLT, Nat.reduceEqDiff]
    refine useS (Next_ok l (k + 1) _ (by omega) hl (by omega)) rfl rfl rfl (by simp only [ZZ, YY, Ze, ite_true, ite_false, forall_const, reduceCtorEq, Nat.reduceAdd, Nat.reduceMul, Nat.reduceLeDiff, Nat.reduceLT, Nat.reduceEqDiff]) ?_
    rintro x cs' ⟨y2, rfl, rfl⟩
    obtain ⟨j, hj, hy2⟩ := below_idx y2 t.length ht0
    rw [hy2]
    simp only [ZZ, YY, Ze, ite_true, ite_false, forall_const, reduceCtorEq, Nat.reduceAdd, Nat.reduceMul, Nat.reduceLeDiff, Nat.reduceLT, Nat.reduceEqDiff]
    ((repeat' (with_reducible apply And.intro)) <;> try ((first | first | assumption | trivial | exact (fun hq => by rw [hq]; rfl) | exact i64_of (by omega) (by omega) | omega | (simp; done) | (simp; omega) | (intro hsc; have hs0 := hsc; (try have hsd := of_decide_eq_true hsc); (try simp only [Bool.not_eq_true', Bool.or_eq_false_iff, Bool.and_eq_true, Bool.or_eq_true, decide_eq_true_eq, decide_eq_false_iff_not] at hsc); (repeat' (with_reducible apply And.intro)) <;> (first | assumption | trivial | exact (fun hq => by rw [hq]; rfl) | exact i64_of (by omega) (by omega) | omega | (simp; done) | (simp; omega) | (intro hse; simp [hse, hs0]; done) | (intro hse; simp only [hse, hs0, Bool.true_and, Bool.and_true, Bool.not_false, Bool.not_true, Bool.and_self]; done))))))
    refine useS (Next_ok l (k + 1 + 1) _ (by omega) hl (by decide)) rfl rfl rfl (by simp only [ZZ, YY, Ze, ite_true, ite_false, forall_const, reduceCtorEq, Nat.reduceAdd, Nat.reduceMul, Nat.reduceLeDiff, Nat.reduceLT, Nat.reduceEqDiff]) ?_
    rintro x cs' ⟨y3, rfl, rfl⟩
    have hE4 := enc_le (IntKind.i32.wrap (((t.getD j 0).toNat : Nat) : Int))
    have l1 : (s.take i).length ≤ s.length := by simp; omega
    have l2 : ∀ q, (s.drop q).length ≤ s.length := by intro q; simp
    generalize below y3 3 = z at *
    simp only [ZZ, YY, Ze, ite_true, ite_false, forall_const, reduceCtorEq, Nat.reduceAdd, Nat.reduceMul, Nat.reduceLeDiff, Nat.reduceLT, Nat.reduceEqDiff]
    refine br ?_ ?_
    · intro _
      simp only [ZZ, YY, Ze, ite_true, ite_false, forall_const, reduceCtorEq, Nat.reduceAdd, Nat.reduceMul, Nat.reduceLeDiff, Nat.reduceLT, Nat.reduceEqDiff]
      refine drg0 ?_
      simp only [ZZ, YY, Ze, ite_true, ite_false, forall_const, reduceCtorEq, Nat.reduceAdd, Nat.reduceMul, Nat.reduceLeDiff, Nat.reduceLT, Nat.reduceEqDiff]
      ((repeat' (with_reducible apply And.intro)) <;> try ((first | first | assumption | trivial | exact (fun hq => by rw [hq]; rfl) | exact i64_of (by omega) (by omega) | omega | (simp; done) | (simp; omega) | (intro hsc; have hs0 := hsc; (try have hsd := of_decide_eq_true hsc); (try simp only [Bool.not_eq_true', Bool.or_eq_false_iff, Bool.and_eq_true, Bool.or_eq_true, decide_eq_true_eq, decide_eq_false_iff_not] at hsc); (repeat' (with_reducible apply And.intro)) <;> (first | assumption | trivial | exact (fun hq => by rw [hq]; rfl) | exact i64_of (by omega) (by omega) | omega | (simp; done) | (simp; omega) | (intro hse; simp [hse, hs0]; done) | (intro hse; simp only [hse, hs0, Bool.true_and, Bool.and_true, Bool.not_false, Bool.not_true, Bool.and_self]; done))))))
      all_goals first
        | exact fin_S (stm l (k + 1 + 1 + 1)) rfl ⟨_, _, rfl, by simp only [List.length_append, List.length_drop, List.length_take]; omega, rfl, by omega⟩
        | (simp only [List.length_append, List.length_drop, List.length_take]; omega)
    · intro _
      simp only [ZZ, YY, Ze, ite_true, ite_false, forall_const, reduceCtorEq, Nat.reduceAdd, Nat.reduceMul, Nat.reduceLeDiff, Nat.reduceLT, Nat.reduceEqDiff]
      refine br ?_ ?_
      · intro _
        simp only [ZZ, YY, Ze, ite_true, ite_false, forall_const, reduceCtorEq, Nat.reduceAdd, Nat.reduceMul, Nat.reduceLeDiff, Nat.reduceLT, Nat.reduceEqDiff]
        refine drg0 ?_
        simp only [ZZ, YY, Ze, ite_true, ite_false, forall_const, reduceCtorEq, Nat.reduceAdd, Nat.reduceMul, Nat.reduceLeDiff, Nat.reduceLT, Nat.reduceEqDiff]
        ((repeat' (with_reducible apply And.intro)) <;> try ((first | first | assumption | trivial | exact (fun hq => by rw [hq]; rfl) | exact i64_of (by omega) (by omega) | omega | (simp; done) | (simp; omega) | (intro hsc; have hs0 := hsc; (try have hsd := of_decide_eq_true hsc); (try simp only [Bool.not_eq_true', Bool.or_eq_false_iff, Bool.and_eq_true, Bool.or_eq_true, decide_eq_true_eq, decide_eq_false_iff_not] at hsc); (repeat' (with_reducible apply And.intro)) <;> (first | assumption | trivial | exact (fun hq => by rw [hq]; rfl) | exact i64_of (by omega) (by omega) | omega | (simp; done) | (simp; omega) | (intro hse; simp [hse, hs0]; done) | (intro hse; simp only [hse, hs0, Bool.true_and, Bool.and_true, Bool.not_false, Bool.not_true, Bool.and_self]; done))))))
        all_goals first
          | exact fin_S (stm l (k + 1 + 1 + 1)) rfl ⟨_, _, rfl, by simp only [List.length_append, List.length_drop, List.length_take]; omega, rfl, by omega⟩
          | (simp only [List.length_append, List.length_drop, List.length_take]; omega)
      · intro _
        simp only [ZZ, YY, Ze, ite_true, ite_false, forall_const, reduceCtorEq, Nat.reduceAdd, Nat.reduceMul, Nat.reduceLeDiff, Nat.reduceLT, Nat.reduceEqDiff]
        refine drg0 ?_
        simp only [ZZ, YY, Ze, ite_true, ite_false, forall_const, reduceCtorEq, Nat.reduceAdd, Nat.reduceMul, Nat.reduceLeDiff, Nat.reduceLT, Nat.reduceEqDiff]
        ((repeat' (with_reducible apply And.intro)) <;> try ((first | first | assumption | trivial | exact (fun hq => by rw [hq]; rfl) | exact i64_of (by omega) (by omega) | omega | (simp; done) | (simp; omega) | (intro hsc; have hs0 := hsc; (try have hsd := of_decide_eq_true hsc); (try simp only [Bool.not_eq_true', Bool.or_eq_false_iff, Bool.and_eq_true, Bool.or_eq_true, decide_eq_true_eq, decide_eq_false_iff_not] at hsc); (repeat' (with_reducible apply And.intro)) <;> (first | assumption | trivial | exact (fun hq => by rw [hq]; rfl) | exact i64_of (by omega) (by omega) | omega | (simp; done) | (simp; omega) | (intro hse; simp [hse, hs0]; done) | (intro hse; simp only [hse, hs0, Bool.true_and, Bool.and_true, Bool.not_false, Bool.not_true, Bool.and_self]; done))))))
        all_goals first
          | exact fin_S (stm l (k + 1 + 1 + 1)) rfl ⟨_, _, rfl, by simp only [List.length_append, List.length_drop, List.length_take]; omega, rfl, by omega⟩
          | (simp only [List.length_append, List.length_drop, List.length_take]; omega)
end
end Go.Proofs.YtidmphcocnaonaaGreatDoor
