
/- Own texts, put together: B8 B9 B10 B12 B13 C1. -/
import Derived.Test.YtndjmidmfmcbkaaDoorM4
import Derived.Test.YtndjmidmfmcbkaaDoorM3
import Derived.Test.YtndjmidmfmcbkaaDoorLayValid
import Derived.Test.YtndjmidmfmcbkaaDoorLayIndex
import Derived.Test.YtndjmidmfmcbkaaDoorRep
import Derived.Test.YtndjmidmfmcbkaaDoorLayIndexByte
/- Spans: put joins sorted spans to right ones (plain). -/
namespace Go.Proofs.YtndjmidmfmcbkaaDoor
set_option linter.unusedVariables false
set_option linter.unusedSimpArgs false
set_option linter.defProp false

structure InP (l out : List (Int × Int)) : Prop where
  right : Right out
  src : ∀ t ∈ out, (∃ u ∈ l, t.1 = u.1) ∧ ∃ u ∈ l, t.2 = u.2
  cov : ∀ j, cv out j ↔ cv l j
end Go.Proofs.YtndjmidmfmcbkaaDoor

/- Spans: put, if the sort is as it should be. -/
namespace Go.Proofs.YtndjmidmfmcbkaaDoor
set_option linter.unusedVariables false
set_option linter.unusedSimpArgs false
set_option linter.defProp false



section
variable {E : Envt}
end
end Go.Proofs.YtndjmidmfmcbkaaDoor

/- Spans: slices.Grow at nil and slices.Concat, the sort's order, Union. -/
namespace Go.Proofs.YtndjmidmfmcbkaaDoor
set_option linter.unusedVariables false
set_option linter.unusedSimpArgs false
set_option linter.defProp false



section
variable {E : Envt}
end
end Go.Proofs.YtndjmidmfmcbkaaDoor

/- The library's variables that the functions read; forms of strings; texts. -/
namespace Go.Proofs.YtndjmidmfmcbkaaDoor
open Go.RowKit
set_option linter.unusedVariables false
set_option linter.unusedSimpArgs false
set_option linter.defProp false

def E0 : Envt where
  ok w := Lib.Utf8Tabs 0 1 w ∧ ∃ m : Int, w.cell? ⟨2, 0, none⟩ = some (.int .i64 m)
  bl b := b = 0 ∨ b = 1 ∨ b = 2
  mono w w' hb h := by
    obtain ⟨⟨h1, h2⟩, m, h3⟩ := h
    have e1 := hb _ (.inl rfl)
    have e2 := hb _ (.inr (.inl rfl))
    have e3 := hb _ (.inr (.inr rfl))
    exact ⟨⟨fun c hc => (World.cell?_of_block (w := w) e1).trans (h1 c hc), fun i hi => ⟨(World.cell?_of_block (w := w) e2).trans (h2 i hi).1, (World.cell?_of_block (w := w) e2).trans (h2 i hi).2⟩⟩, m, (World.cell?_of_block (w := w) e3).trans h3⟩

theorem Valid_ok (s : List UInt8) (hs : s.length ≤ 1000000000000) : PCall Tryd.prog E0 45 [.str s] (· = .bool (Lib.validD s)) :=
  pcall_flat rfl rfl fun w hE => (Any.utf8_ValidString Tryd.layValid ⟨s.toArray⟩ w (by simp [ByteArray.size]; omega) hE.1).mono fun e w' h => ⟨by rw [h.1]; rfl, grow_below h.2⟩

/- internal/stringslite.HasSuffix -/
def ir_internal_stringslite_HasSuffix : IC :=
  (.seq (.reg [⟨some 4, .mov (.c (.bool false)), none⟩])
    (.seq (.reg [⟨some 5, .mov (.t 0), none⟩,
      ⟨some 6, .sln (.t 5), none⟩,
      ⟨some 7, .mov (.t 1), none⟩,
      ⟨some 8, .sln (.t 7), none⟩,
      ⟨some 9, .bin .geq (.t 6) (.t 8), none⟩,
      ⟨some 10, .mov (.t 9), none⟩,
      ⟨some 11, .mov (.t 0), (some (10, true))⟩,
      ⟨some 12, .mov (.t 0), (some (10, true))⟩,
      ⟨some 13, .sln (.t 12), (some (10, true))⟩,
      ⟨some 14, .mov (.t 1), (some (10, true))⟩,
      ⟨some 15, .sln (.t 14), (some (10, true))⟩,
      ⟨some 16, .bin .sub (.t 13) (.t 15), (some (10, true))⟩,
      ⟨some 17, .ssl (.t 11) (some (.t 16)) none, (some (10, true))⟩,
      ⟨some 18, .mov (.t 1), (some (10, true))⟩,
      ⟨some 19, .bin .eql (.t 17) (.t 18), (some (10, true))⟩,
      ⟨some 20, .pick (.t 10) (.t 19) (.c (.bool false)), none⟩,
      ⟨some 4, .mov (.t 20), none⟩])
    .ret))
def rs_internal_stringslite_HasSuffix : List IRes := [.t 4]
theorem ck_internal_stringslite_HasSuffix : chkF Tryd.prog Tryd.f128 ir_internal_stringslite_HasSuffix rs_internal_stringslite_HasSuffix 21 = true := by kernel_rfl
/- strings.HasSuffix -/
def ir_strings_HasSuffix : IC :=
  (.seq (.reg [⟨some 4, .mov (.c (.bool false)), none⟩])
    (.seq (.reg [⟨some 5, .mov (.t 0), none⟩,
      ⟨some 6, .mov (.t 1), none⟩,
      ⟨some 7, .call 128 [.t 5, .t 6], none⟩,
      ⟨some 4, .mov (.t 7), none⟩])
    .ret))
def rs_strings_HasSuffix : List IRes := [.t 4]
theorem ck_strings_HasSuffix : chkF Tryd.prog Tryd.f168 ir_strings_HasSuffix rs_strings_HasSuffix 8 = true := by kernel_rfl
/- paperchase/privilege.large -/
def ir_privilege_large : IC :=
  (.seq (.reg [⟨some 2, .mov (.c (.int .i64 0)), none⟩])
    (.seq (.reg [⟨some 3, .mov (.t 0), none⟩,
      ⟨some 4, .sln (.t 3), none⟩,
      ⟨some 5, .bin .gtr (.t 4) (.c (.int .i64 20000)), none⟩,
      ⟨some 6, .call 49 [.t 5, .c (.int .i64 2)], none⟩,
      ⟨some 2, .mov (.t 6), none⟩])
    .ret))
def rs_privilege_large : List IRes := [.t 2]
theorem ck_privilege_large : chkF Tryd.prog Tryd.f50 ir_privilege_large rs_privilege_large 7 = true := by kernel_rfl
/- paperchase/base.Visible -/
def ir_base_Visible_L0 : IC :=
  (.seq (.reg [⟨some 10, .bin .lss (.t 9) (.t 8), none⟩])
    (.seq (.cond (.t 10) .skip (.exit 0))
    (.seq (.block 1 (.seq (.reg [⟨some 11, .mov (.t 9), none⟩,
      ⟨some 5, .mov (.t 11), none⟩])
    (.seq (.reg [⟨some 12, .mov (.t 0), none⟩,
      ⟨some 13, .mov (.t 5), none⟩,
      ⟨some 14, .idx (.t 12) (.t 13), none⟩,
      ⟨some 6, .mov (.t 14), none⟩])
    (.seq (.reg [⟨some 15, .mov (.t 6), none⟩,
      ⟨some 16, .bin .lss (.t 15) (.c (.int .u8 32)), none⟩,
      ⟨some 17, .mov (.t 16), none⟩,
      ⟨some 18, .mov (.t 1), (some (17, true))⟩,
      ⟨some 19, .mov (.t 18), (some (17, true))⟩,
      ⟨some 20, .mov (.t 6), (some (19, true))⟩,
      ⟨some 21, .bin .eql (.t 20) (.c (.int .u8 10)), (some (19, true))⟩,
      ⟨some 22, .pick (.t 19) (.t 21) (.c (.bool false)), (some (17, true))⟩,
      ⟨some 23, .not (.t 22), (some (17, true))⟩,
      ⟨some 24, .pick (.t 17) (.t 23) (.c (.bool false)), none⟩,
      ⟨some 25, .mov (.t 24), none⟩,
      ⟨some 26, .mov (.t 6), (some (25, false))⟩,
      ⟨some 27, .bin .eql (.t 26) (.c (.int .u8 127)), (some (25, false))⟩,
      ⟨some 28, .pick (.t 25) (.c (.bool true)) (.t 27), none⟩])
    (.cond (.t 28) (.seq (.reg [⟨some 4, .mov (.c (.bool false)), none⟩])
    .ret) .skip)))))
    (.reg [⟨some 29, .bin .add (.t 9) (.c (.int .i64 1)), none⟩,
      ⟨some 9, .mov (.t 29), none⟩]))))
def ir_base_Visible : IC :=
  (.seq (.reg [⟨some 4, .mov (.c (.bool false)), none⟩])
    (.seq (.seq (.reg [⟨some 7, .mov (.t 0), none⟩,
      ⟨some 8, .sln (.t 7), none⟩,
      ⟨some 9, .mov (.c (.int .i64 0)), none⟩])
    (.block 0 (.loop ir_base_Visible_L0)))
    (.seq (.reg [⟨some 30, .mov (.t 0), none⟩,
      ⟨some 31, .call 45 [.t 30], none⟩,
      ⟨some 4, .mov (.t 31), none⟩])
    .ret)))
def rs_base_Visible : List IRes := [.t 4]
theorem ck_base_Visible : chkF Tryd.prog Tryd.f160 ir_base_Visible rs_base_Visible 32 = true := by kernel_rfl
/- paperchase/base.Text -/
def ir_base_Text : IC :=
  (.seq (.reg [⟨some 2, .mov (.c (.bool false)), none⟩])
    (.seq (.reg [⟨some 3, .mov (.t 0), none⟩,
      ⟨some 4, .call 160 [.t 3, .c (.bool true)], none⟩,
      ⟨some 5, .mov (.t 4), none⟩,
      ⟨some 6, .mov (.t 0), (some (5, true))⟩,
      ⟨some 7, .bin .eql (.t 6) (.c (.str [])), (some (5, true))⟩,
      ⟨some 8, .mov (.t 7), (some (5, true))⟩,
      ⟨some 9, .mov (.t 0), (some (8, false))⟩,
      ⟨some 10, .call 168 [.t 9, .c (.str [10])], (some (8, false))⟩,
      ⟨some 11, .pick (.t 8) (.c (.bool true)) (.t 10), (some (5, true))⟩,
      ⟨some 12, .pick (.t 5) (.t 11) (.c (.bool false)), none⟩,
      ⟨some 2, .mov (.t 12), none⟩])
    .ret))
def rs_base_Text : List IRes := [.t 2]
theorem ck_base_Text : chkF Tryd.prog Tryd.f136 ir_base_Text rs_base_Text 13 = true := by kernel_rfl
/- paperchase/privilege.textError -/
def ir_privilege_textError : IC :=
  (.seq (.reg [⟨some 4, .mov (.c (.int .i64 0)), none⟩])
    (.seq (.reg [⟨some 5, .mov (.t 0), none⟩,
      ⟨some 6, .call 50 [.t 5], none⟩,
      ⟨some 7, .mov (.t 0), none⟩,
      ⟨some 8, .call 136 [.t 7], none⟩,
      ⟨some 9, .not (.t 8), none⟩,
      ⟨some 10, .call 49 [.t 9, .c (.int .i64 3)], none⟩,
      ⟨some 11, .mov (.t 1), none⟩,
      ⟨some 12, .mov (.t 0), none⟩,
      ⟨some 13, .sln (.t 12), none⟩,
      ⟨some 14, .call 137 [.t 11, .t 13], none⟩,
      ⟨some 15, .bsl 1 [.t 6, .t 10, .t 14], none⟩,
      ⟨some 16, .call 48 [.t 15], none⟩,
      ⟨some 4, .mov (.t 16), none⟩])
    .ret))
def rs_privilege_textError : List IRes := [.t 4]
theorem ck_privilege_textError : chkF Tryd.prog Tryd.f96 ir_privilege_textError rs_privilege_textError 17 = true := by kernel_rfl
/- paperchase/privilege.inside -/
def ir_privilege_inside : IC :=
  (.seq (.reg [⟨some 4, .mov (.c (.bool false)), none⟩])
    (.seq (.reg [⟨some 5, .mov (.t 1), none⟩,
      ⟨some 6, .mov (.t 0), none⟩,
      ⟨some 7, .sln (.t 6), none⟩,
      ⟨some 8, .bin .lss (.t 5) (.t 7), none⟩,
      ⟨some 9, .mov (.t 8), none⟩,
      ⟨some 10, .mov (.t 0), (some (9, true))⟩,
      ⟨some 11, .mov (.t 1), (some (9, true))⟩,
      ⟨some 12, .idx (.t 10) (.t 11), (some (9, true))⟩,
      ⟨some 13, .bin .shr (.t 12) (.c (.int .u64 6)), (some (9, true))⟩,
      ⟨some 14, .bin .eql (.t 13) (.c (.int .u8 2)), (some (9, true))⟩,
      ⟨some 15, .pick (.t 9) (.t 14) (.c (.bool false)), none⟩,
      ⟨some 4, .mov (.t 15), none⟩])
    .ret))
def rs_privilege_inside : List IRes := [.t 4]
theorem ck_privilege_inside : chkF Tryd.prog Tryd.f138 ir_privilege_inside rs_privilege_inside 16 = true := by kernel_rfl
/- paperchase/privilege.points -/
def ir_privilege_points_L2 : IC :=
  (.seq (.seq (.reg [⟨some 27, .mov (.t 0), none⟩,
      ⟨some 28, .fla 1 (.t 7), none⟩,
      ⟨some 29, .ld 1 false (.t 28), none⟩,
      ⟨some 30, .call 138 [.t 27, .t 29], none⟩])
    (.cond (.t 30) .skip (.exit 4)))
    (.block 5 (.reg [⟨some 31, .fla 1 (.t 7), none⟩,
      ⟨some 32, .ld 1 false (.t 31), none⟩,
      ⟨some 33, .bin .add (.t 32) (.c (.int .i64 1)), none⟩,
      ⟨some 34, .fla 1 (.t 7), none⟩,
      ⟨none, .st 1 (.t 34) (.t 33), none⟩])))
def ir_privilege_points_L1 : IC :=
  (.seq (.seq (.reg [⟨some 14, .fla 0 (.t 7), none⟩,
      ⟨some 15, .ld 1 false (.t 14), none⟩,
      ⟨some 16, .bin .gtr (.t 15) (.c (.int .i64 0)), none⟩,
      ⟨some 17, .mov (.t 16), none⟩,
      ⟨some 18, .mov (.t 0), (some (17, true))⟩,
      ⟨some 19, .fla 0 (.t 7), (some (17, true))⟩,
      ⟨some 20, .ld 1 false (.t 19), (some (17, true))⟩,
      ⟨some 21, .call 138 [.t 18, .t 20], (some (17, true))⟩,
      ⟨some 22, .pick (.t 17) (.t 21) (.c (.bool false)), none⟩])
    (.cond (.t 22) .skip (.exit 2)))
    (.block 3 (.reg [⟨some 23, .fla 0 (.t 7), none⟩,
      ⟨some 24, .ld 1 false (.t 23), none⟩,
      ⟨some 25, .bin .sub (.t 24) (.c (.int .i64 1)), none⟩,
      ⟨some 26, .fla 0 (.t 7), none⟩,
      ⟨none, .st 1 (.t 26) (.t 25), none⟩])))
def ir_privilege_points_L0 : IC :=
  (.seq (.reg [⟨some 11, .bin .lss (.t 10) (.t 9), none⟩])
    (.seq (.cond (.t 11) .skip (.exit 0))
    (.seq (.block 1 (.seq (.reg [⟨some 12, .ixa 2 (.t 8) (.t 10), none⟩,
      ⟨some 13, .ld 2 true (.t 12), none⟩,
      ⟨some 7, .alc 77 [.int .i64 0, .int .i64 0], none⟩,
      ⟨none, .st 2 (.t 7) (.t 13), none⟩])
    (.seq (.block 2 (.loop ir_privilege_points_L1))
    (.seq (.block 4 (.loop ir_privilege_points_L2))
    (.reg [⟨some 35, .mov (.t 5), none⟩,
      ⟨some 36, .ld 2 true (.t 7), none⟩,
      ⟨some 37, .bsl 2 [.t 36], none⟩,
      ⟨some 38, .app 77 2 16 (.t 35) (.t 37), none⟩,
      ⟨some 5, .mov (.t 38), none⟩])))))
    (.reg [⟨some 39, .bin .add (.t 10) (.c (.int .i64 1)), none⟩,
      ⟨some 10, .mov (.t 39), none⟩]))))
def ir_privilege_points : IC :=
  (.seq (.reg [⟨some 4, .mov (.c (.nl 2)), none⟩])
    (.seq (.reg [⟨some 5, .nilr 77 2, none⟩])
    (.seq (.seq (.reg [⟨some 8, .mov (.t 1), none⟩,
      ⟨some 9, .len (.t 8), none⟩,
      ⟨some 10, .mov (.c (.int .i64 0)), none⟩])
    (.block 0 (.loop ir_privilege_points_L0)))
    (.seq (.reg [⟨some 40, .mov (.t 5), none⟩,
      ⟨some 4, .mov (.t 40), none⟩])
    .ret))))
def rs_privilege_points : List IRes := [.t 4]
theorem ck_privilege_points : chkF Tryd.prog Tryd.f97 ir_privilege_points rs_privilege_points 41 = true := by kernel_rfl
/- paperchase/privilege.Redact -/
def ir_privilege_Redact_L1 : IC :=
  (.seq (.seq (.reg [⟨some 29, .mov (.t 10), none⟩,
      ⟨some 30, .fla 1 (.t 9), none⟩,
      ⟨some 31, .ld 1 false (.t 30), none⟩,
      ⟨some 32, .bin .lss (.t 29) (.t 31), none⟩])
    (.cond (.t 32) .skip (.exit 2)))
    (.seq (.block 3 (.seq (.reg [⟨some 35, .mov (.t 7), none⟩,
      ⟨some 36, .mov (.t 10), none⟩,
      ⟨some 37, .ixa 1 (.t 35) (.t 36), none⟩,
      ⟨some 38, .ld 1 false (.t 37), none⟩,
      ⟨some 39, .bin .neq (.t 38) (.c (.int .u8 32)), none⟩,
      ⟨some 40, .mov (.t 39), none⟩,
      ⟨some 41, .mov (.t 7), (some (40, true))⟩,
      ⟨some 42, .mov (.t 10), (some (40, true))⟩,
      ⟨some 43, .ixa 1 (.t 41) (.t 42), (some (40, true))⟩,
      ⟨some 44, .ld 1 false (.t 43), (some (40, true))⟩,
      ⟨some 45, .bin .neq (.t 44) (.c (.int .u8 10)), (some (40, true))⟩,
      ⟨some 46, .pick (.t 40) (.t 45) (.c (.bool false)), none⟩])
    (.cond (.t 46) (.reg [⟨some 47, .mov (.t 7), none⟩,
      ⟨some 48, .mov (.t 10), none⟩,
      ⟨some 49, .ixa 1 (.t 47) (.t 48), none⟩,
      ⟨none, .st 1 (.t 49) (.c (.int .u8 35)), none⟩]) .skip)))
    (.cut (.reg [⟨some 33, .mov (.t 10), none⟩,
      ⟨some 34, .bin .add (.t 33) (.c (.int .i64 1)), none⟩,
      ⟨some 10, .mov (.t 34), none⟩]))))
def ir_privilege_Redact_L0 : IC :=
  (.seq (.reg [⟨some 24, .bin .lss (.t 23) (.t 22), none⟩])
    (.seq (.cond (.t 24) .skip (.exit 0))
    (.seq (.block 1 (.seq (.reg [⟨some 25, .ixa 2 (.t 21) (.t 23), none⟩,
      ⟨some 26, .ld 2 true (.t 25), none⟩,
      ⟨some 9, .alc 77 [.int .i64 0, .int .i64 0], none⟩,
      ⟨none, .st 2 (.t 9) (.t 26), none⟩])
    (.seq (.reg [⟨some 27, .fla 0 (.t 9), none⟩,
      ⟨some 28, .ld 1 false (.t 27), none⟩,
      ⟨some 10, .mov (.t 28), none⟩])
    (.block 2 (.loop ir_privilege_Redact_L1)))))
    (.reg [⟨some 50, .bin .add (.t 23) (.c (.int .i64 1)), none⟩,
      ⟨some 23, .mov (.t 50), none⟩]))))
def ir_privilege_Redact : IC :=
  (.seq (.reg [⟨some 4, .mov (.c (.str [])), none⟩,
      ⟨some 5, .mov (.c (.int .i64 0)), none⟩])
    (.seq (.seq (.reg [⟨some 11, .mov (.t 0), none⟩,
      ⟨some 12, .mov (.t 1), none⟩,
      ⟨some 13, .call 96 [.t 11, .t 12], none⟩,
      ⟨some 6, .mov (.t 13), none⟩])
    (.seq (.reg [⟨some 14, .mov (.t 6), none⟩,
      ⟨some 15, .bin .neq (.t 14) (.c (.int .i64 0)), none⟩])
    (.cond (.t 15) (.seq (.reg [⟨some 16, .mov (.t 6), none⟩,
      ⟨some 4, .mov (.c (.str [])), none⟩,
      ⟨some 5, .mov (.t 16), none⟩])
    .ret) .skip)))
    (.seq (.reg [⟨some 17, .mov (.t 0), none⟩,
      ⟨some 18, .s2b 5 (.t 17), none⟩,
      ⟨some 7, .mov (.t 18), none⟩])
    (.seq (.seq (.reg [⟨some 19, .mov (.t 0), none⟩,
      ⟨some 20, .mov (.t 1), none⟩,
      ⟨some 21, .call 97 [.t 19, .t 20], none⟩,
      ⟨some 22, .len (.t 21), none⟩,
      ⟨some 23, .mov (.c (.int .i64 0)), none⟩])
    (.block 0 (.loop ir_privilege_Redact_L0)))
    (.seq (.reg [⟨some 51, .mov (.t 7), none⟩,
      ⟨some 52, .b2s (.t 51), none⟩,
      ⟨some 4, .mov (.t 52), none⟩,
      ⟨some 5, .mov (.c (.int .i64 0)), none⟩])
    .ret)))))
def rs_privilege_Redact : List IRes := [.t 4, .t 5]
theorem ck_privilege_Redact : chkF Tryd.prog Tryd.f52 ir_privilege_Redact rs_privilege_Redact 53 = true := by kernel_rfl
/- paperchase/chaselaw1.privileges -/
def ir_chaselaw1_privileges : IC :=
  (.seq (.reg [⟨some 0, .mov (.c (.bool false)), none⟩])
    (.seq (.reg [⟨some 4, .bld [.int .i64 0, .int .i64 0] [(0, 1, .c (.int .i64 0)), (1, 1, .c (.int .i64 1))], none⟩,
      ⟨some 5, .bsl 2 [.t 4], none⟩,
      ⟨some 6, .call 52 [.c (.str [97, 98, 10]), .t 5], none⟩,
      ⟨some 3, .mov (.t 6), none⟩,
      ⟨some 7, .ext 0 (.t 3), none⟩,
      ⟨some 8, .ext 1 (.t 3), none⟩,
      ⟨some 1, .mov (.t 7), none⟩,
      ⟨some 2, .mov (.t 8), none⟩])
    (.seq (.reg [⟨some 9, .mov (.t 2), none⟩,
      ⟨some 10, .bin .eql (.t 9) (.c (.int .i64 0)), none⟩,
      ⟨some 11, .mov (.t 10), none⟩,
      ⟨some 12, .mov (.t 1), (some (11, true))⟩,
      ⟨some 13, .bin .eql (.t 12) (.c (.str [35, 98, 10])), (some (11, true))⟩,
      ⟨some 14, .pick (.t 11) (.t 13) (.c (.bool false)), none⟩,
      ⟨some 0, .mov (.t 14), none⟩])
    .ret)))
def rs_chaselaw1_privileges : List IRes := [.t 0]
theorem ck_chaselaw1_privileges : chkF Tryd.prog Tryd.f12 ir_chaselaw1_privileges rs_chaselaw1_privileges 15 = true := by kernel_rfl


section
variable {E : Envt}
def sufE (s t : List UInt8) : Bool := decide ((t.length : Int) ≤ s.length) && decide (s.drop (s.length - t.length) = t)
theorem sHasSuffix_ok (s t : List UInt8) (hs : s.length ≤ 1000000000000) : PCall Tryd.prog E 128 [.str s, .str t] (· = .bool (sufE s t)) := by
  refine pcallF mixed Tryd.func128 ck_internal_stringslite_HasSuffix ?_
  simp only [a0, l0, OS.ao, List.map_cons, List.map_nil, List.length_cons, List.length_nil, List.cons_append, List.nil_append, Nat.reduceSub, Nat.reduceAdd, List.replicate_succ, List.replicate_zero, ir_internal_stringslite_HasSuffix, rs_internal_stringslite_HasSuffix, ZZ, IsnK_some, Za, Zb, Zc, Zd, Ze, Zf, Zg, Zh, rd, AV.un, AV.unA, AV.ad, Zi, Zj, Zk, Zl, Zm, Zn, Zo, Zp, Zq, Zr, Zs, Zt, Zu, Zv, Zw, Zx, Zy, Zz, Zaa, Zab, Zac, Zad, Zae, Zaf, Zag, Zah, Zai, Zaj, Zak, Zal, Zam, Zan, wk1, wk, Zao, Zap, Zaq, Zar, Zas, Zat, Zau, Zav, AV.kill, AO.kill, AV.thaw, AO.thaw, Zaw, Zax, Zay, Zaz, Zba, Zbb, Zbc, Zbd, Zbe, ite_true, ite_false, reduceCtorEq, Nat.reduceAdd, Nat.reduceMul, Nat.reduceLeDiff, Nat.reduceLT, Nat.reduceEqDiff, forall_const]
  ((repeat' (with_reducible apply And.intro)) <;> try ((first | first | assumption | trivial | exact (fun hq => by rw [hq]; rfl) | exact i64_of (by omega) (by omega) | omega | (simp; done) | (simp; omega) | (intro hsc; have hs0 := hsc; (try have hsd := of_decide_eq_true hsc); (try simp only [Bool.not_eq_true', Bool.or_eq_false_iff, Bool.and_eq_true, Bool.or_eq_true, decide_eq_true_eq, decide_eq_false_iff_not] at hsc); (repeat' (with_reducible apply And.intro)) <;> (first | assumption | trivial | exact (fun hq => by rw [hq]; rfl) | exact i64_of (by omega) (by omega) | omega | (simp; done) | (simp; omega) | (intro hse; simp [hse, hs0]; done) | (intro hse; simp only [hse, hs0, Bool.true_and, Bool.and_true, Bool.not_false, Bool.not_true, Bool.and_self]; done))))))
  rw [show ((s.length : Int) - t.length).toNat = s.length - t.length from by omega, List.take_length]
  rfl
theorem HasSuffix_ok (s t : List UInt8) (hs : s.length ≤ 1000000000000) : PCall Tryd.prog E 168 [.str s, .str t] (· = .bool (sufE s t)) := by
  refine pcallF mixed Tryd.func168 ck_strings_HasSuffix ?_
  simp only [a0, l0, OS.ao, List.map_cons, List.map_nil, List.length_cons, List.length_nil, List.cons_append, List.nil_append, Nat.reduceSub, Nat.reduceAdd, List.replicate_succ, List.replicate_zero, ir_strings_HasSuffix, rs_strings_HasSuffix, ZZ, IsnK_some, Za, Zb, Zc, Zd, Ze, Zf, Zg, Zh, rd, AV.un, AV.unA, AV.ad, Zi, Zj, Zk, Zl, Zm, Zn, Zo, Zp, Zq, Zr, Zs, Zt, Zu, Zv, Zw, Zx, Zy, Zz, Zaa, Zab, Zac, Zad, Zae, Zaf, Zag, Zah, Zai, Zaj, Zak, Zal, Zam, Zan, wk1, wk, Zao, Zap, Zaq, Zar, Zas, Zat, Zau, Zav, AV.kill, AO.kill, AV.thaw, AO.thaw, Zaw, Zax, Zay, Zaz, Zba, Zbb, Zbc, Zbd, Zbe, ite_true, ite_false, reduceCtorEq, Nat.reduceAdd, Nat.reduceMul, Nat.reduceLeDiff, Nat.reduceLT, Nat.reduceEqDiff, forall_const]
  refine use1 (sHasSuffix_ok s t hs) rfl (.inl rfl) ?_
  simp only [ZZ, IsnK_some, Za, Zb, Zc, Zd, Ze, Zf, Zg, Zh, rd, AV.un, AV.unA, AV.ad, Zi, Zj, Zk, Zl, Zm, Zn, Zo, Zp, Zq, Zr, Zs, Zt, Zu, Zv, Zw, Zx, Zy, Zz, Zaa, Zab, Zac, Zad, Zae, Zaf, Zag, Zah, Zai, Zaj, Zak, Zal, Zam, Zan, wk1, wk, Zao, Zap, Zaq, Zar, Zas, Zat, Zau, Zav, AV.kill, AO.kill, AV.thaw, AO.thaw, Zaw, Zax, Zay, Zaz, Zba, Zbb, Zbc, Zbd, Zbe, ite_true, ite_false, reduceCtorEq, Nat.reduceAdd, Nat.reduceMul, Nat.reduceLeDiff, Nat.reduceLT, Nat.reduceEqDiff, forall_const]
def largeE (s : List UInt8) : Int := whenE (decide ((20000 : Int) < s.length)) 2
theorem large_ok (s : List UInt8) : PCall Tryd.prog E 50 [.str s] (· = int (largeE s)) := by
  refine pcallF mixed Tryd.func50 ck_privilege_large ?_
  simp only [a0, l0, OS.ao, List.map_cons, List.map_nil, List.length_cons, List.length_nil, List.cons_append, List.nil_append, Nat.reduceSub, Nat.reduceAdd, List.replicate_succ, List.replicate_zero, ir_privilege_large, rs_privilege_large, ZZ, IsnK_some, Za, Zb, Zc, Zd, Ze, Zf, Zg, Zh, rd, AV.un, AV.unA, AV.ad, Zi, Zj, Zk, Zl, Zm, Zn, Zo, Zp, Zq, Zr, Zs, Zt, Zu, Zv, Zw, Zx, Zy, Zz, Zaa, Zab, Zac, Zad, Zae, Zaf, Zag, Zah, Zai, Zaj, Zak, Zal, Zam, Zan, wk1, wk, Zao, Zap, Zaq, Zar, Zas, Zat, Zau, Zav, AV.kill, AO.kill, AV.thaw, AO.thaw, Zaw, Zax, Zay, Zaz, Zba, Zbb, Zbc, Zbd, Zbe, ite_true, ite_false, reduceCtorEq, Nat.reduceAdd, Nat.reduceMul, Nat.reduceLeDiff, Nat.reduceLT, Nat.reduceEqDiff, forall_const]
  refine use1 (When_ok _ 2) rfl (.inl rfl) ?_
  simp only [ZZ, IsnK_some, Za, Zb, Zc, Zd, Ze, Zf, Zg, Zh, rd, AV.un, AV.unA, AV.ad, Zi, Zj, Zk, Zl, Zm, Zn, Zo, Zp, Zq, Zr, Zs, Zt, Zu, Zv, Zw, Zx, Zy, Zz, Zaa, Zab, Zac, Zad, Zae, Zaf, Zag, Zah, Zai, Zaj, Zak, Zal, Zam, Zan, wk1, wk, Zao, Zap, Zaq, Zar, Zas, Zat, Zau, Zav, AV.kill, AO.kill, AV.thaw, AO.thaw, Zaw, Zax, Zay, Zaz, Zba, Zbb, Zbc, Zbd, Zbe, ite_true, ite_false, reduceCtorEq, Nat.reduceAdd, Nat.reduceMul, Nat.reduceLeDiff, Nat.reduceLT, Nat.reduceEqDiff, forall_const]
  rfl
def insE (s : List UInt8) (i : Int) : Bool := decide (i < s.length) && decide (((s.getD i.toNat 0).toNat : Int) / 64 = 2)
theorem inside_ok (s : List UInt8) (i : Int) (hi : 0 ≤ i) : PCall Tryd.prog E 138 [.str s, int i] (· = .bool (insE s i)) := by
  refine pcallF mixed Tryd.func138 ck_privilege_inside ?_
  simp only [a0, l0, OS.ao, List.map_cons, List.map_nil, List.length_cons, List.length_nil, List.cons_append, List.nil_append, Nat.reduceSub, Nat.reduceAdd, List.replicate_succ, List.replicate_zero, ir_privilege_inside, rs_privilege_inside, ZZ, IsnK_some, Za, Zb, Zc, Zd, Ze, Zf, Zg, Zh, rd, AV.un, AV.unA, AV.ad, Zi, Zj, Zk, Zl, Zm, Zn, Zo, Zp, Zq, Zr, Zs, Zt, Zu, Zv, Zw, Zx, Zy, Zz, Zaa, Zab, Zac, Zad, Zae, Zaf, Zag, Zah, Zai, Zaj, Zak, Zal, Zam, Zan, wk1, wk, Zao, Zap, Zaq, Zar, Zas, Zat, Zau, Zav, AV.kill, AO.kill, AV.thaw, AO.thaw, Zaw, Zax, Zay, Zaz, Zba, Zbb, Zbc, Zbd, Zbe, ite_true, ite_false, reduceCtorEq, Nat.reduceAdd, Nat.reduceMul, Nat.reduceLeDiff, Nat.reduceLT, Nat.reduceEqDiff, forall_const]
  ((repeat' (with_reducible apply And.intro)) <;> try ((first | first | assumption | trivial | exact (fun hq => by rw [hq]; rfl) | exact i64_of (by omega) (by omega) | omega | (simp; done) | (simp; omega) | (intro hsc; have hs0 := hsc; (try have hsd := of_decide_eq_true hsc); (try simp only [Bool.not_eq_true', Bool.or_eq_false_iff, Bool.and_eq_true, Bool.or_eq_true, decide_eq_true_eq, decide_eq_false_iff_not] at hsc); (repeat' (with_reducible apply And.intro)) <;> (first | assumption | trivial | exact (fun hq => by rw [hq]; rfl) | exact i64_of (by omega) (by omega) | omega | (simp; done) | (simp; omega) | (intro hse; simp [hse, hs0]; done) | (intro hse; simp only [hse, hs0, Bool.true_and, Bool.and_true, Bool.not_false, Bool.not_true, Bool.and_self]; done))))))
  rw [show (2 : Int) ^ min (Int.toNat 6) IntKind.u8.bits = 64 from rfl, Int.fdiv_eq_ediv_of_nonneg _ (by omega)]
  rfl
def badB (feeds : Bool) (c : UInt8) : Bool := (decide ((c.toNat : Int) < 32) && !(feeds && decide ((c.toNat : Int) = 10))) || decide ((c.toNat : Int) = 127)
def visE (s : List UInt8) (feeds : Bool) : Bool := (s.all fun c => !badB feeds c) && Lib.validD s
theorem all_take {s : List UInt8} {k : Nat} {c : UInt8} {p : UInt8 → Bool} (h : s[k]? = some c) : (s.take (k + 1)).all p = ((s.take k).all p && p c) := by
  obtain ⟨hk, hx⟩ := List.getElem?_eq_some_iff.1 h
  rw [List.take_succ_eq_append_getElem hk, List.all_append, hx]
  simp
end
theorem Visible_ok (s : List UInt8) (feeds : Bool) (hs : s.length ≤ 1000000000) : PCall Tryd.prog E0 160 [.str s, .bool feeds] (· = .bool (visE s feeds)) := by
  refine pcallF mixed Tryd.func160 ck_base_Visible ?_
  simp only [a0, l0, OS.ao, List.map_cons, List.map_nil, List.length_cons, List.length_nil, List.cons_append, List.nil_append, Nat.reduceSub, Nat.reduceAdd, List.replicate_succ, List.replicate_zero, ir_base_Visible, rs_base_Visible, ZZ, IsnK_some, Za, Zb, Zc, Zd, Ze, Zf, Zg, Zh, rd, AV.un, AV.unA, AV.ad, Zi, Zj, Zk, Zl, Zm, Zn, Zo, Zp, Zq, Zr, Zs, Zt, Zu, Zv, Zw, Zx, Zy, Zz, Zaa, Zab, Zac, Zad, Zae, Zaf, Zag, Zah, Zai, Zaj, Zak, Zal, Zam, Zan, wk1, wk, Zao, Zap, Zaq, Zar, Zas, Zat, Zau, Zav, AV.kill, AO.kill, AV.thaw, AO.thaw, Zaw, Zax, Zay, Zaz, Zba, Zbb, Zbc, Zbd, Zbe, ite_true, ite_false, reduceCtorEq, Nat.reduceAdd, Nat.reduceMul, Nat.reduceLeDiff, Nat.reduceLT, Nat.reduceEqDiff, forall_const]
  refine loop_intro (fun n fr L => ∃ (k : Nat), k ≤ s.length ∧ n = s.length - k ∧ (((s.take k).all fun c => !badB feeds c) = true) ∧ fr = [.p (.str s), .p (.bool feeds), .any, .any, .any, .any, .any, .any, .p (int (s.length : Nat)), .p (int (k : Nat)), .any, .any, .any, .any, .any, .any, .any, .any, .any, .any, .any, .any, .any, .any, .any, .any, .any, .any, .any, .any, .any, .any] ∧ L = []) (s.length) [.p (.str s), .p (.bool feeds), .any, .any, .any, .any, .any, .any, .p (int (s.length : Nat)), .p (int (0 : Nat)), .any, .any, .any, .any, .any, .any, .any, .any, .any, .any, .any, .any, .any, .any, .any, .any, .any, .any, .any, .any, .any, .any] [] (by (simp only [ZZ, IsnK_some, Za, Zb, Zc, Zd, Ze, Zf, Zg, Zh, rd, AV.un, AV.unA, AV.ad, Zi, Zj, Zk, Zl, Zm, Zn, Zo, Zp, Zq, Zr, Zs, Zt, Zu, Zv, Zw, Zx, Zy, Zz, Zaa, Zab, Zac, Zad, Zae, Zaf, Zag, Zah, Zai, Zaj, Zak, Zal, Zam, Zan, wk1, wk, Zao, Zap, Zaq, Zar, Zas, Zat, Zau, Zav, AV.kill, AO.kill, AV.thaw, AO.thaw, Zaw, Zax, Zay, Zaz, Zba, Zbb, Zbc, Zbd, Zbe, ite_true, ite_false, reduceCtorEq, Nat.reduceAdd, Nat.reduceMul, Nat.reduceLeDiff, Nat.reduceLT, Nat.reduceEqDiff, forall_const]; try trivial)) (by (simp only [ZZ, IsnK_some, Za, Zb, Zc, Zd, Ze, Zf, Zg, Zh, rd, AV.un, AV.unA, AV.ad, Zi, Zj, Zk, Zl, Zm, Zn, Zo, Zp, Zq, Zr, Zs, Zt, Zu, Zv, Zw, Zx, Zy, Zz, Zaa, Zab, Zac, Zad, Zae, Zaf, Zag, Zah, Zai, Zaj, Zak, Zal, Zam, Zan, wk1, wk, Zao, Zap, Zaq, Zar, Zas, Zat, Zau, Zav, AV.kill, AO.kill, AV.thaw, AO.thaw, Zaw, Zax, Zay, Zaz, Zba, Zbb, Zbc, Zbd, Zbe, ite_true, ite_false, reduceCtorEq, Nat.reduceAdd, Nat.reduceMul, Nat.reduceLeDiff, Nat.reduceLT, Nat.reduceEqDiff, forall_const]; try trivial)) ⟨0, by omega, by omega, by simp, rfl, rfl⟩ ?_
  rintro n fr L ⟨k, hk, rfl, hall, rfl, rfl⟩
  simp only [ir_base_Visible_L0, ZZ, IsnK_some, Za, Zb, Zc, Zd, Ze, Zf, Zg, Zh, rd, AV.un, AV.unA, AV.ad, Zi, Zj, Zk, Zl, Zm, Zn, Zo, Zp, Zq, Zr, Zs, Zt, Zu, Zv, Zw, Zx, Zy, Zz, Zaa, Zab, Zac, Zad, Zae, Zaf, Zag, Zah, Zai, Zaj, Zak, Zal, Zam, Zan, wk1, wk, Zao, Zap, Zaq, Zar, Zas, Zat, Zau, Zav, AV.kill, AO.kill, AV.thaw, AO.thaw, Zaw, Zax, Zay, Zaz, Zba, Zbb, Zbc, Zbd, Zbe, ite_true, ite_false, reduceCtorEq, Nat.reduceAdd, Nat.reduceMul, Nat.reduceLeDiff, Nat.reduceLT, Nat.reduceEqDiff, forall_const]
  refine br ?_ ?_
  · intro h
    have hlt : k < s.length := by have := of_decide_eq_true h; omega
    obtain ⟨c, hc⟩ : ∃ x, s[k]? = some x := ⟨_, List.getElem?_eq_getElem hlt⟩
    have hg : s.getD k 0 = c := by simp [List.getD, hc]
    have hnx := all_take (p := fun c => !badB feeds c) hc
    simp only [ZZ, IsnK_some, Za, Zb, Zc, Zd, Ze, Zf, Zg, Zh, rd, AV.un, AV.unA, AV.ad, Zi, Zj, Zk, Zl, Zm, Zn, Zo, Zp, Zq, Zr, Zs, Zt, Zu, Zv, Zw, Zx, Zy, Zz, Zaa, Zab, Zac, Zad, Zae, Zaf, Zag, Zah, Zai, Zaj, Zak, Zal, Zam, Zan, wk1, wk, Zao, Zap, Zaq, Zar, Zas, Zat, Zau, Zav, AV.kill, AO.kill, AV.thaw, AO.thaw, Zaw, Zax, Zay, Zaz, Zba, Zbb, Zbc, Zbd, Zbe, ite_true, ite_false, reduceCtorEq, Nat.reduceAdd, Nat.reduceMul, Nat.reduceLeDiff, Nat.reduceLT, Nat.reduceEqDiff, forall_const, hg]
    ((repeat' (with_reducible apply And.intro)) <;> try ((first | first | assumption | trivial | exact (fun hq => by rw [hq]; rfl) | exact i64_of (by omega) (by omega) | omega | (simp; done) | (simp; omega) | (intro hsc; have hs0 := hsc; (try have hsd := of_decide_eq_true hsc); (try simp only [Bool.not_eq_true', Bool.or_eq_false_iff, Bool.and_eq_true, Bool.or_eq_true, decide_eq_true_eq, decide_eq_false_iff_not] at hsc); (repeat' (with_reducible apply And.intro)) <;> (first | assumption | trivial | exact (fun hq => by rw [hq]; rfl) | exact i64_of (by omega) (by omega) | omega | (simp; done) | (simp; omega) | (intro hse; simp [hse, hs0]; done) | (intro hse; simp only [hse, hs0, Bool.true_and, Bool.and_true, Bool.not_false, Bool.not_true, Bool.and_self]; done))))))
    refine br ?_ ?_
    · intro hb
      have hb : badB feeds c = true := hb
      simp only [ZZ, IsnK_some, Za, Zb, Zc, Zd, Ze, Zf, Zg, Zh, rd, AV.un, AV.unA, AV.ad, Zi, Zj, Zk, Zl, Zm, Zn, Zo, Zp, Zq, Zr, Zs, Zt, Zu, Zv, Zw, Zx, Zy, Zz, Zaa, Zab, Zac, Zad, Zae, Zaf, Zag, Zah, Zai, Zaj, Zak, Zal, Zam, Zan, wk1, wk, Zao, Zap, Zaq, Zar, Zas, Zat, Zau, Zav, AV.kill, AO.kill, AV.thaw, AO.thaw, Zaw, Zax, Zay, Zaz, Zba, Zbb, Zbc, Zbd, Zbe, ite_true, ite_false, reduceCtorEq, Nat.reduceAdd, Nat.reduceMul, Nat.reduceLeDiff, Nat.reduceLT, Nat.reduceEqDiff, forall_const]
      have : (s.all fun c => !badB feeds c) = false := by
        rw [List.all_eq_false]
        exact ⟨c, List.mem_of_getElem? hc, by simp [hb]⟩
      simp [visE, this]
    · intro hb
      have hb : badB feeds c = false := hb
      simp only [ZZ, IsnK_some, Za, Zb, Zc, Zd, Ze, Zf, Zg, Zh, rd, AV.un, AV.unA, AV.ad, Zi, Zj, Zk, Zl, Zm, Zn, Zo, Zp, Zq, Zr, Zs, Zt, Zu, Zv, Zw, Zx, Zy, Zz, Zaa, Zab, Zac, Zad, Zae, Zaf, Zag, Zah, Zai, Zaj, Zak, Zal, Zam, Zan, wk1, wk, Zao, Zap, Zaq, Zar, Zas, Zat, Zau, Zav, AV.kill, AO.kill, AV.thaw, AO.thaw, Zaw, Zax, Zay, Zaz, Zba, Zbb, Zbc, Zbd, Zbe, ite_true, ite_false, reduceCtorEq, Nat.reduceAdd, Nat.reduceMul, Nat.reduceLeDiff, Nat.reduceLT, Nat.reduceEqDiff, forall_const]
      ((repeat' (with_reducible apply And.intro)) <;> try ((first | first | assumption | trivial | exact (fun hq => by rw [hq]; rfl) | exact i64_of (by omega) (by omega) | omega | (simp; done) | (simp; omega) | (intro hsc; have hs0 := hsc; (try have hsd := of_decide_eq_true hsc); (try simp only [Bool.not_eq_true', Bool.or_eq_false_iff, Bool.and_eq_true, Bool.or_eq_true, decide_eq_true_eq, decide_eq_false_iff_not] at hsc); (repeat' (with_reducible apply And.intro)) <;> (first | assumption | trivial | exact (fun hq => by rw [hq]; rfl) | exact i64_of (by omega) (by omega) | omega | (simp; done) | (simp; omega) | (intro hse; simp [hse, hs0]; done) | (intro hse; simp only [hse, hs0, Bool.true_and, Bool.and_true, Bool.not_false, Bool.not_true, Bool.and_self]; done))))))
      refine end_round (s.length - (k + 1)) [.p (.str s), .p (.bool feeds), .any, .any, .any, .any, .any, .any, .p (int (s.length : Nat)), .p (int ((k + 1) : Nat)), .any, .any, .any, .any, .any, .any, .any, .any, .any, .any, .any, .any, .any, .any, .any, .any, .any, .any, .any, .any, .any, .any] [] (by omega) (by (simp only [ZZ, IsnK_some, Za, Zb, Zc, Zd, Ze, Zf, Zg, Zh, rd, AV.un, AV.unA, AV.ad, Zi, Zj, Zk, Zl, Zm, Zn, Zo, Zp, Zq, Zr, Zs, Zt, Zu, Zv, Zw, Zx, Zy, Zz, Zaa, Zab, Zac, Zad, Zae, Zaf, Zag, Zah, Zai, Zaj, Zak, Zal, Zam, Zan, wk1, wk, Zao, Zap, Zaq, Zar, Zas, Zat, Zau, Zav, AV.kill, AO.kill, AV.thaw, AO.thaw, Zaw, Zax, Zay, Zaz, Zba, Zbb, Zbc, Zbd, Zbe, ite_true, ite_false, reduceCtorEq, Nat.reduceAdd, Nat.reduceMul, Nat.reduceLeDiff, Nat.reduceLT, Nat.reduceEqDiff, forall_const]; try trivial)) (by (simp only [ZZ, IsnK_some, Za, Zb, Zc, Zd, Ze, Zf, Zg, Zh, rd, AV.un, AV.unA, AV.ad, Zi, Zj, Zk, Zl, Zm, Zn, Zo, Zp, Zq, Zr, Zs, Zt, Zu, Zv, Zw, Zx, Zy, Zz, Zaa, Zab, Zac, Zad, Zae, Zaf, Zag, Zah, Zai, Zaj, Zak, Zal, Zam, Zan, wk1, wk, Zao, Zap, Zaq, Zar, Zas, Zat, Zau, Zav, AV.kill, AO.kill, AV.thaw, AO.thaw, Zaw, Zax, Zay, Zaz, Zba, Zbb, Zbc, Zbd, Zbe, ite_true, ite_false, reduceCtorEq, Nat.reduceAdd, Nat.reduceMul, Nat.reduceLeDiff, Nat.reduceLT, Nat.reduceEqDiff, forall_const]; try trivial)) ⟨k + 1, by omega, rfl, by rw [hnx, hall, hb]; rfl, rfl, rfl⟩
  · intro h
    have hge : s.length ≤ k := by have := of_decide_eq_false h; omega
    rw [List.take_of_length_le hge] at hall
    simp only [ZZ, IsnK_some, Za, Zb, Zc, Zd, Ze, Zf, Zg, Zh, rd, AV.un, AV.unA, AV.ad, Zi, Zj, Zk, Zl, Zm, Zn, Zo, Zp, Zq, Zr, Zs, Zt, Zu, Zv, Zw, Zx, Zy, Zz, Zaa, Zab, Zac, Zad, Zae, Zaf, Zag, Zah, Zai, Zaj, Zak, Zal, Zam, Zan, wk1, wk, Zao, Zap, Zaq, Zar, Zas, Zat, Zau, Zav, AV.kill, AO.kill, AV.thaw, AO.thaw, Zaw, Zax, Zay, Zaz, Zba, Zbb, Zbc, Zbd, Zbe, ite_true, ite_false, reduceCtorEq, Nat.reduceAdd, Nat.reduceMul, Nat.reduceLeDiff, Nat.reduceLT, Nat.reduceEqDiff, forall_const]
    refine use1 (Valid_ok s (by omega)) rfl (.inl rfl) ?_
    simp only [ZZ, IsnK_some, Za, Zb, Zc, Zd, Ze, Zf, Zg, Zh, rd, AV.un, AV.unA, AV.ad, Zi, Zj, Zk, Zl, Zm, Zn, Zo, Zp, Zq, Zr, Zs, Zt, Zu, Zv, Zw, Zx, Zy, Zz, Zaa, Zab, Zac, Zad, Zae, Zaf, Zag, Zah, Zai, Zaj, Zak, Zal, Zam, Zan, wk1, wk, Zao, Zap, Zaq, Zar, Zas, Zat, Zau, Zav, AV.kill, AO.kill, AV.thaw, AO.thaw, Zaw, Zax, Zay, Zaz, Zba, Zbb, Zbc, Zbd, Zbe, ite_true, ite_false, reduceCtorEq, Nat.reduceAdd, Nat.reduceMul, Nat.reduceLeDiff, Nat.reduceLT, Nat.reduceEqDiff, forall_const]
    simp [visE, hall]
def textE (s : List UInt8) : Bool := visE s true && (decide (s = []) || sufE s [10])
theorem Text_ok (s : List UInt8) (hs : s.length ≤ 1000000000) : PCall Tryd.prog E0 136 [.str s] (· = .bool (textE s)) := by
  refine pcallF mixed Tryd.func136 ck_base_Text ?_
  simp only [a0, l0, OS.ao, List.map_cons, List.map_nil, List.length_cons, List.length_nil, List.cons_append, List.nil_append, Nat.reduceSub, Nat.reduceAdd, List.replicate_succ, List.replicate_zero, ir_base_Text, rs_base_Text, ZZ, IsnK_some, Za, Zb, Zc, Zd, Ze, Zf, Zg, Zh, rd, AV.un, AV.unA, AV.ad, Zi, Zj, Zk, Zl, Zm, Zn, Zo, Zp, Zq, Zr, Zs, Zt, Zu, Zv, Zw, Zx, Zy, Zz, Zaa, Zab, Zac, Zad, Zae, Zaf, Zag, Zah, Zai, Zaj, Zak, Zal, Zam, Zan, wk1, wk, Zao, Zap, Zaq, Zar, Zas, Zat, Zau, Zav, AV.kill, AO.kill, AV.thaw, AO.thaw, Zaw, Zax, Zay, Zaz, Zba, Zbb, Zbc, Zbd, Zbe, ite_true, ite_false, reduceCtorEq, Nat.reduceAdd, Nat.reduceMul, Nat.reduceLeDiff, Nat.reduceLT, Nat.reduceEqDiff, forall_const]
  refine use1 (Visible_ok s true hs) rfl (.inl rfl) ?_
  simp only [ZZ, IsnK_some, Za, Zb, Zc, Zd, Ze, Zf, Zg, Zh, rd, AV.un, AV.unA, AV.ad, Zi, Zj, Zk, Zl, Zm, Zn, Zo, Zp, Zq, Zr, Zs, Zt, Zu, Zv, Zw, Zx, Zy, Zz, Zaa, Zab, Zac, Zad, Zae, Zaf, Zag, Zah, Zai, Zaj, Zak, Zal, Zam, Zan, wk1, wk, Zao, Zap, Zaq, Zar, Zas, Zat, Zau, Zav, AV.kill, AO.kill, AV.thaw, AO.thaw, Zaw, Zax, Zay, Zaz, Zba, Zbb, Zbc, Zbd, Zbe, ite_true, ite_false, reduceCtorEq, Nat.reduceAdd, Nat.reduceMul, Nat.reduceLeDiff, Nat.reduceLT, Nat.reduceEqDiff, forall_const]
  ((repeat' (with_reducible apply And.intro)) <;> try ((first | first | assumption | trivial | exact (fun hq => by rw [hq]; rfl) | exact i64_of (by omega) (by omega) | omega | (simp; done) | (simp; omega) | (intro hsc; have hs0 := hsc; (try have hsd := of_decide_eq_true hsc); (try simp only [Bool.not_eq_true', Bool.or_eq_false_iff, Bool.and_eq_true, Bool.or_eq_true, decide_eq_true_eq, decide_eq_false_iff_not] at hsc); (repeat' (with_reducible apply And.intro)) <;> (first | assumption | trivial | exact (fun hq => by rw [hq]; rfl) | exact i64_of (by omega) (by omega) | omega | (simp; done) | (simp; omega) | (intro hse; simp [hse, hs0]; done) | (intro hse; simp only [hse, hs0, Bool.true_and, Bool.and_true, Bool.not_false, Bool.not_true, Bool.and_self]; done))))))
  refine useG (fun _ => HasSuffix_ok s [10] (by omega)) rfl (.inl rfl) ?_
  simp only [ZZ, IsnK_some, Za, Zb, Zc, Zd, Ze, Zf, Zg, Zh, rd, AV.un, AV.unA, AV.ad, Zi, Zj, Zk, Zl, Zm, Zn, Zo, Zp, Zq, Zr, Zs, Zt, Zu, Zv, Zw, Zx, Zy, Zz, Zaa, Zab, Zac, Zad, Zae, Zaf, Zag, Zah, Zai, Zaj, Zak, Zal, Zam, Zan, wk1, wk, Zao, Zap, Zaq, Zar, Zas, Zat, Zau, Zav, AV.kill, AO.kill, AV.thaw, AO.thaw, Zaw, Zax, Zay, Zaz, Zba, Zbb, Zbc, Zbd, Zbe, ite_true, ite_false, reduceCtorEq, Nat.reduceAdd, Nat.reduceMul, Nat.reduceLeDiff, Nat.reduceLT, Nat.reduceEqDiff, forall_const]
  ((repeat' (with_reducible apply And.intro)) <;> try ((first | first | assumption | trivial | exact (fun hq => by rw [hq]; rfl) | exact i64_of (by omega) (by omega) | omega | (simp; done) | (simp; omega) | (intro hsc; have hs0 := hsc; (try have hsd := of_decide_eq_true hsc); (try simp only [Bool.not_eq_true', Bool.or_eq_false_iff, Bool.and_eq_true, Bool.or_eq_true, decide_eq_true_eq, decide_eq_false_iff_not] at hsc); (repeat' (with_reducible apply And.intro)) <;> (first | assumption | trivial | exact (fun hq => by rw [hq]; rfl) | exact i64_of (by omega) (by omega) | omega | (simp; done) | (simp; omega) | (intro hse; simp [hse, hs0]; done) | (intro hse; simp only [hse, hs0, Bool.true_and, Bool.and_true, Bool.not_false, Bool.not_true, Bool.and_self]; done))))))
def tErr (s : List UInt8) (l : List (Int × Int)) : Int := firstE [largeE s, whenE (!textE s) 3, spansF l s.length]
theorem textError_ok (s : List UInt8) (l : List (Int × Int)) (hs : s.length ≤ 1000000000) (hl : l.length ≤ 1000000) : PCall Tryd.prog E0 96 [.str s, sps l] (· = int (tErr s l)) := by
  refine pcallF mixed Tryd.func96 ck_privilege_textError ?_
  simp only [a0, l0, OS.ao, List.map_cons, List.map_nil, List.length_cons, List.length_nil, List.cons_append, List.nil_append, Nat.reduceSub, Nat.reduceAdd, List.replicate_succ, List.replicate_zero, ir_privilege_textError, rs_privilege_textError, ZZ, IsnK_some, Za, Zb, Zc, Zd, Ze, Zf, Zg, Zh, rd, AV.un, AV.unA, AV.ad, Zi, Zj, Zk, Zl, Zm, Zn, Zo, Zp, Zq, Zr, Zs, Zt, Zu, Zv, Zw, Zx, Zy, Zz, Zaa, Zab, Zac, Zad, Zae, Zaf, Zag, Zah, Zai, Zaj, Zak, Zal, Zam, Zan, wk1, wk, Zao, Zap, Zaq, Zar, Zas, Zat, Zau, Zav, AV.kill, AO.kill, AV.thaw, AO.thaw, Zaw, Zax, Zay, Zaz, Zba, Zbb, Zbc, Zbd, Zbe, ite_true, ite_false, reduceCtorEq, Nat.reduceAdd, Nat.reduceMul, Nat.reduceLeDiff, Nat.reduceLT, Nat.reduceEqDiff, forall_const]
  refine use1 (large_ok s) rfl (.inl rfl) ?_
  simp only [ZZ, IsnK_some, Za, Zb, Zc, Zd, Ze, Zf, Zg, Zh, rd, AV.un, AV.unA, AV.ad, Zi, Zj, Zk, Zl, Zm, Zn, Zo, Zp, Zq, Zr, Zs, Zt, Zu, Zv, Zw, Zx, Zy, Zz, Zaa, Zab, Zac, Zad, Zae, Zaf, Zag, Zah, Zai, Zaj, Zak, Zal, Zam, Zan, wk1, wk, Zao, Zap, Zaq, Zar, Zas, Zat, Zau, Zav, AV.kill, AO.kill, AV.thaw, AO.thaw, Zaw, Zax, Zay, Zaz, Zba, Zbb, Zbc, Zbd, Zbe, ite_true, ite_false, reduceCtorEq, Nat.reduceAdd, Nat.reduceMul, Nat.reduceLeDiff, Nat.reduceLT, Nat.reduceEqDiff, forall_const]
  refine use1 (Text_ok s hs) rfl (.inl rfl) ?_
  simp only [ZZ, IsnK_some, Za, Zb, Zc, Zd, Ze, Zf, Zg, Zh, rd, AV.un, AV.unA, AV.ad, Zi, Zj, Zk, Zl, Zm, Zn, Zo, Zp, Zq, Zr, Zs, Zt, Zu, Zv, Zw, Zx, Zy, Zz, Zaa, Zab, Zac, Zad, Zae, Zaf, Zag, Zah, Zai, Zaj, Zak, Zal, Zam, Zan, wk1, wk, Zao, Zap, Zaq, Zar, Zas, Zat, Zau, Zav, AV.kill, AO.kill, AV.thaw, AO.thaw, Zaw, Zax, Zay, Zaz, Zba, Zbb, Zbc, Zbd, Zbe, ite_true, ite_false, reduceCtorEq, Nat.reduceAdd, Nat.reduceMul, Nat.reduceLeDiff, Nat.reduceLT, Nat.reduceEqDiff, forall_const]
  refine use1 (When_ok _ 3) rfl (.inl rfl) ?_
  simp only [ZZ, IsnK_some, Za, Zb, Zc, Zd, Ze, Zf, Zg, Zh, rd, AV.un, AV.unA, AV.ad, Zi, Zj, Zk, Zl, Zm, Zn, Zo, Zp, Zq, Zr, Zs, Zt, Zu, Zv, Zw, Zx, Zy, Zz, Zaa, Zab, Zac, Zad, Zae, Zaf, Zag, Zah, Zai, Zaj, Zak, Zal, Zam, Zan, wk1, wk, Zao, Zap, Zaq, Zar, Zas, Zat, Zau, Zav, AV.kill, AO.kill, AV.thaw, AO.thaw, Zaw, Zax, Zay, Zaz, Zba, Zbb, Zbc, Zbd, Zbe, ite_true, ite_false, reduceCtorEq, Nat.reduceAdd, Nat.reduceMul, Nat.reduceLeDiff, Nat.reduceLT, Nat.reduceEqDiff, forall_const]
  refine use1 (CheckSpans_ok l s.length hl) rfl (.inl rfl) ?_
  simp only [ZZ, IsnK_some, Za, Zb, Zc, Zd, Ze, Zf, Zg, Zh, rd, AV.un, AV.unA, AV.ad, Zi, Zj, Zk, Zl, Zm, Zn, Zo, Zp, Zq, Zr, Zs, Zt, Zu, Zv, Zw, Zx, Zy, Zz, Zaa, Zab, Zac, Zad, Zae, Zaf, Zag, Zah, Zai, Zaj, Zak, Zal, Zam, Zan, wk1, wk, Zao, Zap, Zaq, Zar, Zas, Zat, Zau, Zav, AV.kill, AO.kill, AV.thaw, AO.thaw, Zaw, Zax, Zay, Zaz, Zba, Zbb, Zbc, Zbd, Zbe, ite_true, ite_false, reduceCtorEq, Nat.reduceAdd, Nat.reduceMul, Nat.reduceLeDiff, Nat.reduceLT, Nat.reduceEqDiff, forall_const]
  refine use1 (First_ok [largeE s, whenE (!textE s) 3, spansF l s.length] (by simp)) rfl (.inl rfl) ?_
  simp only [ZZ, IsnK_some, Za, Zb, Zc, Zd, Ze, Zf, Zg, Zh, rd, AV.un, AV.unA, AV.ad, Zi, Zj, Zk, Zl, Zm, Zn, Zo, Zp, Zq, Zr, Zs, Zt, Zu, Zv, Zw, Zx, Zy, Zz, Zaa, Zab, Zac, Zad, Zae, Zaf, Zag, Zah, Zai, Zaj, Zak, Zal, Zam, Zan, wk1, wk, Zao, Zap, Zaq, Zar, Zas, Zat, Zau, Zav, AV.kill, AO.kill, AV.thaw, AO.thaw, Zaw, Zax, Zay, Zaz, Zba, Zbb, Zbc, Zbd, Zbe, ite_true, ite_false, reduceCtorEq, Nat.reduceAdd, Nat.reduceMul, Nat.reduceLeDiff, Nat.reduceLT, Nat.reduceEqDiff, forall_const]
  rfl

/-- The place where the code point begins; .. and where it is over. -/
def backN (s : List UInt8) : Nat → Nat
  | 0 => 0
  | n + 1 => if insE s ((n + 1 : Nat) : Int) = true then backN s n else n + 1
def fwdN (s : List UInt8) : Nat → Nat → Nat
  | 0, n => n
  | f + 1, n => if insE s (n : Int) = true then fwdN s f (n + 1) else n
theorem insE_lt {s : List UInt8} {n : Nat} (h : insE s (n : Int) = true) : n < s.length := by
  simp only [insE, Bool.and_eq_true, decide_eq_true_eq] at h
  omega
theorem fwdN_le (s : List UInt8) : ∀ f n, n ≤ s.length → fwdN s f n ≤ s.length
  | 0, n, h => h
  | f + 1, n, h => by
    unfold fwdN
    split
    · rename_i hi
      exact fwdN_le s f (n + 1) (insE_lt hi)
    · exact h
def pntF (s : List UInt8) (p : Int × Int) : Int × Int := ((backN s p.1.toNat : Nat), (fwdN s (s.length - p.2.toNat) p.2.toNat : Nat))
def pointsF (s : List UInt8) (l : List (Int × Int)) : List (Int × Int) := l.map (pntF s)

section
variable {E : Envt}
theorem points_ok (s : List UInt8) (l : List (Int × Int)) (hs : s.length ≤ 1000000000) (hl : l.length ≤ 1000000) (hb : ∀ p ∈ l, 0 ≤ p.1 ∧ p.1 ≤ 1000000000 ∧ 0 ≤ p.2 ∧ p.2 ≤ s.length) :
    FCall Tryd.prog E 97 [.str s, sps l] tSpan 2 (· = (pointsF s l).map spn) := by
  unfold FCall
  refine gcallR mixed Tryd.func97 ck_privilege_points ?_
  simp only [a0, l0, OS.ao, List.map_cons, List.map_nil, List.length_cons, List.length_nil, List.cons_append, List.nil_append, Nat.reduceSub, Nat.reduceAdd, List.replicate_succ, List.replicate_zero, ir_privilege_points, rs_privilege_points, ZZ, IsnK_some, Za, Zb, Zc, Zd, Ze, Zf, Zg, Zh, rd, AV.un, AV.unA, AV.ad, Zi, Zj, Zk, Zl, Zm, Zn, Zo, Zp, Zq, Zr, Zs, Zt, Zu, Zv, Zw, Zx, Zy, Zz, Zaa, Zab, Zac, Zad, Zae, Zaf, Zag, Zah, Zai, Zaj, Zak, Zal, Zam, Zan, wk1, wk, Zao, Zap, Zaq, Zar, Zas, Zat, Zau, Zav, AV.kill, AO.kill, AV.thaw, AO.thaw, Zaw, Zax, Zay, Zaz, Zba, Zbb, Zbc, Zbd, Zbe, ite_true, ite_false, reduceCtorEq, Nat.reduceAdd, Nat.reduceMul, Nat.reduceLeDiff, Nat.reduceLT, Nat.reduceEqDiff, forall_const]
  simp only [sps, ZZ, IsnK_some, Za, Zb, Zc, Zd, Ze, Zf, Zg, Zh, rd, AV.un, AV.unA, AV.ad, Zi, Zj, Zk, Zl, Zm, Zn, Zo, Zp, Zq, Zr, Zs, Zt, Zu, Zv, Zw, Zx, Zy, Zz, Zaa, Zab, Zac, Zad, Zae, Zaf, Zag, Zah, Zai, Zaj, Zak, Zal, Zam, Zan, wk1, wk, Zao, Zap, Zaq, Zar, Zas, Zat, Zau, Zav, AV.kill, AO.kill, AV.thaw, AO.thaw, Zaw, Zax, Zay, Zaz, Zba, Zbb, Zbc, Zbd, Zbe, ite_true, ite_false, reduceCtorEq, Nat.reduceAdd, Nat.reduceMul, Nat.reduceLeDiff, Nat.reduceLT, Nat.reduceEqDiff, forall_const]
  have hln : (l.map spn).length = l.length := by simp
  have hget : ∀ k p, l[k]? = some p → (l.map spn).getD k [] = [int p.1, int p.2] := fun k p hp => getD_map hp
  generalize l.map spn = es at hln hget ⊢
  refine loop_intro (fun n fr L => ∃ (k : Nat) (out : List (Int × Int)), k ≤ l.length ∧ n = l.length - k ∧ (out = (pointsF s l).take k) ∧ fr = [.p (.str s), .any, .any, .any, .any, .row (.l 5), .any, .any, .p (.sl 2 es), .p (int (l.length : Nat)), .p (int (k : Nat)), .any, .any, .any, .any, .any, .any, .any, .any, .any, .any, .any, .any, .any, .any, .any, .any, .any, .any, .any, .any, .any, .any, .any, .any, .any, .any, .any, .any, .any, .any] ∧ L = [(.l 5, .row (out.map spn) tSpan 2 true)]) (l.length) [.p (.str s), .any, .any, .any, .any, .row (.l 5), .any, .any, .p (.sl 2 es), .p (int (l.length : Nat)), .p (int (0 : Nat)), .any, .any, .any, .any, .any, .any, .any, .any, .any, .any, .any, .any, .any, .any, .any, .any, .any, .any, .any, .any, .any, .any, .any, .any, .any, .any, .any, .any, .any, .any] [(.l 5, .row ([].map spn) tSpan 2 true)] (by simp only [hln, ZZ, IsnK_some, Za, Zb, Zc, Zd, Ze, Zf, Zg, Zh, rd, AV.un, AV.unA, AV.ad, Zi, Zj, Zk, Zl, Zm, Zn, Zo, Zp, Zq, Zr, Zs, Zt, Zu, Zv, Zw, Zx, Zy, Zz, Zaa, Zab, Zac, Zad, Zae, Zaf, Zag, Zah, Zai, Zaj, Zak, Zal, Zam, Zan, wk1, wk, Zao, Zap, Zaq, Zar, Zas, Zat, Zau, Zav, AV.kill, AO.kill, AV.thaw, AO.thaw, Zaw, Zax, Zay, Zaz, Zba, Zbb, Zbc, Zbd, Zbe, ite_true, ite_false, reduceCtorEq, Nat.reduceAdd, Nat.reduceMul, Nat.reduceLeDiff, Nat.reduceLT, Nat.reduceEqDiff, forall_const]; try trivial) (by (simp only [ZZ, IsnK_some, Za, Zb, Zc, Zd, Ze, Zf, Zg, Zh, rd, AV.un, AV.unA, AV.ad, Zi, Zj, Zk, Zl, Zm, Zn, Zo, Zp, Zq, Zr, Zs, Zt, Zu, Zv, Zw, Zx, Zy, Zz, Zaa, Zab, Zac, Zad, Zae, Zaf, Zag, Zah, Zai, Zaj, Zak, Zal, Zam, Zan, wk1, wk, Zao, Zap, Zaq, Zar, Zas, Zat, Zau, Zav, AV.kill, AO.kill, AV.thaw, AO.thaw, Zaw, Zax, Zay, Zaz, Zba, Zbb, Zbc, Zbd, Zbe, ite_true, ite_false, reduceCtorEq, Nat.reduceAdd, Nat.reduceMul, Nat.reduceLeDiff, Nat.reduceLT, Nat.reduceEqDiff, forall_const]; try trivial)) ⟨0, [], by omega, by omega, by simp, rfl, rfl⟩ ?_
  rintro n fr L ⟨k, out, hk, rfl, hout, rfl, rfl⟩
  simp only [ir_privilege_points_L0, ZZ, IsnK_some, Za, Zb, Zc, Zd, Ze, Zf, Zg, Zh, rd, AV.un, AV.unA, AV.ad, Zi, Zj, Zk, Zl, Zm, Zn, Zo, Zp, Zq, Zr, Zs, Zt, Zu, Zv, Zw, Zx, Zy, Zz, Zaa, Zab, Zac, Zad, Zae, Zaf, Zag, Zah, Zai, Zaj, Zak, Zal, Zam, Zan, wk1, wk, Zao, Zap, Zaq, Zar, Zas, Zat, Zau, Zav, AV.kill, AO.kill, AV.thaw, AO.thaw, Zaw, Zax, Zay, Zaz, Zba, Zbb, Zbc, Zbd, Zbe, ite_true, ite_false, reduceCtorEq, Nat.reduceAdd, Nat.reduceMul, Nat.reduceLeDiff, Nat.reduceLT, Nat.reduceEqDiff, forall_const]
  refine br ?_ ?_
  · intro h
    have hlt : k < l.length := by have := of_decide_eq_true h; omega
    obtain ⟨p, hp⟩ : ∃ x, l[k]? = some x := ⟨_, List.getElem?_eq_getElem hlt⟩
    have hg := hget k p hp
    obtain ⟨hp1, hp2, hp3, hp4⟩ := hb p (List.mem_of_getElem? hp)
    have hol : out.length ≤ k := by rw [hout]; simp; omega
    obtain ⟨a, ha⟩ := Int.eq_ofNat_of_zero_le hp1
    obtain ⟨b, hbb⟩ := Int.eq_ofNat_of_zero_le hp3
    have hpn : pntF s p = (((backN s a : Nat) : Int), ((fwdN s (s.length - b) b : Nat) : Int)) := by rw [show p = ((a : Int), (b : Int)) from by rw [← ha, ← hbb]]; rfl
    have hbn : b ≤ s.length := by omega
    rw [ha, hbb] at hg
    simp only [ZZ, IsnK_some, Za, Zb, Zc, Zd, Ze, Zf, Zg, Zh, rd, AV.un, AV.unA, AV.ad, Zi, Zj, Zk, Zl, Zm, Zn, Zo, Zp, Zq, Zr, Zs, Zt, Zu, Zv, Zw, Zx, Zy, Zz, Zaa, Zab, Zac, Zad, Zae, Zaf, Zag, Zah, Zai, Zaj, Zak, Zal, Zam, Zan, wk1, wk, Zao, Zap, Zaq, Zar, Zas, Zat, Zau, Zav, AV.kill, AO.kill, AV.thaw, AO.thaw, Zaw, Zax, Zay, Zaz, Zba, Zbb, Zbc, Zbd, Zbe, ite_true, ite_false, reduceCtorEq, Nat.reduceAdd, Nat.reduceMul, Nat.reduceLeDiff, Nat.reduceLT, Nat.reduceEqDiff, forall_const, hg, hln]
    ((repeat' (with_reducible apply And.intro)) <;> try ((first | first | assumption | trivial | exact (fun hq => by rw [hq]; rfl) | exact i64_of (by omega) (by omega) | omega | (simp; done) | (simp; omega) | (intro hsc; have hs0 := hsc; (try have hsd := of_decide_eq_true hsc); (try simp only [Bool.not_eq_true', Bool.or_eq_false_iff, Bool.and_eq_true, Bool.or_eq_true, decide_eq_true_eq, decide_eq_false_iff_not] at hsc); (repeat' (with_reducible apply And.intro)) <;> (first | assumption | trivial | exact (fun hq => by rw [hq]; rfl) | exact i64_of (by omega) (by omega) | omega | (simp; done) | (simp; omega) | (intro hse; simp [hse, hs0]; done) | (intro hse; simp only [hse, hs0, Bool.true_and, Bool.and_true, Bool.not_false, Bool.not_true, Bool.and_self]; done))))))
    refine loop_intro (fun n fr L => ∃ (f : Nat), f = n ∧ (backN s f = backN s a) ∧ (f ≤ a) ∧ fr = [.p (.str s), .any, .any, .any, .any, .row (.l 5), .any, .adr (.l 7) 0, .p (.sl 2 es), .p (int (l.length : Nat)), .p (int (k : Nat)), .any, .any, .any, .any, .any, .any, .any, .any, .any, .any, .any, .any, .any, .any, .any, .any, .any, .any, .any, .any, .any, .any, .any, .any, .any, .any, .any, .any, .any, .any] ∧ L = [(.l 5, .row (out.map spn) tSpan 2 true), (.l 7, .box [.p (int (f : Nat)), .p (int (b : Nat))] tSpan)]) (a) [.p (.str s), .any, .any, .any, .any, .row (.l 5), .any, .adr (.l 7) 0, .p (.sl 2 es), .p (int (l.length : Nat)), .p (int (k : Nat)), .any, .any, .any, .any, .any, .any, .any, .any, .any, .any, .any, .any, .any, .any, .any, .any, .any, .any, .any, .any, .any, .any, .any, .any, .any, .any, .any, .any, .any, .any] [(.l 5, .row (out.map spn) tSpan 2 true), (.l 7, .box [.p (int (a : Nat)), .p (int (b : Nat))] tSpan)] (by (simp only [ZZ, IsnK_some, Za, Zb, Zc, Zd, Ze, Zf, Zg, Zh, rd, AV.un, AV.unA, AV.ad, Zi, Zj, Zk, Zl, Zm, Zn, Zo, Zp, Zq, Zr, Zs, Zt, Zu, Zv, Zw, Zx, Zy, Zz, Zaa, Zab, Zac, Zad, Zae, Zaf, Zag, Zah, Zai, Zaj, Zak, Zal, Zam, Zan, wk1, wk, Zao, Zap, Zaq, Zar, Zas, Zat, Zau, Zav, AV.kill, AO.kill, AV.thaw, AO.thaw, Zaw, Zax, Zay, Zaz, Zba, Zbb, Zbc, Zbd, Zbe, ite_true, ite_false, reduceCtorEq, Nat.reduceAdd, Nat.reduceMul, Nat.reduceLeDiff, Nat.reduceLT, Nat.reduceEqDiff, forall_const]; try trivial)) (by (simp only [ZZ, IsnK_some, Za, Zb, Zc, Zd, Ze, Zf, Zg, Zh, rd, AV.un, AV.unA, AV.ad, Zi, Zj, Zk, Zl, Zm, Zn, Zo, Zp, Zq, Zr, Zs, Zt, Zu, Zv, Zw, Zx, Zy, Zz, Zaa, Zab, Zac, Zad, Zae, Zaf, Zag, Zah, Zai, Zaj, Zak, Zal, Zam, Zan, wk1, wk, Zao, Zap, Zaq, Zar, Zas, Zat, Zau, Zav, AV.kill, AO.kill, AV.thaw, AO.thaw, Zaw, Zax, Zay, Zaz, Zba, Zbb, Zbc, Zbd, Zbe, ite_true, ite_false, reduceCtorEq, Nat.reduceAdd, Nat.reduceMul, Nat.reduceLeDiff, Nat.reduceLT, Nat.reduceEqDiff, forall_const]; try trivial)) ⟨a, rfl, rfl, Nat.le_refl _, rfl, rfl⟩ ?_
    rintro n fr L ⟨f, rfl, hf, hfa, rfl, rfl⟩
    simp only [ir_privilege_points_L1, ZZ, IsnK_some, Za, Zb, Zc, Zd, Ze, Zf, Zg, Zh, rd, AV.un, AV.unA, AV.ad, Zi, Zj, Zk, Zl, Zm, Zn, Zo, Zp, Zq, Zr, Zs, Zt, Zu, Zv, Zw, Zx, Zy, Zz, Zaa, Zab, Zac, Zad, Zae, Zaf, Zag, Zah, Zai, Zaj, Zak, Zal, Zam, Zan, wk1, wk, Zao, Zap, Zaq, Zar, Zas, Zat, Zau, Zav, AV.kill, AO.kill, AV.thaw, AO.thaw, Zaw, Zax, Zay, Zaz, Zba, Zbb, Zbc, Zbd, Zbe, ite_true, ite_false, reduceCtorEq, Nat.reduceAdd, Nat.reduceMul, Nat.reduceLeDiff, Nat.reduceLT, Nat.reduceEqDiff, forall_const]
    refine useG (fun _ => inside_ok s (f : Nat) (by omega)) rfl (.inl rfl) ?_
    simp only [ZZ, IsnK_some, Za, Zb, Zc, Zd, Ze, Zf, Zg, Zh, rd, AV.un, AV.unA, AV.ad, Zi, Zj, Zk, Zl, Zm, Zn, Zo, Zp, Zq, Zr, Zs, Zt, Zu, Zv, Zw, Zx, Zy, Zz, Zaa, Zab, Zac, Zad, Zae, Zaf, Zag, Zah, Zai, Zaj, Zak, Zal, Zam, Zan, wk1, wk, Zao, Zap, Zaq, Zar, Zas, Zat, Zau, Zav, AV.kill, AO.kill, AV.thaw, AO.thaw, Zaw, Zax, Zay, Zaz, Zba, Zbb, Zbc, Zbd, Zbe, ite_true, ite_false, reduceCtorEq, Nat.reduceAdd, Nat.reduceMul, Nat.reduceLeDiff, Nat.reduceLT, Nat.reduceEqDiff, forall_const]
    refine br ?_ ?_
    · intro hc
      simp only [Bool.and_eq_true, decide_eq_true_eq] at hc
      obtain ⟨g, rfl⟩ : ∃ g, f = g + 1 := ⟨f - 1, by omega⟩
      have hgg : ((g + 1 : Nat) : Int) - 1 = (g : Nat) := by omega
      simp only [ZZ, IsnK_some, Za, Zb, Zc, Zd, Ze, Zf, Zg, Zh, rd, AV.un, AV.unA, AV.ad, Zi, Zj, Zk, Zl, Zm, Zn, Zo, Zp, Zq, Zr, Zs, Zt, Zu, Zv, Zw, Zx, Zy, Zz, Zaa, Zab, Zac, Zad, Zae, Zaf, Zag, Zah, Zai, Zaj, Zak, Zal, Zam, Zan, wk1, wk, Zao, Zap, Zaq, Zar, Zas, Zat, Zau, Zav, AV.kill, AO.kill, AV.thaw, AO.thaw, Zaw, Zax, Zay, Zaz, Zba, Zbb, Zbc, Zbd, Zbe, ite_true, ite_false, reduceCtorEq, Nat.reduceAdd, Nat.reduceMul, Nat.reduceLeDiff, Nat.reduceLT, Nat.reduceEqDiff, forall_const, hgg]
      ((repeat' (with_reducible apply And.intro)) <;> try ((first | first | assumption | trivial | exact (fun hq => by rw [hq]; rfl) | exact i64_of (by omega) (by omega) | omega | (simp; done) | (simp; omega) | (intro hsc; have hs0 := hsc; (try have hsd := of_decide_eq_true hsc); (try simp only [Bool.not_eq_true', Bool.or_eq_false_iff, Bool.and_eq_true, Bool.or_eq_true, decide_eq_true_eq, decide_eq_false_iff_not] at hsc); (repeat' (with_reducible apply And.intro)) <;> (first | assumption | trivial | exact (fun hq => by rw [hq]; rfl) | exact i64_of (by omega) (by omega) | omega | (simp; done) | (simp; omega) | (intro hse; simp [hse, hs0]; done) | (intro hse; simp only [hse, hs0, Bool.true_and, Bool.and_true, Bool.not_false, Bool.not_true, Bool.and_self]; done))))))
      refine end_round ((g)) [.p (.str s), .any, .any, .any, .any, .row (.l 5), .any, .adr (.l 7) 0, .p (.sl 2 es), .p (int (l.length : Nat)), .p (int (k : Nat)), .any, .any, .any, .any, .any, .any, .any, .any, .any, .any, .any, .any, .any, .any, .any, .any, .any, .any, .any, .any, .any, .any, .any, .any, .any, .any, .any, .any, .any, .any] [(.l 5, .row (out.map spn) tSpan 2 true), (.l 7, .box [.p (int ((g) : Nat)), .p (int (b : Nat))] tSpan)] (by omega) (by (simp only [ZZ, IsnK_some, Za, Zb, Zc, Zd, Ze, Zf, Zg, Zh, rd, AV.un, AV.unA, AV.ad, Zi, Zj, Zk, Zl, Zm, Zn, Zo, Zp, Zq, Zr, Zs, Zt, Zu, Zv, Zw, Zx, Zy, Zz, Zaa, Zab, Zac, Zad, Zae, Zaf, Zag, Zah, Zai, Zaj, Zak, Zal, Zam, Zan, wk1, wk, Zao, Zap, Zaq, Zar, Zas, Zat, Zau, Zav, AV.kill, AO.kill, AV.thaw, AO.thaw, Zaw, Zax, Zay, Zaz, Zba, Zbb, Zbc, Zbd, Zbe, ite_true, ite_false, reduceCtorEq, Nat.reduceAdd, Nat.reduceMul, Nat.reduceLeDiff, Nat.reduceLT, Nat.reduceEqDiff, forall_const]; try trivial)) (by (simp only [ZZ, IsnK_some, Za, Zb, Zc, Zd, Ze, Zf, Zg, Zh, rd, AV.un, AV.unA, AV.ad, Zi, Zj, Zk, Zl, Zm, Zn, Zo, Zp, Zq, Zr, Zs, Zt, Zu, Zv, Zw, Zx, Zy, Zz, Zaa, Zab, Zac, Zad, Zae, Zaf, Zag, Zah, Zai, Zaj, Zak, Zal, Zam, Zan, wk1, wk, Zao, Zap, Zaq, Zar, Zas, Zat, Zau, Zav, AV.kill, AO.kill, AV.thaw, AO.thaw, Zaw, Zax, Zay, Zaz, Zba, Zbb, Zbc, Zbd, Zbe, ite_true, ite_false, reduceCtorEq, Nat.reduceAdd, Nat.reduceMul, Nat.reduceLeDiff, Nat.reduceLT, Nat.reduceEqDiff, forall_const]; try trivial)) ⟨g, rfl, by rw [← hf, backN, if_pos hc.2], by omega, rfl, rfl⟩
    · intro hc
      have hfn : f = backN s a := by
        rw [← hf]
        cases f with
        | zero => rfl
        | succ g =>
          have : insE s ((g + 1 : Nat) : Int) = false := by simpa using hc
          rw [backN, if_neg (by rw [this]; simp)]
      rw [hfn]
      simp only [ZZ, IsnK_some, Za, Zb, Zc, Zd, Ze, Zf, Zg, Zh, rd, AV.un, AV.unA, AV.ad, Zi, Zj, Zk, Zl, Zm, Zn, Zo, Zp, Zq, Zr, Zs, Zt, Zu, Zv, Zw, Zx, Zy, Zz, Zaa, Zab, Zac, Zad, Zae, Zaf, Zag, Zah, Zai, Zaj, Zak, Zal, Zam, Zan, wk1, wk, Zao, Zap, Zaq, Zar, Zas, Zat, Zau, Zav, AV.kill, AO.kill, AV.thaw, AO.thaw, Zaw, Zax, Zay, Zaz, Zba, Zbb, Zbc, Zbd, Zbe, ite_true, ite_false, reduceCtorEq, Nat.reduceAdd, Nat.reduceMul, Nat.reduceLeDiff, Nat.reduceLT, Nat.reduceEqDiff, forall_const]
      refine loop_intro (fun n fr L => ∃ (g : Nat), s.length - g = n ∧ (fwdN s (s.length - g) g = fwdN s (s.length - b) b) ∧ (g ≤ s.length) ∧ fr = [.p (.str s), .any, .any, .any, .any, .row (.l 5), .any, .adr (.l 7) 0, .p (.sl 2 es), .p (int (l.length : Nat)), .p (int (k : Nat)), .any, .any, .any, .any, .any, .any, .any, .any, .any, .any, .any, .any, .any, .any, .any, .any, .any, .any, .any, .any, .any, .any, .any, .any, .any, .any, .any, .any, .any, .any] ∧ L = [(.l 5, .row (out.map spn) tSpan 2 true), (.l 7, .box [.p (int (backN s a : Nat)), .p (int (g : Nat))] tSpan)]) (s.length - b) [.p (.str s), .any, .any, .any, .any, .row (.l 5), .any, .adr (.l 7) 0, .p (.sl 2 es), .p (int (l.length : Nat)), .p (int (k : Nat)), .any, .any, .any, .any, .any, .any, .any, .any, .any, .any, .any, .any, .any, .any, .any, .any, .any, .any, .any, .any, .any, .any, .any, .any, .any, .any, .any, .any, .any, .any] [(.l 5, .row (out.map spn) tSpan 2 true), (.l 7, .box [.p (int (backN s a : Nat)), .p (int (b : Nat))] tSpan)] (by (simp only [ZZ, IsnK_some, Za, Zb, Zc, Zd, Ze, Zf, Zg, Zh, rd, AV.un, AV.unA, AV.ad, Zi, Zj, Zk, Zl, Zm, Zn, Zo, Zp, Zq, Zr, Zs, Zt, Zu, Zv, Zw, Zx, Zy, Zz, Zaa, Zab, Zac, Zad, Zae, Zaf, Zag, Zah, Zai, Zaj, Zak, Zal, Zam, Zan, wk1, wk, Zao, Zap, Zaq, Zar, Zas, Zat, Zau, Zav, AV.kill, AO.kill, AV.thaw, AO.thaw, Zaw, Zax, Zay, Zaz, Zba, Zbb, Zbc, Zbd, Zbe, ite_true, ite_false, reduceCtorEq, Nat.reduceAdd, Nat.reduceMul, Nat.reduceLeDiff, Nat.reduceLT, Nat.reduceEqDiff, forall_const]; try trivial)) (by (simp only [ZZ, IsnK_some, Za, Zb, Zc, Zd, Ze, Zf, Zg, Zh, rd, AV.un, AV.unA, AV.ad, Zi, Zj, Zk, Zl, Zm, Zn, Zo, Zp, Zq, Zr, Zs, Zt, Zu, Zv, Zw, Zx, Zy, Zz, Zaa, Zab, Zac, Zad, Zae, Zaf, Zag, Zah, Zai, Zaj, Zak, Zal, Zam, Zan, wk1, wk, Zao, Zap, Zaq, Zar, Zas, Zat, Zau, Zav, AV.kill, AO.kill, AV.thaw, AO.thaw, Zaw, Zax, Zay, Zaz, Zba, Zbb, Zbc, Zbd, Zbe, ite_true, ite_false, reduceCtorEq, Nat.reduceAdd, Nat.reduceMul, Nat.reduceLeDiff, Nat.reduceLT, Nat.reduceEqDiff, forall_const]; try trivial)) ⟨b, rfl, rfl, hbn, rfl, rfl⟩ ?_
      rintro n fr L ⟨g, rfl, hg2, hgb, rfl, rfl⟩
      simp only [ir_privilege_points_L2, ZZ, IsnK_some, Za, Zb, Zc, Zd, Ze, Zf, Zg, Zh, rd, AV.un, AV.unA, AV.ad, Zi, Zj, Zk, Zl, Zm, Zn, Zo, Zp, Zq, Zr, Zs, Zt, Zu, Zv, Zw, Zx, Zy, Zz, Zaa, Zab, Zac, Zad, Zae, Zaf, Zag, Zah, Zai, Zaj, Zak, Zal, Zam, Zan, wk1, wk, Zao, Zap, Zaq, Zar, Zas, Zat, Zau, Zav, AV.kill, AO.kill, AV.thaw, AO.thaw, Zaw, Zax, Zay, Zaz, Zba, Zbb, Zbc, Zbd, Zbe, ite_true, ite_false, reduceCtorEq, Nat.reduceAdd, Nat.reduceMul, Nat.reduceLeDiff, Nat.reduceLT, Nat.reduceEqDiff, forall_const]
      refine use1 (inside_ok s (g : Nat) (by omega)) rfl (.inl rfl) ?_
      simp only [ZZ, IsnK_some, Za, Zb, Zc, Zd, Ze, Zf, Zg, Zh, rd, AV.un, AV.unA, AV.ad, Zi, Zj, Zk, Zl, Zm, Zn, Zo, Zp, Zq, Zr, Zs, Zt, Zu, Zv, Zw, Zx, Zy, Zz, Zaa, Zab, Zac, Zad, Zae, Zaf, Zag, Zah, Zai, Zaj, Zak, Zal, Zam, Zan, wk1, wk, Zao, Zap, Zaq, Zar, Zas, Zat, Zau, Zav, AV.kill, AO.kill, AV.thaw, AO.thaw, Zaw, Zax, Zay, Zaz, Zba, Zbb, Zbc, Zbd, Zbe, ite_true, ite_false, reduceCtorEq, Nat.reduceAdd, Nat.reduceMul, Nat.reduceLeDiff, Nat.reduceLT, Nat.reduceEqDiff, forall_const]
      refine br ?_ ?_
      · intro hc
        have hgl := insE_lt hc
        simp only [ZZ, IsnK_some, Za, Zb, Zc, Zd, Ze, Zf, Zg, Zh, rd, AV.un, AV.unA, AV.ad, Zi, Zj, Zk, Zl, Zm, Zn, Zo, Zp, Zq, Zr, Zs, Zt, Zu, Zv, Zw, Zx, Zy, Zz, Zaa, Zab, Zac, Zad, Zae, Zaf, Zag, Zah, Zai, Zaj, Zak, Zal, Zam, Zan, wk1, wk, Zao, Zap, Zaq, Zar, Zas, Zat, Zau, Zav, AV.kill, AO.kill, AV.thaw, AO.thaw, Zaw, Zax, Zay, Zaz, Zba, Zbb, Zbc, Zbd, Zbe, ite_true, ite_false, reduceCtorEq, Nat.reduceAdd, Nat.reduceMul, Nat.reduceLeDiff, Nat.reduceLT, Nat.reduceEqDiff, forall_const]
        ((repeat' (with_reducible apply And.intro)) <;> try ((first | first | assumption | trivial | exact (fun hq => by rw [hq]; rfl) | exact i64_of (by omega) (by omega) | omega | (simp; done) | (simp; omega) | (intro hsc; have hs0 := hsc; (try have hsd := of_decide_eq_true hsc); (try simp only [Bool.not_eq_true', Bool.or_eq_false_iff, Bool.and_eq_true, Bool.or_eq_true, decide_eq_true_eq, decide_eq_false_iff_not] at hsc); (repeat' (with_reducible apply And.intro)) <;> (first | assumption | trivial | exact (fun hq => by rw [hq]; rfl) | exact i64_of (by omega) (by omega) | omega | (simp; done) | (simp; omega) | (intro hse; simp [hse, hs0]; done) | (intro hse; simp only [hse, hs0, Bool.true_and, Bool.and_true, Bool.not_false, Bool.not_true, Bool.and_self]; done))))))
        refine end_round (s.length - (g + 1)) [.p (.str s), .any, .any, .any, .any, .row (.l 5), .any, .adr (.l 7) 0, .p (.sl 2 es), .p (int (l.length : Nat)), .p (int (k : Nat)), .any, .any, .any, .any, .any, .any, .any, .any, .any, .any, .any, .any, .any, .any, .any, .any, .any, .any, .any, .any, .any, .any, .any, .any, .any, .any, .any, .any, .any, .any] [(.l 5, .row (out.map spn) tSpan 2 true), (.l 7, .box [.p (int (backN s a : Nat)), .p (int ((g + 1) : Nat))] tSpan)] (by omega) (by (simp only [ZZ, IsnK_some, Za, Zb, Zc, Zd, Ze, Zf, Zg, Zh, rd, AV.un, AV.unA, AV.ad, Zi, Zj, Zk, Zl, Zm, Zn, Zo, Zp, Zq, Zr, Zs, Zt, Zu, Zv, Zw, Zx, Zy, Zz, Zaa, Zab, Zac, Zad, Zae, Zaf, Zag, Zah, Zai, Zaj, Zak, Zal, Zam, Zan, wk1, wk, Zao, Zap, Zaq, Zar, Zas, Zat, Zau, Zav, AV.kill, AO.kill, AV.thaw, AO.thaw, Zaw, Zax, Zay, Zaz, Zba, Zbb, Zbc, Zbd, Zbe, ite_true, ite_false, reduceCtorEq, Nat.reduceAdd, Nat.reduceMul, Nat.reduceLeDiff, Nat.reduceLT, Nat.reduceEqDiff, forall_const]; try trivial)) (by (simp only [ZZ, IsnK_some, Za, Zb, Zc, Zd, Ze, Zf, Zg, Zh, rd, AV.un, AV.unA, AV.ad, Zi, Zj, Zk, Zl, Zm, Zn, Zo, Zp, Zq, Zr, Zs, Zt, Zu, Zv, Zw, Zx, Zy, Zz, Zaa, Zab, Zac, Zad, Zae, Zaf, Zag, Zah, Zai, Zaj, Zak, Zal, Zam, Zan, wk1, wk, Zao, Zap, Zaq, Zar, Zas, Zat, Zau, Zav, AV.kill, AO.kill, AV.thaw, AO.thaw, Zaw, Zax, Zay, Zaz, Zba, Zbb, Zbc, Zbd, Zbe, ite_true, ite_false, reduceCtorEq, Nat.reduceAdd, Nat.reduceMul, Nat.reduceLeDiff, Nat.reduceLT, Nat.reduceEqDiff, forall_const]; try trivial)) ⟨g + 1, rfl, by rw [← hg2, show s.length - g = (s.length - (g + 1)) + 1 from by omega, fwdN, if_pos hc], by omega, rfl, rfl⟩
      · intro hc
        have hgn : g = fwdN s (s.length - b) b := by
          rw [← hg2]
          cases hh : s.length - g with
          | zero => rfl
          | succ m => rw [fwdN, if_neg (by rw [hc]; simp)]
        rw [hgn]
        simp only [ZZ, IsnK_some, Za, Zb, Zc, Zd, Ze, Zf, Zg, Zh, rd, AV.un, AV.unA, AV.ad, Zi, Zj, Zk, Zl, Zm, Zn, Zo, Zp, Zq, Zr, Zs, Zt, Zu, Zv, Zw, Zx, Zy, Zz, Zaa, Zab, Zac, Zad, Zae, Zaf, Zag, Zah, Zai, Zaj, Zak, Zal, Zam, Zan, wk1, wk, Zao, Zap, Zaq, Zar, Zas, Zat, Zau, Zav, AV.kill, AO.kill, AV.thaw, AO.thaw, Zaw, Zax, Zay, Zaz, Zba, Zbb, Zbc, Zbd, Zbe, ite_true, ite_false, reduceCtorEq, Nat.reduceAdd, Nat.reduceMul, Nat.reduceLeDiff, Nat.reduceLT, Nat.reduceEqDiff, forall_const]
        simp only [List.length_map]
        ((repeat' (with_reducible apply And.intro)) <;> try ((first | first | assumption | trivial | exact (fun hq => by rw [hq]; rfl) | exact i64_of (by omega) (by omega) | omega | (simp; done) | (simp; omega) | (intro hsc; have hs0 := hsc; (try have hsd := of_decide_eq_true hsc); (try simp only [Bool.not_eq_true', Bool.or_eq_false_iff, Bool.and_eq_true, Bool.or_eq_true, decide_eq_true_eq, decide_eq_false_iff_not] at hsc); (repeat' (with_reducible apply And.intro)) <;> (first | assumption | trivial | exact (fun hq => by rw [hq]; rfl) | exact i64_of (by omega) (by omega) | omega | (simp; done) | (simp; omega) | (intro hse; simp [hse, hs0]; done) | (intro hse; simp only [hse, hs0, Bool.true_and, Bool.and_true, Bool.not_false, Bool.not_true, Bool.and_self]; done))))))
        refine end_round (l.length - (k + 1)) [.p (.str s), .any, .any, .any, .any, .row (.l 5), .any, .any, .p (.sl 2 es), .p (int (l.length : Nat)), .p (int ((k + 1) : Nat)), .any, .any, .any, .any, .any, .any, .any, .any, .any, .any, .any, .any, .any, .any, .any, .any, .any, .any, .any, .any, .any, .any, .any, .any, .any, .any, .any, .any, .any, .any] [(.l 5, .row ((out ++ [pntF s p]).map spn) tSpan 2 true)] (by omega) (by (simp only [ZZ, IsnK_some, Za, Zb, Zc, Zd, Ze, Zf, Zg, Zh, rd, AV.un, AV.unA, AV.ad, Zi, Zj, Zk, Zl, Zm, Zn, Zo, Zp, Zq, Zr, Zs, Zt, Zu, Zv, Zw, Zx, Zy, Zz, Zaa, Zab, Zac, Zad, Zae, Zaf, Zag, Zah, Zai, Zaj, Zak, Zal, Zam, Zan, wk1, wk, Zao, Zap, Zaq, Zar, Zas, Zat, Zau, Zav, AV.kill, AO.kill, AV.thaw, AO.thaw, Zaw, Zax, Zay, Zaz, Zba, Zbb, Zbc, Zbd, Zbe, ite_true, ite_false, reduceCtorEq, Nat.reduceAdd, Nat.reduceMul, Nat.reduceLeDiff, Nat.reduceLT, Nat.reduceEqDiff, forall_const]; try trivial)) (by rw [List.map_append, hpn]; simp only [spn, ZZ, IsnK_some, Za, Zb, Zc, Zd, Ze, Zf, Zg, Zh, rd, AV.un, AV.unA, AV.ad, Zi, Zj, Zk, Zl, Zm, Zn, Zo, Zp, Zq, Zr, Zs, Zt, Zu, Zv, Zw, Zx, Zy, Zz, Zaa, Zab, Zac, Zad, Zae, Zaf, Zag, Zah, Zai, Zaj, Zak, Zal, Zam, Zan, wk1, wk, Zao, Zap, Zaq, Zar, Zas, Zat, Zau, Zav, AV.kill, AO.kill, AV.thaw, AO.thaw, Zaw, Zax, Zay, Zaz, Zba, Zbb, Zbc, Zbd, Zbe, ite_true, ite_false, reduceCtorEq, Nat.reduceAdd, Nat.reduceMul, Nat.reduceLeDiff, Nat.reduceLT, Nat.reduceEqDiff, forall_const]) ⟨k + 1, out ++ [pntF s p], by omega, rfl, by rw [hout, pointsF, List.take_succ_eq_append_getElem (by simpa using hlt)]; congr 2; simp; rw [(List.getElem?_eq_some_iff.1 hp).2], rfl, rfl⟩
  · intro h
    have hge : l.length ≤ k := by have := of_decide_eq_false h; omega
    have : (pointsF s l).take k = pointsF s l := List.take_of_length_le (by simp [pointsF]; exact hge)
    rw [this] at hout
    simp only [ZZ, IsnK_some, Za, Zb, Zc, Zd, Ze, Zf, Zg, Zh, rd, AV.un, AV.unA, AV.ad, Zi, Zj, Zk, Zl, Zm, Zn, Zo, Zp, Zq, Zr, Zs, Zt, Zu, Zv, Zw, Zx, Zy, Zz, Zaa, Zab, Zac, Zad, Zae, Zaf, Zag, Zah, Zai, Zaj, Zak, Zal, Zam, Zan, wk1, wk, Zao, Zap, Zaq, Zar, Zas, Zat, Zau, Zav, AV.kill, AO.kill, AV.thaw, AO.thaw, Zaw, Zax, Zay, Zaz, Zba, Zbb, Zbc, Zbd, Zbe, ite_true, ite_false, reduceCtorEq, Nat.reduceAdd, Nat.reduceMul, Nat.reduceLeDiff, Nat.reduceLT, Nat.reduceEqDiff, forall_const]
    exact fin_F 5 _ rfl rfl (by rw [hout])
end

/-- Rows of bytes. -/
def bU (n : Nat) (g : Nat → UInt8) : List (List PV) := (List.range n).map fun j => [.int .u8 ((g j).toNat : Nat)]
theorem bU_len (n : Nat) (g : Nat → UInt8) : (bU n g).length = n := by simp [bU]
theorem bU_get {n i : Nat} {g : Nat → UInt8} (h : i < n) : (bU n g).getD i [] = [.int .u8 ((g i).toNat : Nat)] := by
  simp [bU, List.getD, List.getElem?_map, List.getElem?_range h]
theorem bU_set {n i : Nat} {g : Nat → UInt8} (c : UInt8) : (bU n g).set i [.int .u8 (c.toNat : Nat)] = bU n (fun j => if j = i then c else g j) := by
  apply List.ext_getElem?
  intro j
  by_cases hj : j < n
  · by_cases he : j = i
    · subst he
      rw [List.getElem?_set_self (by simpa [bU] using hj)]
      simp [bU, List.getElem?_range hj]
    · rw [List.getElem?_set_ne (fun e => he e.symm)]
      simp [bU, List.getElem?_range hj, he]
  · rw [List.getElem?_eq_none (by simpa [bU] using hj), List.getElem?_eq_none (by simpa [bU] using hj)]
theorem bU_of (s : List UInt8) : (s.map fun q => [PV.int .u8 (q.toNat : Nat)]) = bU s.length (fun j => s.getD j 0) := by
  apply List.ext_getElem?
  intro j
  by_cases hj : j < s.length
  · simp [bU, List.getElem?_range hj, List.getElem?_eq_getElem hj, List.getD]
  · rw [List.getElem?_eq_none (by simpa using hj), List.getElem?_eq_none (by simpa [bU] using hj)]
theorem bytes_bU (n : Nat) (g : Nat → UInt8) : bytesP (bU n g) = some ((List.range n).map g) := by
  have : ∀ l : List Nat, bytesP (l.map fun j => [PV.int .u8 ((g j).toNat : Nat)]) = some (l.map g) := by
    intro l
    induction l with
    | nil => rfl
    | cons x r ih => simp [bytesP, ih]
  exact this _
def blankB (c : UInt8) : Bool := decide ((c.toNat : Int) = 32) || decide ((c.toNat : Int) = 10)
def redG (s : List UInt8) (m : Nat → Bool) (j : Nat) : UInt8 := if (m j && !blankB (s.getD j 0)) = true then 35 else s.getD j 0
theorem redG_on {s : List UInt8} {m : Nat → Bool} {i : Nat} (h : blankB (redG s m i) = false) : (fun j => if j = i then 35 else redG s m j) = redG s (fun j => m j || decide (j = i)) := by
  funext j
  by_cases hj : j = i
  · subst hj
    have hb : blankB (s.getD j 0) = false := by
      unfold redG at h
      split at h
      · rename_i hc; simp at hc; exact hc.2
      · exact h
    simp only [redG, if_true, hb]; simp
  · simp [redG, hj]
theorem redG_off {s : List UInt8} {m : Nat → Bool} {i : Nat} (h : blankB (redG s m i) = true) : redG s m = redG s (fun j => m j || decide (j = i)) := by
  funext j
  by_cases hj : j = i
  · subst hj
    have hb : blankB (s.getD j 0) = true := by
      unfold redG at h
      split at h
      · exact absurd h (by decide)
      · exact h
    simp only [redG, hb]; simp
  · simp [redG, hj]
def redactF (s : List UInt8) (l : List (Int × Int)) : List UInt8 := (List.range s.length).map (redG s (cov (pointsF s l)))
theorem tErr_zero {s : List UInt8} {l : List (Int × Int)} (h : tErr s l = 0) : s.length ≤ 20000 ∧ textE s = true ∧ spansF l s.length = 0 := by
  have hm := firstE_mem h
  have h1 := hm (largeE s) (by simp)
  have h2 := hm (whenE (!textE s) 3) (by simp)
  have h3 := hm (spansF l s.length) (by simp)
  refine ⟨?_, ?_, h3⟩
  · unfold largeE whenE at h1
    split at h1
    · cases h1
    · rename_i hh; simp at hh; omega
  · unfold whenE at h2
    split at h2
    · cases h2
    · rename_i hh; simpa using hh

theorem Redact_ok (s : List UInt8) (l : List (Int × Int)) (hs : s.length ≤ 1000000000) (hl : l.length ≤ 1000000) :
    PCall Tryd.prog E0 52 [.str s, sps l] (· = .tup [.str (if tErr s l = 0 then redactF s l else []), int (tErr s l)]) := by
  refine pcallF mixed Tryd.func52 ck_privilege_Redact ?_
  simp only [a0, l0, OS.ao, List.map_cons, List.map_nil, List.length_cons, List.length_nil, List.cons_append, List.nil_append, Nat.reduceSub, Nat.reduceAdd, List.replicate_succ, List.replicate_zero, ir_privilege_Redact, rs_privilege_Redact, ZZ, IsnK_some, Za, Zb, Zc, Zd, Ze, Zf, Zg, Zh, rd, AV.un, AV.unA, AV.ad, Zi, Zj, Zk, Zl, Zm, Zn, Zo, Zp, Zq, Zr, Zs, Zt, Zu, Zv, Zw, Zx, Zy, Zz, Zaa, Zab, Zac, Zad, Zae, Zaf, Zag, Zah, Zai, Zaj, Zak, Zal, Zam, Zan, wk1, wk, Zao, Zap, Zaq, Zar, Zas, Zat, Zau, Zav, AV.kill, AO.kill, AV.thaw, AO.thaw, Zaw, Zax, Zay, Zaz, Zba, Zbb, Zbc, Zbd, Zbe, ite_true, ite_false, reduceCtorEq, Nat.reduceAdd, Nat.reduceMul, Nat.reduceLeDiff, Nat.reduceLT, Nat.reduceEqDiff, forall_const]
  refine use1 (textError_ok s l hs hl) rfl (.inl rfl) ?_
  simp only [ZZ, IsnK_some, Za, Zb, Zc, Zd, Ze, Zf, Zg, Zh, rd, AV.un, AV.unA, AV.ad, Zi, Zj, Zk, Zl, Zm, Zn, Zo, Zp, Zq, Zr, Zs, Zt, Zu, Zv, Zw, Zx, Zy, Zz, Zaa, Zab, Zac, Zad, Zae, Zaf, Zag, Zah, Zai, Zaj, Zak, Zal, Zam, Zan, wk1, wk, Zao, Zap, Zaq, Zar, Zas, Zat, Zau, Zav, AV.kill, AO.kill, AV.thaw, AO.thaw, Zaw, Zax, Zay, Zaz, Zba, Zbb, Zbc, Zbd, Zbe, ite_true, ite_false, reduceCtorEq, Nat.reduceAdd, Nat.reduceMul, Nat.reduceLeDiff, Nat.reduceLT, Nat.reduceEqDiff, forall_const]
  refine br ?_ ?_
  · intro h
    have h : ¬ tErr s l = 0 := by simpa using h
    simp only [ZZ, IsnK_some, Za, Zb, Zc, Zd, Ze, Zf, Zg, Zh, rd, AV.un, AV.unA, AV.ad, Zi, Zj, Zk, Zl, Zm, Zn, Zo, Zp, Zq, Zr, Zs, Zt, Zu, Zv, Zw, Zx, Zy, Zz, Zaa, Zab, Zac, Zad, Zae, Zaf, Zag, Zah, Zai, Zaj, Zak, Zal, Zam, Zan, wk1, wk, Zao, Zap, Zaq, Zar, Zas, Zat, Zau, Zav, AV.kill, AO.kill, AV.thaw, AO.thaw, Zaw, Zax, Zay, Zaz, Zba, Zbb, Zbc, Zbd, Zbe, ite_true, ite_false, reduceCtorEq, Nat.reduceAdd, Nat.reduceMul, Nat.reduceLeDiff, Nat.reduceLT, Nat.reduceEqDiff, forall_const]
    rw [if_neg h]
  · intro h
    have h : tErr s l = 0 := by simpa using h
    obtain ⟨h1, h2, h3⟩ := tErr_zero h
    have h4 := spansF_in h3
    rw [if_pos h, h]
    simp only [ZZ, IsnK_some, Za, Zb, Zc, Zd, Ze, Zf, Zg, Zh, rd, AV.un, AV.unA, AV.ad, Zi, Zj, Zk, Zl, Zm, Zn, Zo, Zp, Zq, Zr, Zs, Zt, Zu, Zv, Zw, Zx, Zy, Zz, Zaa, Zab, Zac, Zad, Zae, Zaf, Zag, Zah, Zai, Zaj, Zak, Zal, Zam, Zan, wk1, wk, Zao, Zap, Zaq, Zar, Zas, Zat, Zau, Zav, AV.kill, AO.kill, AV.thaw, AO.thaw, Zaw, Zax, Zay, Zaz, Zba, Zbb, Zbc, Zbd, Zbe, ite_true, ite_false, reduceCtorEq, Nat.reduceAdd, Nat.reduceMul, Nat.reduceLeDiff, Nat.reduceLT, Nat.reduceEqDiff, forall_const]
    ((repeat' (with_reducible apply And.intro)) <;> try ((first | first | assumption | trivial | exact (fun hq => by rw [hq]; rfl) | exact i64_of (by omega) (by omega) | omega | (simp; done) | (simp; omega) | (intro hsc; have hs0 := hsc; (try have hsd := of_decide_eq_true hsc); (try simp only [Bool.not_eq_true', Bool.or_eq_false_iff, Bool.and_eq_true, Bool.or_eq_true, decide_eq_true_eq, decide_eq_false_iff_not] at hsc); (repeat' (with_reducible apply And.intro)) <;> (first | assumption | trivial | exact (fun hq => by rw [hq]; rfl) | exact i64_of (by omega) (by omega) | omega | (simp; done) | (simp; omega) | (intro hse; simp [hse, hs0]; done) | (intro hse; simp only [hse, hs0, Bool.true_and, Bool.and_true, Bool.not_false, Bool.not_true, Bool.and_self]; done))))))
    refine useF (points_ok s l hs hl (fun p hp => by have := h4 p hp; omega)) rfl rfl ?_
    rintro es rfl
    have hpl : (pointsF s l).length = l.length := by simp [pointsF]
    have hpb : ∀ p ∈ pointsF s l, 0 ≤ p.1 ∧ 0 ≤ p.2 ∧ p.2 ≤ s.length := by
      intro p hp
      obtain ⟨q, hq, rfl⟩ := List.mem_map.1 hp
      have := h4 q hq
      have := fwdN_le s (s.length - q.2.toNat) q.2.toNat (by omega)
      simp only [pntF]
      omega
    unfold redactF
    generalize pointsF s l = ps at *
    have hln : (ps.map spn).length = l.length := by simp [hpl]
    rw [bU_of]
    simp only [ZZ, IsnK_some, Za, Zb, Zc, Zd, Ze, Zf, Zg, Zh, rd, AV.un, AV.unA, AV.ad, Zi, Zj, Zk, Zl, Zm, Zn, Zo, Zp, Zq, Zr, Zs, Zt, Zu, Zv, Zw, Zx, Zy, Zz, Zaa, Zab, Zac, Zad, Zae, Zaf, Zag, Zah, Zai, Zaj, Zak, Zal, Zam, Zan, wk1, wk, Zao, Zap, Zaq, Zar, Zas, Zat, Zau, Zav, AV.kill, AO.kill, AV.thaw, AO.thaw, Zaw, Zax, Zay, Zaz, Zba, Zbb, Zbc, Zbd, Zbe, ite_true, ite_false, reduceCtorEq, Nat.reduceAdd, Nat.reduceMul, Nat.reduceLeDiff, Nat.reduceLT, Nat.reduceEqDiff, forall_const, hln]
    have hget : ∀ k p, ps[k]? = some p → (ps.map spn).getD k [] = [int p.1, int p.2] := fun k p hp => getD_map hp
    generalize hes : ps.map spn = es at hln hget ⊢
    refine loop_intro (fun n fr L => ∃ (k : Nat) (g : Nat → UInt8), k ≤ l.length ∧ n = l.length - k ∧ (g = redG s (cov (ps.take k))) ∧ fr = [.any, .any, .any, .any, .any, .any, .any, .row (.l 18), .any, .any, .any, .any, .any, .any, .any, .any, .any, .any, .any, .any, .any, .row (.l 21), .p (int (l.length : Nat)), .p (int (k : Nat)), .any, .any, .any, .any, .any, .any, .any, .any, .any, .any, .any, .any, .any, .any, .any, .any, .any, .any, .any, .any, .any, .any, .any, .any, .any, .any, .any, .any, .any] ∧ L = [(.l 18, .row (bU s.length g) 5 1 false), (.l 21, .row es tSpan 2 true)]) (l.length) [.any, .any, .any, .any, .any, .any, .any, .row (.l 18), .any, .any, .any, .any, .any, .any, .any, .any, .any, .any, .any, .any, .any, .row (.l 21), .p (int (l.length : Nat)), .p (int (0 : Nat)), .any, .any, .any, .any, .any, .any, .any, .any, .any, .any, .any, .any, .any, .any, .any, .any, .any, .any, .any, .any, .any, .any, .any, .any, .any, .any, .any, .any, .any] [(.l 18, .row (bU s.length (fun j => s.getD j 0)) 5 1 false), (.l 21, .row es tSpan 2 true)] (by (simp only [ZZ, IsnK_some, Za, Zb, Zc, Zd, Ze, Zf, Zg, Zh, rd, AV.un, AV.unA, AV.ad, Zi, Zj, Zk, Zl, Zm, Zn, Zo, Zp, Zq, Zr, Zs, Zt, Zu, Zv, Zw, Zx, Zy, Zz, Zaa, Zab, Zac, Zad, Zae, Zaf, Zag, Zah, Zai, Zaj, Zak, Zal, Zam, Zan, wk1, wk, Zao, Zap, Zaq, Zar, Zas, Zat, Zau, Zav, AV.kill, AO.kill, AV.thaw, AO.thaw, Zaw, Zax, Zay, Zaz, Zba, Zbb, Zbc, Zbd, Zbe, ite_true, ite_false, reduceCtorEq, Nat.reduceAdd, Nat.reduceMul, Nat.reduceLeDiff, Nat.reduceLT, Nat.reduceEqDiff, forall_const]; try trivial)) (by (simp only [ZZ, IsnK_some, Za, Zb, Zc, Zd, Ze, Zf, Zg, Zh, rd, AV.un, AV.unA, AV.ad, Zi, Zj, Zk, Zl, Zm, Zn, Zo, Zp, Zq, Zr, Zs, Zt, Zu, Zv, Zw, Zx, Zy, Zz, Zaa, Zab, Zac, Zad, Zae, Zaf, Zag, Zah, Zai, Zaj, Zak, Zal, Zam, Zan, wk1, wk, Zao, Zap, Zaq, Zar, Zas, Zat, Zau, Zav, AV.kill, AO.kill, AV.thaw, AO.thaw, Zaw, Zax, Zay, Zaz, Zba, Zbb, Zbc, Zbd, Zbe, ite_true, ite_false, reduceCtorEq, Nat.reduceAdd, Nat.reduceMul, Nat.reduceLeDiff, Nat.reduceLT, Nat.reduceEqDiff, forall_const]; try trivial)) ⟨0, fun j => s.getD j 0, by omega, by omega, by funext j; simp [redG, cov], rfl, rfl⟩ ?_
    rintro n fr L ⟨k, g, hk, rfl, hg, rfl, rfl⟩
    simp only [ir_privilege_Redact_L0, ZZ, IsnK_some, Za, Zb, Zc, Zd, Ze, Zf, Zg, Zh, rd, AV.un, AV.unA, AV.ad, Zi, Zj, Zk, Zl, Zm, Zn, Zo, Zp, Zq, Zr, Zs, Zt, Zu, Zv, Zw, Zx, Zy, Zz, Zaa, Zab, Zac, Zad, Zae, Zaf, Zag, Zah, Zai, Zaj, Zak, Zal, Zam, Zan, wk1, wk, Zao, Zap, Zaq, Zar, Zas, Zat, Zau, Zav, AV.kill, AO.kill, AV.thaw, AO.thaw, Zaw, Zax, Zay, Zaz, Zba, Zbb, Zbc, Zbd, Zbe, ite_true, ite_false, reduceCtorEq, Nat.reduceAdd, Nat.reduceMul, Nat.reduceLeDiff, Nat.reduceLT, Nat.reduceEqDiff, forall_const]
    refine br ?_ ?_
    · intro h
      have hlt : k < ps.length := by have := of_decide_eq_true h; omega
      obtain ⟨p, hp⟩ : ∃ x, ps[k]? = some x := ⟨_, List.getElem?_eq_getElem hlt⟩
      have hg1 := hget k p hp
      obtain ⟨hp1, hp3, hp4⟩ := hpb p (List.mem_of_getElem? hp)
      obtain ⟨a, ha⟩ := Int.eq_ofNat_of_zero_le hp1
      obtain ⟨b, hbb⟩ := Int.eq_ofNat_of_zero_le hp3
      have hbn : b ≤ s.length := by omega
      have hcv := fun j => cov_take hp j
      rw [ha, hbb] at hg1 hcv
      simp only [ZZ, IsnK_some, Za, Zb, Zc, Zd, Ze, Zf, Zg, Zh, rd, AV.un, AV.unA, AV.ad, Zi, Zj, Zk, Zl, Zm, Zn, Zo, Zp, Zq, Zr, Zs, Zt, Zu, Zv, Zw, Zx, Zy, Zz, Zaa, Zab, Zac, Zad, Zae, Zaf, Zag, Zah, Zai, Zaj, Zak, Zal, Zam, Zan, wk1, wk, Zao, Zap, Zaq, Zar, Zas, Zat, Zau, Zav, AV.kill, AO.kill, AV.thaw, AO.thaw, Zaw, Zax, Zay, Zaz, Zba, Zbb, Zbc, Zbd, Zbe, ite_true, ite_false, reduceCtorEq, Nat.reduceAdd, Nat.reduceMul, Nat.reduceLeDiff, Nat.reduceLT, Nat.reduceEqDiff, forall_const, hg1, hln]
      ((repeat' (with_reducible apply And.intro)) <;> try ((first | first | assumption | trivial | exact (fun hq => by rw [hq]; rfl) | exact i64_of (by omega) (by omega) | omega | (simp; done) | (simp; omega) | (intro hsc; have hs0 := hsc; (try have hsd := of_decide_eq_true hsc); (try simp only [Bool.not_eq_true', Bool.or_eq_false_iff, Bool.and_eq_true, Bool.or_eq_true, decide_eq_true_eq, decide_eq_false_iff_not] at hsc); (repeat' (with_reducible apply And.intro)) <;> (first | assumption | trivial | exact (fun hq => by rw [hq]; rfl) | exact i64_of (by omega) (by omega) | omega | (simp; done) | (simp; omega) | (intro hse; simp [hse, hs0]; done) | (intro hse; simp only [hse, hs0, Bool.true_and, Bool.and_true, Bool.not_false, Bool.not_true, Bool.and_self]; done))))))
      refine loop_intro (fun n fr L => ∃ (i : Nat) (g' : Nat → UInt8), b - i = n ∧ (a ≤ i) ∧ (i ≤ max a b) ∧ (g' = redG s (fun j => cov (ps.take k) j || (decide (a ≤ j) && decide (j < i)))) ∧ fr = [.any, .any, .any, .any, .any, .any, .any, .row (.l 18), .any, .adr (.l 9) 0, .p (int (i : Nat)), .any, .any, .any, .any, .any, .any, .any, .any, .any, .any, .row (.l 21), .p (int (l.length : Nat)), .p (int (k : Nat)), .any, .any, .any, .any, .any, .any, .any, .any, .any, .any, .any, .any, .any, .any, .any, .any, .any, .any, .any, .any, .any, .any, .any, .any, .any, .any, .any, .any, .any] ∧ L = [(.l 18, .row (bU s.length g') 5 1 false), (.l 21, .row es tSpan 2 true), (.l 9, .box [.p (int (a : Nat)), .p (int (b : Nat))] tSpan)]) (b - a) [.any, .any, .any, .any, .any, .any, .any, .row (.l 18), .any, .adr (.l 9) 0, .p (int (a : Nat)), .any, .any, .any, .any, .any, .any, .any, .any, .any, .any, .row (.l 21), .p (int (l.length : Nat)), .p (int (k : Nat)), .any, .any, .any, .any, .any, .any, .any, .any, .any, .any, .any, .any, .any, .any, .any, .any, .any, .any, .any, .any, .any, .any, .any, .any, .any, .any, .any, .any, .any] [(.l 18, .row (bU s.length g) 5 1 false), (.l 21, .row es tSpan 2 true), (.l 9, .box [.p (int (a : Nat)), .p (int (b : Nat))] tSpan)] (by (simp only [ZZ, IsnK_some, Za, Zb, Zc, Zd, Ze, Zf, Zg, Zh, rd, AV.un, AV.unA, AV.ad, Zi, Zj, Zk, Zl, Zm, Zn, Zo, Zp, Zq, Zr, Zs, Zt, Zu, Zv, Zw, Zx, Zy, Zz, Zaa, Zab, Zac, Zad, Zae, Zaf, Zag, Zah, Zai, Zaj, Zak, Zal, Zam, Zan, wk1, wk, Zao, Zap, Zaq, Zar, Zas, Zat, Zau, Zav, AV.kill, AO.kill, AV.thaw, AO.thaw, Zaw, Zax, Zay, Zaz, Zba, Zbb, Zbc, Zbd, Zbe, ite_true, ite_false, reduceCtorEq, Nat.reduceAdd, Nat.reduceMul, Nat.reduceLeDiff, Nat.reduceLT, Nat.reduceEqDiff, forall_const]; try trivial)) (by (simp only [ZZ, IsnK_some, Za, Zb, Zc, Zd, Ze, Zf, Zg, Zh, rd, AV.un, AV.unA, AV.ad, Zi, Zj, Zk, Zl, Zm, Zn, Zo, Zp, Zq, Zr, Zs, Zt, Zu, Zv, Zw, Zx, Zy, Zz, Zaa, Zab, Zac, Zad, Zae, Zaf, Zag, Zah, Zai, Zaj, Zak, Zal, Zam, Zan, wk1, wk, Zao, Zap, Zaq, Zar, Zas, Zat, Zau, Zav, AV.kill, AO.kill, AV.thaw, AO.thaw, Zaw, Zax, Zay, Zaz, Zba, Zbb, Zbc, Zbd, Zbe, ite_true, ite_false, reduceCtorEq, Nat.reduceAdd, Nat.reduceMul, Nat.reduceLeDiff, Nat.reduceLT, Nat.reduceEqDiff, forall_const]; try trivial)) ⟨a, g, rfl, Nat.le_refl _, by omega, by rw [hg]; congr 1; funext j; simp; omega, rfl, rfl⟩ ?_
      rintro n fr L ⟨i, g', rfl, hi, him, hg', rfl, rfl⟩
      simp only [ir_privilege_Redact_L1, ZZ, IsnK_some, Za, Zb, Zc, Zd, Ze, Zf, Zg, Zh, rd, AV.un, AV.unA, AV.ad, Zi, Zj, Zk, Zl, Zm, Zn, Zo, Zp, Zq, Zr, Zs, Zt, Zu, Zv, Zw, Zx, Zy, Zz, Zaa, Zab, Zac, Zad, Zae, Zaf, Zag, Zah, Zai, Zaj, Zak, Zal, Zam, Zan, wk1, wk, Zao, Zap, Zaq, Zar, Zas, Zat, Zau, Zav, AV.kill, AO.kill, AV.thaw, AO.thaw, Zaw, Zax, Zay, Zaz, Zba, Zbb, Zbc, Zbd, Zbe, ite_true, ite_false, reduceCtorEq, Nat.reduceAdd, Nat.reduceMul, Nat.reduceLeDiff, Nat.reduceLT, Nat.reduceEqDiff, forall_const]
      refine br ?_ ?_
      · intro h2
        have h2 := of_decide_eq_true h2
        have hib : i < b := by omega
        have hgi : (bU s.length g').getD i [] = [.int .u8 ((g' i).toNat : Nat)] := bU_get (by omega)
        have hbl := bU_len s.length g'
        have hset : (bU s.length g').set i [.int .u8 35] = bU s.length (fun j => if j = i then 35 else g' j) := bU_set (35 : UInt8)
        have hmm : (fun j => (cov (ps.take k) j || (decide (a ≤ j) && decide (j < i))) || decide (j = i)) = (fun j => cov (ps.take k) j || (decide (a ≤ j) && decide (j < i + 1))) := by
          funext j
          rw [Bool.or_assoc]
          congr 1
          by_cases hj : j = i
          · subst hj; simp [hi]
          · simp only [hj, decide_false, Bool.or_false]
            congr 1
            simp only [decide_eq_decide]
            omega
        simp only [ZZ, IsnK_some, Za, Zb, Zc, Zd, Ze, Zf, Zg, Zh, rd, AV.un, AV.unA, AV.ad, Zi, Zj, Zk, Zl, Zm, Zn, Zo, Zp, Zq, Zr, Zs, Zt, Zu, Zv, Zw, Zx, Zy, Zz, Zaa, Zab, Zac, Zad, Zae, Zaf, Zag, Zah, Zai, Zaj, Zak, Zal, Zam, Zan, wk1, wk, Zao, Zap, Zaq, Zar, Zas, Zat, Zau, Zav, AV.kill, AO.kill, AV.thaw, AO.thaw, Zaw, Zax, Zay, Zaz, Zba, Zbb, Zbc, Zbd, Zbe, ite_true, ite_false, reduceCtorEq, Nat.reduceAdd, Nat.reduceMul, Nat.reduceLeDiff, Nat.reduceLT, Nat.reduceEqDiff, forall_const, hgi, hbl]
        ((repeat' (with_reducible apply And.intro)) <;> try ((first | first | assumption | trivial | exact (fun hq => by rw [hq]; rfl) | exact i64_of (by omega) (by omega) | omega | (simp; done) | (simp; omega) | (intro hsc; have hs0 := hsc; (try have hsd := of_decide_eq_true hsc); (try simp only [Bool.not_eq_true', Bool.or_eq_false_iff, Bool.and_eq_true, Bool.or_eq_true, decide_eq_true_eq, decide_eq_false_iff_not] at hsc); (repeat' (with_reducible apply And.intro)) <;> (first | assumption | trivial | exact (fun hq => by rw [hq]; rfl) | exact i64_of (by omega) (by omega) | omega | (simp; done) | (simp; omega) | (intro hse; simp [hse, hs0]; done) | (intro hse; simp only [hse, hs0, Bool.true_and, Bool.and_true, Bool.not_false, Bool.not_true, Bool.and_self]; done))))))
        refine br ?_ ?_
        · intro hc
          have hb : blankB (g' i) = false := by
            simp only [Bool.and_eq_true, Bool.not_eq_true'] at hc
            simp [blankB, hc.1, hc.2]
          have hnx := redG_on (s := s) (i := i) (by rw [← hg']; exact hb)
          rw [← hg', hmm] at hnx
          simp only [ZZ, IsnK_some, Za, Zb, Zc, Zd, Ze, Zf, Zg, Zh, rd, AV.un, AV.unA, AV.ad, Zi, Zj, Zk, Zl, Zm, Zn, Zo, Zp, Zq, Zr, Zs, Zt, Zu, Zv, Zw, Zx, Zy, Zz, Zaa, Zab, Zac, Zad, Zae, Zaf, Zag, Zah, Zai, Zaj, Zak, Zal, Zam, Zan, wk1, wk, Zao, Zap, Zaq, Zar, Zas, Zat, Zau, Zav, AV.kill, AO.kill, AV.thaw, AO.thaw, Zaw, Zax, Zay, Zaz, Zba, Zbb, Zbc, Zbd, Zbe, ite_true, ite_false, reduceCtorEq, Nat.reduceAdd, Nat.reduceMul, Nat.reduceLeDiff, Nat.reduceLT, Nat.reduceEqDiff, forall_const, hgi, hbl, hset, hnx]
          ((repeat' (with_reducible apply And.intro)) <;> try ((first | first | assumption | trivial | exact (fun hq => by rw [hq]; rfl) | exact i64_of (by omega) (by omega) | omega | (simp; done) | (simp; omega) | (intro hsc; have hs0 := hsc; (try have hsd := of_decide_eq_true hsc); (try simp only [Bool.not_eq_true', Bool.or_eq_false_iff, Bool.and_eq_true, Bool.or_eq_true, decide_eq_true_eq, decide_eq_false_iff_not] at hsc); (repeat' (with_reducible apply And.intro)) <;> (first | assumption | trivial | exact (fun hq => by rw [hq]; rfl) | exact i64_of (by omega) (by omega) | omega | (simp; done) | (simp; omega) | (intro hse; simp [hse, hs0]; done) | (intro hse; simp only [hse, hs0, Bool.true_and, Bool.and_true, Bool.not_false, Bool.not_true, Bool.and_self]; done))))))
          refine cut_same (by simp only [ZZ, IsnK_some, Za, Zb, Zc, Zd, Ze, Zf, Zg, Zh, rd, AV.un, AV.unA, AV.ad, Zi, Zj, Zk, Zl, Zm, Zn, Zo, Zp, Zq, Zr, Zs, Zt, Zu, Zv, Zw, Zx, Zy, Zz, Zaa, Zab, Zac, Zad, Zae, Zaf, Zag, Zah, Zai, Zaj, Zak, Zal, Zam, Zan, wk1, wk, Zao, Zap, Zaq, Zar, Zas, Zat, Zau, Zav, AV.kill, AO.kill, AV.thaw, AO.thaw, Zaw, Zax, Zay, Zaz, Zba, Zbb, Zbc, Zbd, Zbe, ite_true, ite_false, reduceCtorEq, Nat.reduceAdd, Nat.reduceMul, Nat.reduceLeDiff, Nat.reduceLT, Nat.reduceEqDiff, forall_const]) ?_
          simp only [ZZ, IsnK_some, Za, Zb, Zc, Zd, Ze, Zf, Zg, Zh, rd, AV.un, AV.unA, AV.ad, Zi, Zj, Zk, Zl, Zm, Zn, Zo, Zp, Zq, Zr, Zs, Zt, Zu, Zv, Zw, Zx, Zy, Zz, Zaa, Zab, Zac, Zad, Zae, Zaf, Zag, Zah, Zai, Zaj, Zak, Zal, Zam, Zan, wk1, wk, Zao, Zap, Zaq, Zar, Zas, Zat, Zau, Zav, AV.kill, AO.kill, AV.thaw, AO.thaw, Zaw, Zax, Zay, Zaz, Zba, Zbb, Zbc, Zbd, Zbe, ite_true, ite_false, reduceCtorEq, Nat.reduceAdd, Nat.reduceMul, Nat.reduceLeDiff, Nat.reduceLT, Nat.reduceEqDiff, forall_const]
          ((repeat' (with_reducible apply And.intro)) <;> try ((first | first | assumption | trivial | exact (fun hq => by rw [hq]; rfl) | exact i64_of (by omega) (by omega) | omega | (simp; done) | (simp; omega) | (intro hsc; have hs0 := hsc; (try have hsd := of_decide_eq_true hsc); (try simp only [Bool.not_eq_true', Bool.or_eq_false_iff, Bool.and_eq_true, Bool.or_eq_true, decide_eq_true_eq, decide_eq_false_iff_not] at hsc); (repeat' (with_reducible apply And.intro)) <;> (first | assumption | trivial | exact (fun hq => by rw [hq]; rfl) | exact i64_of (by omega) (by omega) | omega | (simp; done) | (simp; omega) | (intro hse; simp [hse, hs0]; done) | (intro hse; simp only [hse, hs0, Bool.true_and, Bool.and_true, Bool.not_false, Bool.not_true, Bool.and_self]; done))))))
          refine end_round (b - (i + 1)) [.any, .any, .any, .any, .any, .any, .any, .row (.l 18), .any, .adr (.l 9) 0, .p (int ((i + 1) : Nat)), .any, .any, .any, .any, .any, .any, .any, .any, .any, .any, .row (.l 21), .p (int (l.length : Nat)), .p (int (k : Nat)), .any, .any, .any, .any, .any, .any, .any, .any, .any, .any, .any, .any, .any, .any, .any, .any, .any, .any, .any, .any, .any, .any, .any, .any, .any, .any, .any, .any, .any] [(.l 18, .row (bU s.length (redG s (fun j => cov (ps.take k) j || (decide (a ≤ j) && decide (j < i + 1))))) 5 1 false), (.l 21, .row es tSpan 2 true), (.l 9, .box [.p (int (a : Nat)), .p (int (b : Nat))] tSpan)] (by omega) (by (simp only [ZZ, IsnK_some, Za, Zb, Zc, Zd, Ze, Zf, Zg, Zh, rd, AV.un, AV.unA, AV.ad, Zi, Zj, Zk, Zl, Zm, Zn, Zo, Zp, Zq, Zr, Zs, Zt, Zu, Zv, Zw, Zx, Zy, Zz, Zaa, Zab, Zac, Zad, Zae, Zaf, Zag, Zah, Zai, Zaj, Zak, Zal, Zam, Zan, wk1, wk, Zao, Zap, Zaq, Zar, Zas, Zat, Zau, Zav, AV.kill, AO.kill, AV.thaw, AO.thaw, Zaw, Zax, Zay, Zaz, Zba, Zbb, Zbc, Zbd, Zbe, ite_true, ite_false, reduceCtorEq, Nat.reduceAdd, Nat.reduceMul, Nat.reduceLeDiff, Nat.reduceLT, Nat.reduceEqDiff, forall_const]; try trivial)) (by (simp only [ZZ, IsnK_some, Za, Zb, Zc, Zd, Ze, Zf, Zg, Zh, rd, AV.un, AV.unA, AV.ad, Zi, Zj, Zk, Zl, Zm, Zn, Zo, Zp, Zq, Zr, Zs, Zt, Zu, Zv, Zw, Zx, Zy, Zz, Zaa, Zab, Zac, Zad, Zae, Zaf, Zag, Zah, Zai, Zaj, Zak, Zal, Zam, Zan, wk1, wk, Zao, Zap, Zaq, Zar, Zas, Zat, Zau, Zav, AV.kill, AO.kill, AV.thaw, AO.thaw, Zaw, Zax, Zay, Zaz, Zba, Zbb, Zbc, Zbd, Zbe, ite_true, ite_false, reduceCtorEq, Nat.reduceAdd, Nat.reduceMul, Nat.reduceLeDiff, Nat.reduceLT, Nat.reduceEqDiff, forall_const]; try trivial)) ⟨i + 1, redG s (fun j => cov (ps.take k) j || (decide (a ≤ j) && decide (j < i + 1))), rfl, by omega, by omega, rfl, rfl, rfl⟩
        · intro hc
          have hb : blankB (g' i) = true := by
            simp only [Bool.and_eq_false_iff, Bool.not_eq_false'] at hc
            rcases hc with hc | hc <;> simp [blankB, hc]
          have hnx := redG_off (s := s) (i := i) (by rw [← hg']; exact hb)
          rw [hmm] at hnx
          simp only [ZZ, IsnK_some, Za, Zb, Zc, Zd, Ze, Zf, Zg, Zh, rd, AV.un, AV.unA, AV.ad, Zi, Zj, Zk, Zl, Zm, Zn, Zo, Zp, Zq, Zr, Zs, Zt, Zu, Zv, Zw, Zx, Zy, Zz, Zaa, Zab, Zac, Zad, Zae, Zaf, Zag, Zah, Zai, Zaj, Zak, Zal, Zam, Zan, wk1, wk, Zao, Zap, Zaq, Zar, Zas, Zat, Zau, Zav, AV.kill, AO.kill, AV.thaw, AO.thaw, Zaw, Zax, Zay, Zaz, Zba, Zbb, Zbc, Zbd, Zbe, ite_true, ite_false, reduceCtorEq, Nat.reduceAdd, Nat.reduceMul, Nat.reduceLeDiff, Nat.reduceLT, Nat.reduceEqDiff, forall_const]
          refine cut_same (by simp only [ZZ, IsnK_some, Za, Zb, Zc, Zd, Ze, Zf, Zg, Zh, rd, AV.un, AV.unA, AV.ad, Zi, Zj, Zk, Zl, Zm, Zn, Zo, Zp, Zq, Zr, Zs, Zt, Zu, Zv, Zw, Zx, Zy, Zz, Zaa, Zab, Zac, Zad, Zae, Zaf, Zag, Zah, Zai, Zaj, Zak, Zal, Zam, Zan, wk1, wk, Zao, Zap, Zaq, Zar, Zas, Zat, Zau, Zav, AV.kill, AO.kill, AV.thaw, AO.thaw, Zaw, Zax, Zay, Zaz, Zba, Zbb, Zbc, Zbd, Zbe, ite_true, ite_false, reduceCtorEq, Nat.reduceAdd, Nat.reduceMul, Nat.reduceLeDiff, Nat.reduceLT, Nat.reduceEqDiff, forall_const]) ?_
          simp only [ZZ, IsnK_some, Za, Zb, Zc, Zd, Ze, Zf, Zg, Zh, rd, AV.un, AV.unA, AV.ad, Zi, Zj, Zk, Zl, Zm, Zn, Zo, Zp, Zq, Zr, Zs, Zt, Zu, Zv, Zw, Zx, Zy, Zz, Zaa, Zab, Zac, Zad, Zae, Zaf, Zag, Zah, Zai, Zaj, Zak, Zal, Zam, Zan, wk1, wk, Zao, Zap, Zaq, Zar, Zas, Zat, Zau, Zav, AV.kill, AO.kill, AV.thaw, AO.thaw, Zaw, Zax, Zay, Zaz, Zba, Zbb, Zbc, Zbd, Zbe, ite_true, ite_false, reduceCtorEq, Nat.reduceAdd, Nat.reduceMul, Nat.reduceLeDiff, Nat.reduceLT, Nat.reduceEqDiff, forall_const]
          ((repeat' (with_reducible apply And.intro)) <;> try ((first | first | assumption | trivial | exact (fun hq => by rw [hq]; rfl) | exact i64_of (by omega) (by omega) | omega | (simp; done) | (simp; omega) | (intro hsc; have hs0 := hsc; (try have hsd := of_decide_eq_true hsc); (try simp only [Bool.not_eq_true', Bool.or_eq_false_iff, Bool.and_eq_true, Bool.or_eq_true, decide_eq_true_eq, decide_eq_false_iff_not] at hsc); (repeat' (with_reducible apply And.intro)) <;> (first | assumption | trivial | exact (fun hq => by rw [hq]; rfl) | exact i64_of (by omega) (by omega) | omega | (simp; done) | (simp; omega) | (intro hse; simp [hse, hs0]; done) | (intro hse; simp only [hse, hs0, Bool.true_and, Bool.and_true, Bool.not_false, Bool.not_true, Bool.and_self]; done))))))
          refine end_round (b - (i + 1)) [.any, .any, .any, .any, .any, .any, .any, .row (.l 18), .any, .adr (.l 9) 0, .p (int ((i + 1) : Nat)), .any, .any, .any, .any, .any, .any, .any, .any, .any, .any, .row (.l 21), .p (int (l.length : Nat)), .p (int (k : Nat)), .any, .any, .any, .any, .any, .any, .any, .any, .any, .any, .any, .any, .any, .any, .any, .any, .any, .any, .any, .any, .any, .any, .any, .any, .any, .any, .any, .any, .any] [(.l 18, .row (bU s.length g') 5 1 false), (.l 21, .row es tSpan 2 true), (.l 9, .box [.p (int (a : Nat)), .p (int (b : Nat))] tSpan)] (by omega) (by (simp only [ZZ, IsnK_some, Za, Zb, Zc, Zd, Ze, Zf, Zg, Zh, rd, AV.un, AV.unA, AV.ad, Zi, Zj, Zk, Zl, Zm, Zn, Zo, Zp, Zq, Zr, Zs, Zt, Zu, Zv, Zw, Zx, Zy, Zz, Zaa, Zab, Zac, Zad, Zae, Zaf, Zag, Zah, Zai, Zaj, Zak, Zal, Zam, Zan, wk1, wk, Zao, Zap, Zaq, Zar, Zas, Zat, Zau, Zav, AV.kill, AO.kill, AV.thaw, AO.thaw, Zaw, Zax, Zay, Zaz, Zba, Zbb, Zbc, Zbd, Zbe, ite_true, ite_false, reduceCtorEq, Nat.reduceAdd, Nat.reduceMul, Nat.reduceLeDiff, Nat.reduceLT, Nat.reduceEqDiff, forall_const]; try trivial)) (by (simp only [ZZ, IsnK_some, Za, Zb, Zc, Zd, Ze, Zf, Zg, Zh, rd, AV.un, AV.unA, AV.ad, Zi, Zj, Zk, Zl, Zm, Zn, Zo, Zp, Zq, Zr, Zs, Zt, Zu, Zv, Zw, Zx, Zy, Zz, Zaa, Zab, Zac, Zad, Zae, Zaf, Zag, Zah, Zai, Zaj, Zak, Zal, Zam, Zan, wk1, wk, Zao, Zap, Zaq, Zar, Zas, Zat, Zau, Zav, AV.kill, AO.kill, AV.thaw, AO.thaw, Zaw, Zax, Zay, Zaz, Zba, Zbb, Zbc, Zbd, Zbe, ite_true, ite_false, reduceCtorEq, Nat.reduceAdd, Nat.reduceMul, Nat.reduceLeDiff, Nat.reduceLT, Nat.reduceEqDiff, forall_const]; try trivial)) ⟨i + 1, g', rfl, by omega, by omega, by rw [hg']; exact hnx, rfl, rfl⟩
      · intro h2
        have h2 := of_decide_eq_false h2
        have hnx : g' = redG s (cov (ps.take (k + 1))) := by
          rw [hg']
          congr 1
          funext j
          rw [hcv]
          congr 1
          rw [Bool.eq_iff_iff, Bool.and_eq_true, Bool.and_eq_true, decide_eq_true_eq, decide_eq_true_eq, decide_eq_true_eq, decide_eq_true_eq]
          omega
        simp only [ZZ, IsnK_some, Za, Zb, Zc, Zd, Ze, Zf, Zg, Zh, rd, AV.un, AV.unA, AV.ad, Zi, Zj, Zk, Zl, Zm, Zn, Zo, Zp, Zq, Zr, Zs, Zt, Zu, Zv, Zw, Zx, Zy, Zz, Zaa, Zab, Zac, Zad, Zae, Zaf, Zag, Zah, Zai, Zaj, Zak, Zal, Zam, Zan, wk1, wk, Zao, Zap, Zaq, Zar, Zas, Zat, Zau, Zav, AV.kill, AO.kill, AV.thaw, AO.thaw, Zaw, Zax, Zay, Zaz, Zba, Zbb, Zbc, Zbd, Zbe, ite_true, ite_false, reduceCtorEq, Nat.reduceAdd, Nat.reduceMul, Nat.reduceLeDiff, Nat.reduceLT, Nat.reduceEqDiff, forall_const]
        ((repeat' (with_reducible apply And.intro)) <;> try ((first | first | assumption | trivial | exact (fun hq => by rw [hq]; rfl) | exact i64_of (by omega) (by omega) | omega | (simp; done) | (simp; omega) | (intro hsc; have hs0 := hsc; (try have hsd := of_decide_eq_true hsc); (try simp only [Bool.not_eq_true', Bool.or_eq_false_iff, Bool.and_eq_true, Bool.or_eq_true, decide_eq_true_eq, decide_eq_false_iff_not] at hsc); (repeat' (with_reducible apply And.intro)) <;> (first | assumption | trivial | exact (fun hq => by rw [hq]; rfl) | exact i64_of (by omega) (by omega) | omega | (simp; done) | (simp; omega) | (intro hse; simp [hse, hs0]; done) | (intro hse; simp only [hse, hs0, Bool.true_and, Bool.and_true, Bool.not_false, Bool.not_true, Bool.and_self]; done))))))
        refine end_round (l.length - (k + 1)) [.any, .any, .any, .any, .any, .any, .any, .row (.l 18), .any, .any, .any, .any, .any, .any, .any, .any, .any, .any, .any, .any, .any, .row (.l 21), .p (int (l.length : Nat)), .p (int ((k + 1) : Nat)), .any, .any, .any, .any, .any, .any, .any, .any, .any, .any, .any, .any, .any, .any, .any, .any, .any, .any, .any, .any, .any, .any, .any, .any, .any, .any, .any, .any, .any] [(.l 18, .row (bU s.length (g')) 5 1 false), (.l 21, .row es tSpan 2 true)] (by omega) (by (simp only [ZZ, IsnK_some, Za, Zb, Zc, Zd, Ze, Zf, Zg, Zh, rd, AV.un, AV.unA, AV.ad, Zi, Zj, Zk, Zl, Zm, Zn, Zo, Zp, Zq, Zr, Zs, Zt, Zu, Zv, Zw, Zx, Zy, Zz, Zaa, Zab, Zac, Zad, Zae, Zaf, Zag, Zah, Zai, Zaj, Zak, Zal, Zam, Zan, wk1, wk, Zao, Zap, Zaq, Zar, Zas, Zat, Zau, Zav, AV.kill, AO.kill, AV.thaw, AO.thaw, Zaw, Zax, Zay, Zaz, Zba, Zbb, Zbc, Zbd, Zbe, ite_true, ite_false, reduceCtorEq, Nat.reduceAdd, Nat.reduceMul, Nat.reduceLeDiff, Nat.reduceLT, Nat.reduceEqDiff, forall_const]; try trivial)) (by (simp only [ZZ, IsnK_some, Za, Zb, Zc, Zd, Ze, Zf, Zg, Zh, rd, AV.un, AV.unA, AV.ad, Zi, Zj, Zk, Zl, Zm, Zn, Zo, Zp, Zq, Zr, Zs, Zt, Zu, Zv, Zw, Zx, Zy, Zz, Zaa, Zab, Zac, Zad, Zae, Zaf, Zag, Zah, Zai, Zaj, Zak, Zal, Zam, Zan, wk1, wk, Zao, Zap, Zaq, Zar, Zas, Zat, Zau, Zav, AV.kill, AO.kill, AV.thaw, AO.thaw, Zaw, Zax, Zay, Zaz, Zba, Zbb, Zbc, Zbd, Zbe, ite_true, ite_false, reduceCtorEq, Nat.reduceAdd, Nat.reduceMul, Nat.reduceLeDiff, Nat.reduceLT, Nat.reduceEqDiff, forall_const]; try trivial)) ⟨k + 1, g', by omega, rfl, hnx, rfl, rfl⟩
    · intro h
      have hge : ps.length ≤ k := by have := of_decide_eq_false h; omega
      rw [List.take_of_length_le hge] at hg
      simp only [ZZ, IsnK_some, Za, Zb, Zc, Zd, Ze, Zf, Zg, Zh, rd, AV.un, AV.unA, AV.ad, Zi, Zj, Zk, Zl, Zm, Zn, Zo, Zp, Zq, Zr, Zs, Zt, Zu, Zv, Zw, Zx, Zy, Zz, Zaa, Zab, Zac, Zad, Zae, Zaf, Zag, Zah, Zai, Zaj, Zak, Zal, Zam, Zan, wk1, wk, Zao, Zap, Zaq, Zar, Zas, Zat, Zau, Zav, AV.kill, AO.kill, AV.thaw, AO.thaw, Zaw, Zax, Zay, Zaz, Zba, Zbb, Zbc, Zbd, Zbe, ite_true, ite_false, reduceCtorEq, Nat.reduceAdd, Nat.reduceMul, Nat.reduceLeDiff, Nat.reduceLT, Nat.reduceEqDiff, forall_const, bytes_bU]
      rw [hg]

theorem privileges_ok : PCall Tryd.prog E0 12 [] (· = .bool true) := by
  refine pcallF mixed Tryd.func12 ck_chaselaw1_privileges ?_
  simp only [a0, l0, OS.ao, List.map_cons, List.map_nil, List.length_cons, List.length_nil, List.cons_append, List.nil_append, Nat.reduceSub, Nat.reduceAdd, List.replicate_succ, List.replicate_zero, ir_chaselaw1_privileges, rs_chaselaw1_privileges, ZZ, IsnK_some, Za, Zb, Zc, Zd, Ze, Zf, Zg, Zh, rd, AV.un, AV.unA, AV.ad, Zi, Zj, Zk, Zl, Zm, Zn, Zo, Zp, Zq, Zr, Zs, Zt, Zu, Zv, Zw, Zx, Zy, Zz, Zaa, Zab, Zac, Zad, Zae, Zaf, Zag, Zah, Zai, Zaj, Zak, Zal, Zam, Zan, wk1, wk, Zao, Zap, Zaq, Zar, Zas, Zat, Zau, Zav, AV.kill, AO.kill, AV.thaw, AO.thaw, Zaw, Zax, Zay, Zaz, Zba, Zbb, Zbc, Zbd, Zbe, ite_true, ite_false, reduceCtorEq, Nat.reduceAdd, Nat.reduceMul, Nat.reduceLeDiff, Nat.reduceLT, Nat.reduceEqDiff, forall_const]
  refine use1 (Redact_ok [97, 98, 10] [(0, 1)] (by simp) (by simp)) rfl (.inl rfl) ?_
  have h1 : tErr [97, 98, 10] [(0, 1)] = 0 := by decide +kernel
  have h2 : redactF [97, 98, 10] [(0, 1)] = [35, 98, 10] := by decide +kernel
  rw [if_pos h1, h1, h2]
  simp only [ZZ, IsnK_some, Za, Zb, Zc, Zd, Ze, Zf, Zg, Zh, rd, AV.un, AV.unA, AV.ad, Zi, Zj, Zk, Zl, Zm, Zn, Zo, Zp, Zq, Zr, Zs, Zt, Zu, Zv, Zw, Zx, Zy, Zz, Zaa, Zab, Zac, Zad, Zae, Zaf, Zag, Zah, Zai, Zaj, Zak, Zal, Zam, Zan, wk1, wk, Zao, Zap, Zaq, Zar, Zas, Zat, Zau, Zav, AV.kill, AO.kill, AV.thaw, AO.thaw, Zaw, Zax, Zay, Zaz, Zba, Zbb, Zbc, Zbd, Zbe, ite_true, ite_false, reduceCtorEq, Nat.reduceAdd, Nat.reduceMul, Nat.reduceLeDiff, Nat.reduceLT, Nat.reduceEqDiff, forall_const]
  rfl
end Go.Proofs.YtndjmidmfmcbkaaDoor

/- From a law's contract to the walk that the row's proof wants. -/
namespace Go.Proofs.YtndjmidmfmcbkaaDoor
open Go.RowKit
set_option linter.unusedVariables false
set_option linter.unusedSimpArgs false
set_option linter.defProp false

/-- A slice of integers that came in. -/
def IsRow (k : IntKind) (w : World) (a : Option Addr) (len cap : Nat) (zs : List Int) : Prop :=
  (a = none ∧ len = 0 ∧ cap = 0 ∧ zs = []) ∨
  ∃ x, a = some x ∧ len ≤ cap ∧ cap ≤ maxLen ∧ zs.length = cap ∧ (∀ i, i < zs.length → w.cell? (x.add i) = some (.int k (zs.getD i 0))) ∧ ∀ n ∈ zs, (Lit.int k n).wf = true

theorem repE_ints {w : World} {U : Nat → Prop} {b : Nat} : ∀ (l : List Int) (off : Nat), (∀ i, i < l.length → w.cell? ⟨b, off + i, none⟩ = some (.int .i64 (l.getD i 0))) → PRepE w U b 1 off (l.map fun x => [.int .i64 x])
  | [], off, h => trivial
  | x :: r, off, h => by
    refine ⟨rfl, ⟨⟨_, by simpa using h 0 (by simp), rfl, rfl⟩, trivial⟩, repE_ints r (off + 1) (fun i hi => ?_)⟩
    have := h (i + 1) (by simpa using hi)
    rw [show off + 1 + i = off + (i + 1) from by omega]
    simpa using this

theorem isRow_rep {w : World} {a : Option Addr} {len cap : Nat} {zs : List Int} (h : IsRow .i64 w a len cap zs) : PRep w (fun _ => False) (ints (zs.take len)) (.slice a len cap) ∧ (zs.take len).length ≤ 9223372036854775807 := by
  rcases h with ⟨rfl, rfl, rfl, rfl⟩ | ⟨x, rfl, h1, h2, h3, h4, _⟩
  · exact ⟨⟨none, 0, rfl, by simp, fun h => by simp at h⟩, by simp⟩
  · have hl : (zs.take len).length = len := by rw [List.length_take]; omega
    refine ⟨⟨some x, cap, by rw [List.length_map, hl], by rw [List.length_map, hl]; exact h1, fun hne => ?_⟩, by rw [hl]; unfold maxLen at h2; omega⟩
    have h0 : 0 < len := by
      rcases Nat.eq_zero_or_pos len with h' | h'
      · subst h'; simp at hne
      · exact h'
    obtain ⟨b, off, spot⟩ := x
    have hc := h4 0 (by omega)
    have hspot : spot = none := by simpa [Addr.add] using World.cell?_spot hc
    subst hspot
    have hb : b < w.heap.size := by
      have := World.block_lt_of_cell? w _ hc
      simpa [Addr.add] using this
    refine ⟨b, off, rfl, hb, fun h => h, repE_ints _ _ (fun i hi => ?_)⟩
    rw [hl] at hi
    have := h4 i (by omega)
    rw [addr_addA] at this
    rw [this]
    congr 2
    rw [List.getD_eq_getElem?_getD, List.getD_eq_getElem?_getD, List.getElem?_take_of_lt hi]

theorem walk_of {P : Program} {E : Envt} {f : FuncId} (h : ∀ z : List Int, z.length ≤ 9223372036854775807 → PCall P E f [ints z] (· = .bool true)) (a0 : Option Addr) (len0 cap0 : Nat) (z0 : List Int) (w : World) (h0 : IsRow .i64 w a0 len0 cap0 z0) (hok : E.ok w) (hbl : ∀ b, E.bl b → b < w.heap.size) :
    Calls P f #[.slice a0 len0 cap0] w fun e w' => e = .returned (.bool true) ∧ Below w.heap.size w w' := by
  obtain ⟨h1, h2⟩ := isRow_rep h0
  refine (h _ h2 w (fun _ => False) [.slice a0 len0 cap0] (fun _ h => h.elim) hok hbl ⟨_, [], rfl, h1, rfl⟩).mono ?_
  rintro e w' ⟨v, x, rfl, rfl, hv, hg⟩
  refine ⟨by rw [PRep.bool_eq hv], ⟨hg.os, hg.tape, hg.output, hg.size, fun k hk => hg.block k hk (fun h => h)⟩⟩
end Go.Proofs.YtndjmidmfmcbkaaDoor

/- Texts: the library's functions on strings, small letters, the reference's forms. -/
namespace Go.Proofs.YtndjmidmfmcbkaaDoor
open Go.RowKit
set_option linter.unusedVariables false
set_option linter.unusedSimpArgs false
set_option linter.defProp false

theorem ba_size (s : List UInt8) : (⟨s.toArray⟩ : ByteArray).size = s.length := by simp [ByteArray.size]

section
variable {E : Envt}
theorem IndexByte_ok (s : List UInt8) (c : UInt8) : PCall Tryd.prog E 115 [.str s, .int .u8 (c.toNat : Nat)] (· = int (Lib.indexByte s c)) :=
  pcall_flat rfl rfl fun w _ => (Any.strings_IndexByte Tryd.layIndexByte ⟨s.toArray⟩ (c.toNat : Nat) w).mono fun e w' h => ⟨by rw [h.1]; simp [valX, valD], by rw [h.2]; exact Grow.refl _ _⟩
end
theorem Index_ok (s t : List UInt8) (hs : s.length ≤ 1000000000) : PCall Tryd.prog E0 98 [.str s, .str t] (· = int (Lib.index s t)) :=
  pcall_flat rfl rfl fun w hE => by
    obtain ⟨_, m, hm⟩ := hE
    exact (Any.strings_Index { Tryd.layIndex with } ⟨s.toArray⟩ ⟨t.toArray⟩ m w (by rw [ba_size]; omega) hm).mono fun e w' h => ⟨h.1, by rw [h.2]; exact Grow.refl _ _⟩

/- paperchase/base.Lower -/
def ir_base_Lower_L0 : IC :=
  (.seq (.reg [⟨some 11, .bin .lss (.t 10) (.t 9), none⟩])
    (.seq (.cond (.t 11) .skip (.exit 0))
    (.seq (.block 1 (.seq (.reg [⟨some 12, .mov (.t 10), none⟩,
      ⟨some 13, .ixa 1 (.t 8) (.t 10), none⟩,
      ⟨some 14, .ld 1 false (.t 13), none⟩,
      ⟨some 4, .mov (.t 12), none⟩,
      ⟨some 5, .mov (.t 14), none⟩])
    (.seq (.reg [⟨some 15, .mov (.t 5), none⟩,
      ⟨some 16, .bin .geq (.t 15) (.c (.int .u8 65)), none⟩,
      ⟨some 17, .mov (.t 16), none⟩,
      ⟨some 18, .mov (.t 5), (some (17, true))⟩,
      ⟨some 19, .bin .leq (.t 18) (.c (.int .u8 90)), (some (17, true))⟩,
      ⟨some 20, .pick (.t 17) (.t 19) (.c (.bool false)), none⟩])
    (.cond (.t 20) (.reg [⟨some 21, .mov (.t 3), none⟩,
      ⟨some 22, .mov (.t 4), none⟩,
      ⟨some 23, .mov (.t 5), none⟩,
      ⟨some 24, .bin .add (.t 23) (.c (.int .u8 32)), none⟩,
      ⟨some 25, .ixa 1 (.t 21) (.t 22), none⟩,
      ⟨none, .st 1 (.t 25) (.t 24), none⟩]) .skip))))
    (.cut (.reg [⟨some 26, .bin .add (.t 10) (.c (.int .i64 1)), none⟩,
      ⟨some 10, .mov (.t 26), none⟩])))))
def ir_base_Lower : IC :=
  (.seq (.reg [⟨some 2, .mov (.c (.str [])), none⟩])
    (.seq (.reg [⟨some 6, .mov (.t 0), none⟩,
      ⟨some 7, .s2b 5 (.t 6), none⟩,
      ⟨some 3, .mov (.t 7), none⟩])
    (.seq (.seq (.reg [⟨some 8, .mov (.t 3), none⟩,
      ⟨some 9, .len (.t 8), none⟩,
      ⟨some 10, .mov (.c (.int .i64 0)), none⟩])
    (.block 0 (.loop ir_base_Lower_L0)))
    (.seq (.reg [⟨some 27, .mov (.t 3), none⟩,
      ⟨some 28, .b2s (.t 27), none⟩,
      ⟨some 2, .mov (.t 28), none⟩])
    .ret))))
def rs_base_Lower : List IRes := [.t 2]
theorem ck_base_Lower : chkF Tryd.prog Tryd.f67 ir_base_Lower rs_base_Lower 29 = true := by kernel_rfl
/- paperchase/chaseref1.lower -/
def ir_chaseref1_lower_L0 : IC :=
  (.seq (.reg [⟨some 12, .bin .lss (.t 11) (.t 10), none⟩])
    (.seq (.cond (.t 12) .skip (.exit 0))
    (.seq (.block 1 (.seq (.reg [⟨some 13, .mov (.t 11), none⟩,
      ⟨some 14, .ixa 1 (.t 9) (.t 11), none⟩,
      ⟨some 15, .ld 1 false (.t 14), none⟩,
      ⟨some 4, .mov (.t 13), none⟩,
      ⟨some 5, .mov (.t 15), none⟩])
    (.seq (.reg [⟨some 16, .mov (.t 5), none⟩,
      ⟨some 17, .call 115 [.c (.str [65, 66, 67, 68, 69, 70, 71, 72, 73, 74, 75, 76, 77, 78, 79, 80, 81, 82, 83, 84, 85, 86, 87, 88, 89, 90]), .t 16], none⟩,
      ⟨some 6, .mov (.t 17), none⟩])
    (.seq (.reg [⟨some 18, .mov (.t 6), none⟩,
      ⟨some 19, .bin .geq (.t 18) (.c (.int .i64 0)), none⟩])
    (.cond (.t 19) (.reg [⟨some 20, .mov (.t 3), none⟩,
      ⟨some 21, .mov (.t 4), none⟩,
      ⟨some 22, .mov (.t 6), none⟩,
      ⟨some 23, .idx (.c (.str [97, 98, 99, 100, 101, 102, 103, 104, 105, 106, 107, 108, 109, 110, 111, 112, 113, 114, 115, 116, 117, 118, 119, 120, 121, 122])) (.t 22), none⟩,
      ⟨some 24, .ixa 1 (.t 20) (.t 21), none⟩,
      ⟨none, .st 1 (.t 24) (.t 23), none⟩]) .skip)))))
    (.cut (.reg [⟨some 25, .bin .add (.t 11) (.c (.int .i64 1)), none⟩,
      ⟨some 11, .mov (.t 25), none⟩])))))
def ir_chaseref1_lower : IC :=
  (.seq (.reg [⟨some 2, .mov (.c (.str [])), none⟩])
    (.seq (.reg [⟨some 7, .mov (.t 0), none⟩,
      ⟨some 8, .s2b 5 (.t 7), none⟩,
      ⟨some 3, .mov (.t 8), none⟩])
    (.seq (.seq (.reg [⟨some 9, .mov (.t 3), none⟩,
      ⟨some 10, .len (.t 9), none⟩,
      ⟨some 11, .mov (.c (.int .i64 0)), none⟩])
    (.block 0 (.loop ir_chaseref1_lower_L0)))
    (.seq (.reg [⟨some 26, .mov (.t 3), none⟩,
      ⟨some 27, .b2s (.t 26), none⟩,
      ⟨some 2, .mov (.t 27), none⟩])
    .ret))))
def rs_chaseref1_lower : List IRes := [.t 2]
theorem ck_chaseref1_lower : chkF Tryd.prog Tryd.f70 ir_chaseref1_lower rs_chaseref1_lower 28 = true := by kernel_rfl
def lowB (c : UInt8) : UInt8 := if 65 ≤ c.toNat ∧ c.toNat ≤ 90 then c + 32 else c
def lowF (s : List UInt8) : List UInt8 := s.map lowB
theorem all256 {p : UInt8 → Prop} (h : ∀ n : Fin 256, p (UInt8.ofNat n.val)) (c : UInt8) : p c := by
  have := h ⟨c.toNat, c.toNat_lt⟩
  simpa using this
theorem low_wrap (c : UInt8) (h1 : 65 ≤ c.toNat) (h2 : c.toNat ≤ 90) : IntKind.u8.wrap ((c.toNat : Int) + 32) = (((lowB c).toNat : Nat) : Int) := by
  have h3 : (c + 32).toNat = c.toNat + 32 := by
    rw [UInt8.toNat_add]
    have : (32 : UInt8).toNat = 32 := rfl
    omega
  rw [lowB, if_pos ⟨h1, h2⟩, h3]
  have : IntKind.u8.wrap ((c.toNat : Int) + 32) = ((c.toNat : Int) + 32) % 256 := rfl
  rw [this]
  omega
theorem low_same (c : UInt8) (h : ¬ (65 ≤ c.toNat ∧ c.toNat ≤ 90)) : lowB c = c := by rw [lowB, if_neg h]
def capL : List UInt8 := [65, 66, 67, 68, 69, 70, 71, 72, 73, 74, 75, 76, 77, 78, 79, 80, 81, 82, 83, 84, 85, 86, 87, 88, 89, 90]
def smallL : List UInt8 := [97, 98, 99, 100, 101, 102, 103, 104, 105, 106, 107, 108, 109, 110, 111, 112, 113, 114, 115, 116, 117, 118, 119, 120, 121, 122]
theorem cap_idx (c : UInt8) : Lib.indexByte capL c = if 65 ≤ c.toNat ∧ c.toNat ≤ 90 then (c.toNat : Int) - 65 else -1 :=
  all256 (p := fun c => Lib.indexByte capL c = if 65 ≤ c.toNat ∧ c.toNat ≤ 90 then (c.toNat : Int) - 65 else -1) (by decide +kernel) c
theorem cap_small (c : UInt8) : 65 ≤ c.toNat ∧ c.toNat ≤ 90 → smallL.getD ((c.toNat : Int) - 65).toNat 0 = lowB c :=
  all256 (p := fun c => 65 ≤ c.toNat ∧ c.toNat ≤ 90 → smallL.getD ((c.toNat : Int) - 65).toNat 0 = lowB c) (by decide +kernel) c
theorem range_getD (s : List UInt8) (f : UInt8 → UInt8) : (List.range s.length).map (fun j => f (s.getD j 0)) = s.map f := by
  apply List.ext_getElem?
  intro j
  by_cases hj : j < s.length
  · simp [List.getElem?_range hj, List.getElem?_eq_getElem hj, List.getD]
  · rw [List.getElem?_eq_none (by simpa using hj), List.getElem?_eq_none (by simpa using hj)]
/-- The bytes below k are small already. -/
def lowG (s : List UInt8) (k : Nat) (j : Nat) : UInt8 := if j < k then lowB (s.getD j 0) else s.getD j 0
theorem lowG_nx (s : List UInt8) (k : Nat) : (fun j => if j = k then lowB (s.getD k 0) else lowG s k j) = lowG s (k + 1) := by
  funext j
  unfold lowG
  by_cases h : j = k
  · subst h; simp
  · simp only [h, if_false]
    by_cases h2 : j < k
    · rw [if_pos h2, if_pos (by omega)]
    · rw [if_neg h2, if_neg (by omega)]
theorem lowG_at (s : List UInt8) (k : Nat) : lowG s k k = s.getD k 0 := by simp [lowG]
theorem lowG_end (s : List UInt8) : (List.range s.length).map (lowG s s.length) = lowF s := by
  rw [lowF, ← range_getD]
  refine List.map_congr_left fun j hj => ?_
  simp only [List.mem_range] at hj
  simp [lowG, hj]
theorem lowF_len (s : List UInt8) : (lowF s).length = s.length := by simp [lowF]

section
variable {E : Envt}
theorem Lower_ok (s : List UInt8) (hs : s.length ≤ 1000000000) : PCall Tryd.prog E 67 [.str s] (· = .str (lowF s)) := by
  refine pcallF mixed Tryd.func67 ck_base_Lower ?_
  simp only [a0, l0, OS.ao, List.map_cons, List.map_nil, List.length_cons, List.length_nil, List.cons_append, List.nil_append, Nat.reduceSub, Nat.reduceAdd, List.replicate_succ, List.replicate_zero, ir_base_Lower, rs_base_Lower, ZZ, IsnK_some, Za, Zb, Zc, Zd, Ze, Zf, Zg, Zh, rd, AV.un, AV.unA, AV.ad, Zi, Zj, Zk, Zl, Zm, Zn, Zo, Zp, Zq, Zr, Zs, Zt, Zu, Zv, Zw, Zx, Zy, Zz, Zaa, Zab, Zac, Zad, Zae, Zaf, Zag, Zah, Zai, Zaj, Zak, Zal, Zam, Zan, wk1, wk, Zao, Zap, Zaq, Zar, Zas, Zat, Zau, Zav, AV.kill, AO.kill, AV.thaw, AO.thaw, Zaw, Zax, Zay, Zaz, Zba, Zbb, Zbc, Zbd, Zbe, ite_true, ite_false, reduceCtorEq, Nat.reduceAdd, Nat.reduceMul, Nat.reduceLeDiff, Nat.reduceLT, Nat.reduceEqDiff, forall_const]
  refine ⟨by omega, ?_⟩
  rw [bU_of]
  simp only [ZZ, IsnK_some, Za, Zb, Zc, Zd, Ze, Zf, Zg, Zh, rd, AV.un, AV.unA, AV.ad, Zi, Zj, Zk, Zl, Zm, Zn, Zo, Zp, Zq, Zr, Zs, Zt, Zu, Zv, Zw, Zx, Zy, Zz, Zaa, Zab, Zac, Zad, Zae, Zaf, Zag, Zah, Zai, Zaj, Zak, Zal, Zam, Zan, wk1, wk, Zao, Zap, Zaq, Zar, Zas, Zat, Zau, Zav, AV.kill, AO.kill, AV.thaw, AO.thaw, Zaw, Zax, Zay, Zaz, Zba, Zbb, Zbc, Zbd, Zbe, ite_true, ite_false, reduceCtorEq, Nat.reduceAdd, Nat.reduceMul, Nat.reduceLeDiff, Nat.reduceLT, Nat.reduceEqDiff, forall_const, bU_len]
  refine loop_intro (fun n fr L => ∃ (k : Nat) (g : Nat → UInt8), k ≤ s.length ∧ n = s.length - k ∧ (g = lowG s k) ∧ fr = [.any, .any, .any, .row (.l 7), .any, .any, .any, .any, .row (.l 7), .p (int (s.length : Nat)), .p (int (k : Nat)), .any, .any, .any, .any, .any, .any, .any, .any, .any, .any, .any, .any, .any, .any, .any, .any, .any, .any] ∧ L = [(.l 7, .row (bU s.length g) 5 1 false)]) (s.length) [.any, .any, .any, .row (.l 7), .any, .any, .any, .any, .row (.l 7), .p (int (s.length : Nat)), .p (int (0 : Nat)), .any, .any, .any, .any, .any, .any, .any, .any, .any, .any, .any, .any, .any, .any, .any, .any, .any, .any] [(.l 7, .row (bU s.length (fun j => s.getD j 0)) 5 1 false)] (by (simp only [ZZ, IsnK_some, Za, Zb, Zc, Zd, Ze, Zf, Zg, Zh, rd, AV.un, AV.unA, AV.ad, Zi, Zj, Zk, Zl, Zm, Zn, Zo, Zp, Zq, Zr, Zs, Zt, Zu, Zv, Zw, Zx, Zy, Zz, Zaa, Zab, Zac, Zad, Zae, Zaf, Zag, Zah, Zai, Zaj, Zak, Zal, Zam, Zan, wk1, wk, Zao, Zap, Zaq, Zar, Zas, Zat, Zau, Zav, AV.kill, AO.kill, AV.thaw, AO.thaw, Zaw, Zax, Zay, Zaz, Zba, Zbb, Zbc, Zbd, Zbe, ite_true, ite_false, reduceCtorEq, Nat.reduceAdd, Nat.reduceMul, Nat.reduceLeDiff, Nat.reduceLT, Nat.reduceEqDiff, forall_const]; try trivial)) (by (simp only [ZZ, IsnK_some, Za, Zb, Zc, Zd, Ze, Zf, Zg, Zh, rd, AV.un, AV.unA, AV.ad, Zi, Zj, Zk, Zl, Zm, Zn, Zo, Zp, Zq, Zr, Zs, Zt, Zu, Zv, Zw, Zx, Zy, Zz, Zaa, Zab, Zac, Zad, Zae, Zaf, Zag, Zah, Zai, Zaj, Zak, Zal, Zam, Zan, wk1, wk, Zao, Zap, Zaq, Zar, Zas, Zat, Zau, Zav, AV.kill, AO.kill, AV.thaw, AO.thaw, Zaw, Zax, Zay, Zaz, Zba, Zbb, Zbc, Zbd, Zbe, ite_true, ite_false, reduceCtorEq, Nat.reduceAdd, Nat.reduceMul, Nat.reduceLeDiff, Nat.reduceLT, Nat.reduceEqDiff, forall_const]; try trivial)) ⟨0, fun j => s.getD j 0, by omega, by omega, by funext j; simp [lowG], rfl, rfl⟩ ?_
  rintro n fr L ⟨k, g, hk, rfl, hg, rfl, rfl⟩
  simp only [ir_base_Lower_L0, ZZ, IsnK_some, Za, Zb, Zc, Zd, Ze, Zf, Zg, Zh, rd, AV.un, AV.unA, AV.ad, Zi, Zj, Zk, Zl, Zm, Zn, Zo, Zp, Zq, Zr, Zs, Zt, Zu, Zv, Zw, Zx, Zy, Zz, Zaa, Zab, Zac, Zad, Zae, Zaf, Zag, Zah, Zai, Zaj, Zak, Zal, Zam, Zan, wk1, wk, Zao, Zap, Zaq, Zar, Zas, Zat, Zau, Zav, AV.kill, AO.kill, AV.thaw, AO.thaw, Zaw, Zax, Zay, Zaz, Zba, Zbb, Zbc, Zbd, Zbe, ite_true, ite_false, reduceCtorEq, Nat.reduceAdd, Nat.reduceMul, Nat.reduceLeDiff, Nat.reduceLT, Nat.reduceEqDiff, forall_const]
  refine br ?_ ?_
  · intro h
    have hlt : k < s.length := by have := of_decide_eq_true h; omega
    have hgi : (bU s.length g).getD k [] = [.int .u8 ((s.getD k 0).toNat : Nat)] := by rw [bU_get hlt, hg, lowG_at]
    have hbl := bU_len s.length g
    have hnx := lowG_nx s k
    generalize hcc : s.getD k 0 = c at hgi hnx
    have hset : (bU s.length g).set k [.int .u8 ((lowB c).toNat : Nat)] = bU s.length (fun j => if j = k then lowB c else g j) := bU_set (lowB c)
    simp only [ZZ, IsnK_some, Za, Zb, Zc, Zd, Ze, Zf, Zg, Zh, rd, AV.un, AV.unA, AV.ad, Zi, Zj, Zk, Zl, Zm, Zn, Zo, Zp, Zq, Zr, Zs, Zt, Zu, Zv, Zw, Zx, Zy, Zz, Zaa, Zab, Zac, Zad, Zae, Zaf, Zag, Zah, Zai, Zaj, Zak, Zal, Zam, Zan, wk1, wk, Zao, Zap, Zaq, Zar, Zas, Zat, Zau, Zav, AV.kill, AO.kill, AV.thaw, AO.thaw, Zaw, Zax, Zay, Zaz, Zba, Zbb, Zbc, Zbd, Zbe, ite_true, ite_false, reduceCtorEq, Nat.reduceAdd, Nat.reduceMul, Nat.reduceLeDiff, Nat.reduceLT, Nat.reduceEqDiff, forall_const, hgi, hbl]
    ((repeat' (with_reducible apply And.intro)) <;> try ((first | first | assumption | trivial | exact (fun hq => by rw [hq]; rfl) | exact i64_of (by omega) (by omega) | omega | (simp; done) | (simp; omega) | (intro hsc; have hs0 := hsc; (try have hsd := of_decide_eq_true hsc); (try simp only [Bool.not_eq_true', Bool.or_eq_false_iff, Bool.and_eq_true, Bool.or_eq_true, decide_eq_true_eq, decide_eq_false_iff_not] at hsc); (repeat' (with_reducible apply And.intro)) <;> (first | assumption | trivial | exact (fun hq => by rw [hq]; rfl) | exact i64_of (by omega) (by omega) | omega | (simp; done) | (simp; omega) | (intro hse; simp [hse, hs0]; done) | (intro hse; simp only [hse, hs0, Bool.true_and, Bool.and_true, Bool.not_false, Bool.not_true, Bool.and_self]; done))))))
    refine br ?_ ?_
    · intro hc
      simp only [Bool.and_eq_true, decide_eq_true_eq] at hc
      have hw := low_wrap c (by omega) (by omega)
      simp only [ZZ, IsnK_some, Za, Zb, Zc, Zd, Ze, Zf, Zg, Zh, rd, AV.un, AV.unA, AV.ad, Zi, Zj, Zk, Zl, Zm, Zn, Zo, Zp, Zq, Zr, Zs, Zt, Zu, Zv, Zw, Zx, Zy, Zz, Zaa, Zab, Zac, Zad, Zae, Zaf, Zag, Zah, Zai, Zaj, Zak, Zal, Zam, Zan, wk1, wk, Zao, Zap, Zaq, Zar, Zas, Zat, Zau, Zav, AV.kill, AO.kill, AV.thaw, AO.thaw, Zaw, Zax, Zay, Zaz, Zba, Zbb, Zbc, Zbd, Zbe, ite_true, ite_false, reduceCtorEq, Nat.reduceAdd, Nat.reduceMul, Nat.reduceLeDiff, Nat.reduceLT, Nat.reduceEqDiff, forall_const, hbl, hgi, hw, hset]
      ((repeat' (with_reducible apply And.intro)) <;> try ((first | first | assumption | trivial | exact (fun hq => by rw [hq]; rfl) | exact i64_of (by omega) (by omega) | omega | (simp; done) | (simp; omega) | (intro hsc; have hs0 := hsc; (try have hsd := of_decide_eq_true hsc); (try simp only [Bool.not_eq_true', Bool.or_eq_false_iff, Bool.and_eq_true, Bool.or_eq_true, decide_eq_true_eq, decide_eq_false_iff_not] at hsc); (repeat' (with_reducible apply And.intro)) <;> (first | assumption | trivial | exact (fun hq => by rw [hq]; rfl) | exact i64_of (by omega) (by omega) | omega | (simp; done) | (simp; omega) | (intro hse; simp [hse, hs0]; done) | (intro hse; simp only [hse, hs0, Bool.true_and, Bool.and_true, Bool.not_false, Bool.not_true, Bool.and_self]; done))))))
      refine cut_same (by simp only [ZZ, IsnK_some, Za, Zb, Zc, Zd, Ze, Zf, Zg, Zh, rd, AV.un, AV.unA, AV.ad, Zi, Zj, Zk, Zl, Zm, Zn, Zo, Zp, Zq, Zr, Zs, Zt, Zu, Zv, Zw, Zx, Zy, Zz, Zaa, Zab, Zac, Zad, Zae, Zaf, Zag, Zah, Zai, Zaj, Zak, Zal, Zam, Zan, wk1, wk, Zao, Zap, Zaq, Zar, Zas, Zat, Zau, Zav, AV.kill, AO.kill, AV.thaw, AO.thaw, Zaw, Zax, Zay, Zaz, Zba, Zbb, Zbc, Zbd, Zbe, ite_true, ite_false, reduceCtorEq, Nat.reduceAdd, Nat.reduceMul, Nat.reduceLeDiff, Nat.reduceLT, Nat.reduceEqDiff, forall_const]) ?_
      simp only [ZZ, IsnK_some, Za, Zb, Zc, Zd, Ze, Zf, Zg, Zh, rd, AV.un, AV.unA, AV.ad, Zi, Zj, Zk, Zl, Zm, Zn, Zo, Zp, Zq, Zr, Zs, Zt, Zu, Zv, Zw, Zx, Zy, Zz, Zaa, Zab, Zac, Zad, Zae, Zaf, Zag, Zah, Zai, Zaj, Zak, Zal, Zam, Zan, wk1, wk, Zao, Zap, Zaq, Zar, Zas, Zat, Zau, Zav, AV.kill, AO.kill, AV.thaw, AO.thaw, Zaw, Zax, Zay, Zaz, Zba, Zbb, Zbc, Zbd, Zbe, ite_true, ite_false, reduceCtorEq, Nat.reduceAdd, Nat.reduceMul, Nat.reduceLeDiff, Nat.reduceLT, Nat.reduceEqDiff, forall_const]
      ((repeat' (with_reducible apply And.intro)) <;> try ((first | first | assumption | trivial | exact (fun hq => by rw [hq]; rfl) | exact i64_of (by omega) (by omega) | omega | (simp; done) | (simp; omega) | (intro hsc; have hs0 := hsc; (try have hsd := of_decide_eq_true hsc); (try simp only [Bool.not_eq_true', Bool.or_eq_false_iff, Bool.and_eq_true, Bool.or_eq_true, decide_eq_true_eq, decide_eq_false_iff_not] at hsc); (repeat' (with_reducible apply And.intro)) <;> (first | assumption | trivial | exact (fun hq => by rw [hq]; rfl) | exact i64_of (by omega) (by omega) | omega | (simp; done) | (simp; omega) | (intro hse; simp [hse, hs0]; done) | (intro hse; simp only [hse, hs0, Bool.true_and, Bool.and_true, Bool.not_false, Bool.not_true, Bool.and_self]; done))))))
      refine end_round (s.length - (k + 1)) [.any, .any, .any, .row (.l 7), .any, .any, .any, .any, .row (.l 7), .p (int (s.length : Nat)), .p (int ((k + 1) : Nat)), .any, .any, .any, .any, .any, .any, .any, .any, .any, .any, .any, .any, .any, .any, .any, .any, .any, .any] [(.l 7, .row (bU s.length (fun j => if j = k then lowB c else g j)) 5 1 false)] (by omega) (by (simp only [ZZ, IsnK_some, Za, Zb, Zc, Zd, Ze, Zf, Zg, Zh, rd, AV.un, AV.unA, AV.ad, Zi, Zj, Zk, Zl, Zm, Zn, Zo, Zp, Zq, Zr, Zs, Zt, Zu, Zv, Zw, Zx, Zy, Zz, Zaa, Zab, Zac, Zad, Zae, Zaf, Zag, Zah, Zai, Zaj, Zak, Zal, Zam, Zan, wk1, wk, Zao, Zap, Zaq, Zar, Zas, Zat, Zau, Zav, AV.kill, AO.kill, AV.thaw, AO.thaw, Zaw, Zax, Zay, Zaz, Zba, Zbb, Zbc, Zbd, Zbe, ite_true, ite_false, reduceCtorEq, Nat.reduceAdd, Nat.reduceMul, Nat.reduceLeDiff, Nat.reduceLT, Nat.reduceEqDiff, forall_const]; try trivial)) (by (simp only [ZZ, IsnK_some, Za, Zb, Zc, Zd, Ze, Zf, Zg, Zh, rd, AV.un, AV.unA, AV.ad, Zi, Zj, Zk, Zl, Zm, Zn, Zo, Zp, Zq, Zr, Zs, Zt, Zu, Zv, Zw, Zx, Zy, Zz, Zaa, Zab, Zac, Zad, Zae, Zaf, Zag, Zah, Zai, Zaj, Zak, Zal, Zam, Zan, wk1, wk, Zao, Zap, Zaq, Zar, Zas, Zat, Zau, Zav, AV.kill, AO.kill, AV.thaw, AO.thaw, Zaw, Zax, Zay, Zaz, Zba, Zbb, Zbc, Zbd, Zbe, ite_true, ite_false, reduceCtorEq, Nat.reduceAdd, Nat.reduceMul, Nat.reduceLeDiff, Nat.reduceLT, Nat.reduceEqDiff, forall_const]; try trivial)) ⟨k + 1, fun j => if j = k then lowB c else g j, by omega, rfl, by rw [hg]; exact hnx, rfl, rfl⟩
    · intro hc
      have hsame : lowB c = c := low_same c (by
        intro h2
        simp only [Bool.and_eq_false_iff, decide_eq_false_iff_not] at hc
        omega)
      have hsg : (fun j => if j = k then lowB c else lowG s k j) = g := by
        funext j
        by_cases hj : j = k
        · subst hj
          rw [if_pos rfl, hsame, hg, lowG_at, hcc]
        · rw [if_neg hj, hg]
      simp only [ZZ, IsnK_some, Za, Zb, Zc, Zd, Ze, Zf, Zg, Zh, rd, AV.un, AV.unA, AV.ad, Zi, Zj, Zk, Zl, Zm, Zn, Zo, Zp, Zq, Zr, Zs, Zt, Zu, Zv, Zw, Zx, Zy, Zz, Zaa, Zab, Zac, Zad, Zae, Zaf, Zag, Zah, Zai, Zaj, Zak, Zal, Zam, Zan, wk1, wk, Zao, Zap, Zaq, Zar, Zas, Zat, Zau, Zav, AV.kill, AO.kill, AV.thaw, AO.thaw, Zaw, Zax, Zay, Zaz, Zba, Zbb, Zbc, Zbd, Zbe, ite_true, ite_false, reduceCtorEq, Nat.reduceAdd, Nat.reduceMul, Nat.reduceLeDiff, Nat.reduceLT, Nat.reduceEqDiff, forall_const]
      refine cut_same (by simp only [ZZ, IsnK_some, Za, Zb, Zc, Zd, Ze, Zf, Zg, Zh, rd, AV.un, AV.unA, AV.ad, Zi, Zj, Zk, Zl, Zm, Zn, Zo, Zp, Zq, Zr, Zs, Zt, Zu, Zv, Zw, Zx, Zy, Zz, Zaa, Zab, Zac, Zad, Zae, Zaf, Zag, Zah, Zai, Zaj, Zak, Zal, Zam, Zan, wk1, wk, Zao, Zap, Zaq, Zar, Zas, Zat, Zau, Zav, AV.kill, AO.kill, AV.thaw, AO.thaw, Zaw, Zax, Zay, Zaz, Zba, Zbb, Zbc, Zbd, Zbe, ite_true, ite_false, reduceCtorEq, Nat.reduceAdd, Nat.reduceMul, Nat.reduceLeDiff, Nat.reduceLT, Nat.reduceEqDiff, forall_const]) ?_
      simp only [ZZ, IsnK_some, Za, Zb, Zc, Zd, Ze, Zf, Zg, Zh, rd, AV.un, AV.unA, AV.ad, Zi, Zj, Zk, Zl, Zm, Zn, Zo, Zp, Zq, Zr, Zs, Zt, Zu, Zv, Zw, Zx, Zy, Zz, Zaa, Zab, Zac, Zad, Zae, Zaf, Zag, Zah, Zai, Zaj, Zak, Zal, Zam, Zan, wk1, wk, Zao, Zap, Zaq, Zar, Zas, Zat, Zau, Zav, AV.kill, AO.kill, AV.thaw, AO.thaw, Zaw, Zax, Zay, Zaz, Zba, Zbb, Zbc, Zbd, Zbe, ite_true, ite_false, reduceCtorEq, Nat.reduceAdd, Nat.reduceMul, Nat.reduceLeDiff, Nat.reduceLT, Nat.reduceEqDiff, forall_const]
      ((repeat' (with_reducible apply And.intro)) <;> try ((first | first | assumption | trivial | exact (fun hq => by rw [hq]; rfl) | exact i64_of (by omega) (by omega) | omega | (simp; done) | (simp; omega) | (intro hsc; have hs0 := hsc; (try have hsd := of_decide_eq_true hsc); (try simp only [Bool.not_eq_true', Bool.or_eq_false_iff, Bool.and_eq_true, Bool.or_eq_true, decide_eq_true_eq, decide_eq_false_iff_not] at hsc); (repeat' (with_reducible apply And.intro)) <;> (first | assumption | trivial | exact (fun hq => by rw [hq]; rfl) | exact i64_of (by omega) (by omega) | omega | (simp; done) | (simp; omega) | (intro hse; simp [hse, hs0]; done) | (intro hse; simp only [hse, hs0, Bool.true_and, Bool.and_true, Bool.not_false, Bool.not_true, Bool.and_self]; done))))))
      refine end_round (s.length - (k + 1)) [.any, .any, .any, .row (.l 7), .any, .any, .any, .any, .row (.l 7), .p (int (s.length : Nat)), .p (int ((k + 1) : Nat)), .any, .any, .any, .any, .any, .any, .any, .any, .any, .any, .any, .any, .any, .any, .any, .any, .any, .any] [(.l 7, .row (bU s.length g) 5 1 false)] (by omega) (by (simp only [ZZ, IsnK_some, Za, Zb, Zc, Zd, Ze, Zf, Zg, Zh, rd, AV.un, AV.unA, AV.ad, Zi, Zj, Zk, Zl, Zm, Zn, Zo, Zp, Zq, Zr, Zs, Zt, Zu, Zv, Zw, Zx, Zy, Zz, Zaa, Zab, Zac, Zad, Zae, Zaf, Zag, Zah, Zai, Zaj, Zak, Zal, Zam, Zan, wk1, wk, Zao, Zap, Zaq, Zar, Zas, Zat, Zau, Zav, AV.kill, AO.kill, AV.thaw, AO.thaw, Zaw, Zax, Zay, Zaz, Zba, Zbb, Zbc, Zbd, Zbe, ite_true, ite_false, reduceCtorEq, Nat.reduceAdd, Nat.reduceMul, Nat.reduceLeDiff, Nat.reduceLT, Nat.reduceEqDiff, forall_const]; try trivial)) (by (simp only [ZZ, IsnK_some, Za, Zb, Zc, Zd, Ze, Zf, Zg, Zh, rd, AV.un, AV.unA, AV.ad, Zi, Zj, Zk, Zl, Zm, Zn, Zo, Zp, Zq, Zr, Zs, Zt, Zu, Zv, Zw, Zx, Zy, Zz, Zaa, Zab, Zac, Zad, Zae, Zaf, Zag, Zah, Zai, Zaj, Zak, Zal, Zam, Zan, wk1, wk, Zao, Zap, Zaq, Zar, Zas, Zat, Zau, Zav, AV.kill, AO.kill, AV.thaw, AO.thaw, Zaw, Zax, Zay, Zaz, Zba, Zbb, Zbc, Zbd, Zbe, ite_true, ite_false, reduceCtorEq, Nat.reduceAdd, Nat.reduceMul, Nat.reduceLeDiff, Nat.reduceLT, Nat.reduceEqDiff, forall_const]; try trivial)) ⟨k + 1, g, by omega, rfl, by rw [← hnx, hsg], rfl, rfl⟩
  · intro h
    have hge : k = s.length := by have := of_decide_eq_false h; omega
    subst hge
    simp only [ZZ, IsnK_some, Za, Zb, Zc, Zd, Ze, Zf, Zg, Zh, rd, AV.un, AV.unA, AV.ad, Zi, Zj, Zk, Zl, Zm, Zn, Zo, Zp, Zq, Zr, Zs, Zt, Zu, Zv, Zw, Zx, Zy, Zz, Zaa, Zab, Zac, Zad, Zae, Zaf, Zag, Zah, Zai, Zaj, Zak, Zal, Zam, Zan, wk1, wk, Zao, Zap, Zaq, Zar, Zas, Zat, Zau, Zav, AV.kill, AO.kill, AV.thaw, AO.thaw, Zaw, Zax, Zay, Zaz, Zba, Zbb, Zbc, Zbd, Zbe, ite_true, ite_false, reduceCtorEq, Nat.reduceAdd, Nat.reduceMul, Nat.reduceLeDiff, Nat.reduceLT, Nat.reduceEqDiff, forall_const, bytes_bU]
    rw [hg, lowG_end]
theorem lowerR_ok (s : List UInt8) (hs : s.length ≤ 1000000000) : PCall Tryd.prog E 70 [.str s] (· = .str (lowF s)) := by
  refine pcallF mixed Tryd.func70 ck_chaseref1_lower ?_
  simp only [a0, l0, OS.ao, List.map_cons, List.map_nil, List.length_cons, List.length_nil, List.cons_append, List.nil_append, Nat.reduceSub, Nat.reduceAdd, List.replicate_succ, List.replicate_zero, ir_chaseref1_lower, rs_chaseref1_lower, ZZ, IsnK_some, Za, Zb, Zc, Zd, Ze, Zf, Zg, Zh, rd, AV.un, AV.unA, AV.ad, Zi, Zj, Zk, Zl, Zm, Zn, Zo, Zp, Zq, Zr, Zs, Zt, Zu, Zv, Zw, Zx, Zy, Zz, Zaa, Zab, Zac, Zad, Zae, Zaf, Zag, Zah, Zai, Zaj, Zak, Zal, Zam, Zan, wk1, wk, Zao, Zap, Zaq, Zar, Zas, Zat, Zau, Zav, AV.kill, AO.kill, AV.thaw, AO.thaw, Zaw, Zax, Zay, Zaz, Zba, Zbb, Zbc, Zbd, Zbe, ite_true, ite_false, reduceCtorEq, Nat.reduceAdd, Nat.reduceMul, Nat.reduceLeDiff, Nat.reduceLT, Nat.reduceEqDiff, forall_const]
  refine ⟨by omega, ?_⟩
  rw [bU_of]
  simp only [ZZ, IsnK_some, Za, Zb, Zc, Zd, Ze, Zf, Zg, Zh, rd, AV.un, AV.unA, AV.ad, Zi, Zj, Zk, Zl, Zm, Zn, Zo, Zp, Zq, Zr, Zs, Zt, Zu, Zv, Zw, Zx, Zy, Zz, Zaa, Zab, Zac, Zad, Zae, Zaf, Zag, Zah, Zai, Zaj, Zak, Zal, Zam, Zan, wk1, wk, Zao, Zap, Zaq, Zar, Zas, Zat, Zau, Zav, AV.kill, AO.kill, AV.thaw, AO.thaw, Zaw, Zax, Zay, Zaz, Zba, Zbb, Zbc, Zbd, Zbe, ite_true, ite_false, reduceCtorEq, Nat.reduceAdd, Nat.reduceMul, Nat.reduceLeDiff, Nat.reduceLT, Nat.reduceEqDiff, forall_const, bU_len]
  refine loop_intro (fun n fr L => ∃ (k : Nat) (g : Nat → UInt8), k ≤ s.length ∧ n = s.length - k ∧ (g = lowG s k) ∧ fr = [.any, .any, .any, .row (.l 8), .any, .any, .any, .any, .any, .row (.l 8), .p (int (s.length : Nat)), .p (int (k : Nat)), .any, .any, .any, .any, .any, .any, .any, .any, .any, .any, .any, .any, .any, .any, .any, .any] ∧ L = [(.l 8, .row (bU s.length g) 5 1 false)]) (s.length) [.any, .any, .any, .row (.l 8), .any, .any, .any, .any, .any, .row (.l 8), .p (int (s.length : Nat)), .p (int (0 : Nat)), .any, .any, .any, .any, .any, .any, .any, .any, .any, .any, .any, .any, .any, .any, .any, .any] [(.l 8, .row (bU s.length (fun j => s.getD j 0)) 5 1 false)] (by (simp only [ZZ, IsnK_some, Za, Zb, Zc, Zd, Ze, Zf, Zg, Zh, rd, AV.un, AV.unA, AV.ad, Zi, Zj, Zk, Zl, Zm, Zn, Zo, Zp, Zq, Zr, Zs, Zt, Zu, Zv, Zw, Zx, Zy, Zz, Zaa, Zab, Zac, Zad, Zae, Zaf, Zag, Zah, Zai, Zaj, Zak, Zal, Zam, Zan, wk1, wk, Zao, Zap, Zaq, Zar, Zas, Zat, Zau, Zav, AV.kill, AO.kill, AV.thaw, AO.thaw, Zaw, Zax, Zay, Zaz, Zba, Zbb, Zbc, Zbd, Zbe, ite_true, ite_false, reduceCtorEq, Nat.reduceAdd, Nat.reduceMul, Nat.reduceLeDiff, Nat.reduceLT, Nat.reduceEqDiff, forall_const]; try trivial)) (by (simp only [ZZ, IsnK_some, Za, Zb, Zc, Zd, Ze, Zf, Zg, Zh, rd, AV.un, AV.unA, AV.ad, Zi, Zj, Zk, Zl, Zm, Zn, Zo, Zp, Zq, Zr, Zs, Zt, Zu, Zv, Zw, Zx, Zy, Zz, Zaa, Zab, Zac, Zad, Zae, Zaf, Zag, Zah, Zai, Zaj, Zak, Zal, Zam, Zan, wk1, wk, Zao, Zap, Zaq, Zar, Zas, Zat, Zau, Zav, AV.kill, AO.kill, AV.thaw, AO.thaw, Zaw, Zax, Zay, Zaz, Zba, Zbb, Zbc, Zbd, Zbe, ite_true, ite_false, reduceCtorEq, Nat.reduceAdd, Nat.reduceMul, Nat.reduceLeDiff, Nat.reduceLT, Nat.reduceEqDiff, forall_const]; try trivial)) ⟨0, fun j => s.getD j 0, by omega, by omega, by funext j; simp [lowG], rfl, rfl⟩ ?_
  rintro n fr L ⟨k, g, hk, rfl, hg, rfl, rfl⟩
  simp only [ir_chaseref1_lower_L0, ZZ, IsnK_some, Za, Zb, Zc, Zd, Ze, Zf, Zg, Zh, rd, AV.un, AV.unA, AV.ad, Zi, Zj, Zk, Zl, Zm, Zn, Zo, Zp, Zq, Zr, Zs, Zt, Zu, Zv, Zw, Zx, Zy, Zz, Zaa, Zab, Zac, Zad, Zae, Zaf, Zag, Zah, Zai, Zaj, Zak, Zal, Zam, Zan, wk1, wk, Zao, Zap, Zaq, Zar, Zas, Zat, Zau, Zav, AV.kill, AO.kill, AV.thaw, AO.thaw, Zaw, Zax, Zay, Zaz, Zba, Zbb, Zbc, Zbd, Zbe, ite_true, ite_false, reduceCtorEq, Nat.reduceAdd, Nat.reduceMul, Nat.reduceLeDiff, Nat.reduceLT, Nat.reduceEqDiff, forall_const]
  refine br ?_ ?_
  · intro h
    have hlt : k < s.length := by have := of_decide_eq_true h; omega
    have hgi : (bU s.length g).getD k [] = [.int .u8 ((s.getD k 0).toNat : Nat)] := by rw [bU_get hlt, hg, lowG_at]
    have hbl := bU_len s.length g
    have hnx := lowG_nx s k
    generalize hcc : s.getD k 0 = c at hgi hnx
    have hset : (bU s.length g).set k [.int .u8 ((lowB c).toNat : Nat)] = bU s.length (fun j => if j = k then lowB c else g j) := bU_set (lowB c)
    simp only [ZZ, IsnK_some, Za, Zb, Zc, Zd, Ze, Zf, Zg, Zh, rd, AV.un, AV.unA, AV.ad, Zi, Zj, Zk, Zl, Zm, Zn, Zo, Zp, Zq, Zr, Zs, Zt, Zu, Zv, Zw, Zx, Zy, Zz, Zaa, Zab, Zac, Zad, Zae, Zaf, Zag, Zah, Zai, Zaj, Zak, Zal, Zam, Zan, wk1, wk, Zao, Zap, Zaq, Zar, Zas, Zat, Zau, Zav, AV.kill, AO.kill, AV.thaw, AO.thaw, Zaw, Zax, Zay, Zaz, Zba, Zbb, Zbc, Zbd, Zbe, ite_true, ite_false, reduceCtorEq, Nat.reduceAdd, Nat.reduceMul, Nat.reduceLeDiff, Nat.reduceLT, Nat.reduceEqDiff, forall_const, hgi, hbl]
    ((repeat' (with_reducible apply And.intro)) <;> try ((first | first | assumption | trivial | exact (fun hq => by rw [hq]; rfl) | exact i64_of (by omega) (by omega) | omega | (simp; done) | (simp; omega) | (intro hsc; have hs0 := hsc; (try have hsd := of_decide_eq_true hsc); (try simp only [Bool.not_eq_true', Bool.or_eq_false_iff, Bool.and_eq_true, Bool.or_eq_true, decide_eq_true_eq, decide_eq_false_iff_not] at hsc); (repeat' (with_reducible apply And.intro)) <;> (first | assumption | trivial | exact (fun hq => by rw [hq]; rfl) | exact i64_of (by omega) (by omega) | omega | (simp; done) | (simp; omega) | (intro hse; simp [hse, hs0]; done) | (intro hse; simp only [hse, hs0, Bool.true_and, Bool.and_true, Bool.not_false, Bool.not_true, Bool.and_self]; done))))))
    refine use1 (IndexByte_ok capL c) rfl (.inl rfl) ?_
    rw [cap_idx]
    simp only [ZZ, IsnK_some, Za, Zb, Zc, Zd, Ze, Zf, Zg, Zh, rd, AV.un, AV.unA, AV.ad, Zi, Zj, Zk, Zl, Zm, Zn, Zo, Zp, Zq, Zr, Zs, Zt, Zu, Zv, Zw, Zx, Zy, Zz, Zaa, Zab, Zac, Zad, Zae, Zaf, Zag, Zah, Zai, Zaj, Zak, Zal, Zam, Zan, wk1, wk, Zao, Zap, Zaq, Zar, Zas, Zat, Zau, Zav, AV.kill, AO.kill, AV.thaw, AO.thaw, Zaw, Zax, Zay, Zaz, Zba, Zbb, Zbc, Zbd, Zbe, ite_true, ite_false, reduceCtorEq, Nat.reduceAdd, Nat.reduceMul, Nat.reduceLeDiff, Nat.reduceLT, Nat.reduceEqDiff, forall_const]
    refine br ?_ ?_
    · intro hc
      have hc : 65 ≤ c.toNat ∧ c.toNat ≤ 90 := by
        by_cases hq : 65 ≤ c.toNat ∧ c.toNat ≤ 90
        · exact hq
        · rw [if_neg hq] at hc; simp at hc
      have hw := cap_small c hc
      rw [if_pos hc]
      unfold smallL at hw
      simp only [ZZ, IsnK_some, Za, Zb, Zc, Zd, Ze, Zf, Zg, Zh, rd, AV.un, AV.unA, AV.ad, Zi, Zj, Zk, Zl, Zm, Zn, Zo, Zp, Zq, Zr, Zs, Zt, Zu, Zv, Zw, Zx, Zy, Zz, Zaa, Zab, Zac, Zad, Zae, Zaf, Zag, Zah, Zai, Zaj, Zak, Zal, Zam, Zan, wk1, wk, Zao, Zap, Zaq, Zar, Zas, Zat, Zau, Zav, AV.kill, AO.kill, AV.thaw, AO.thaw, Zaw, Zax, Zay, Zaz, Zba, Zbb, Zbc, Zbd, Zbe, ite_true, ite_false, reduceCtorEq, Nat.reduceAdd, Nat.reduceMul, Nat.reduceLeDiff, Nat.reduceLT, Nat.reduceEqDiff, forall_const, hw, hbl, hgi, hset]
      ((repeat' (with_reducible apply And.intro)) <;> try ((first | first | assumption | trivial | exact (fun hq => by rw [hq]; rfl) | exact i64_of (by omega) (by omega) | omega | (simp; done) | (simp; omega) | (intro hsc; have hs0 := hsc; (try have hsd := of_decide_eq_true hsc); (try simp only [Bool.not_eq_true', Bool.or_eq_false_iff, Bool.and_eq_true, Bool.or_eq_true, decide_eq_true_eq, decide_eq_false_iff_not] at hsc); (repeat' (with_reducible apply And.intro)) <;> (first | assumption | trivial | exact (fun hq => by rw [hq]; rfl) | exact i64_of (by omega) (by omega) | omega | (simp; done) | (simp; omega) | (intro hse; simp [hse, hs0]; done) | (intro hse; simp only [hse, hs0, Bool.true_and, Bool.and_true, Bool.not_false, Bool.not_true, Bool.and_self]; done))))))
      refine cut_same (by simp only [ZZ, IsnK_some, Za, Zb, Zc, Zd, Ze, Zf, Zg, Zh, rd, AV.un, AV.unA, AV.ad, Zi, Zj, Zk, Zl, Zm, Zn, Zo, Zp, Zq, Zr, Zs, Zt, Zu, Zv, Zw, Zx, Zy, Zz, Zaa, Zab, Zac, Zad, Zae, Zaf, Zag, Zah, Zai, Zaj, Zak, Zal, Zam, Zan, wk1, wk, Zao, Zap, Zaq, Zar, Zas, Zat, Zau, Zav, AV.kill, AO.kill, AV.thaw, AO.thaw, Zaw, Zax, Zay, Zaz, Zba, Zbb, Zbc, Zbd, Zbe, ite_true, ite_false, reduceCtorEq, Nat.reduceAdd, Nat.reduceMul, Nat.reduceLeDiff, Nat.reduceLT, Nat.reduceEqDiff, forall_const]) ?_
      simp only [ZZ, IsnK_some, Za, Zb, Zc, Zd, Ze, Zf, Zg, Zh, rd, AV.un, AV.unA, AV.ad, Zi, Zj, Zk, Zl, Zm, Zn, Zo, Zp, Zq, Zr, Zs, Zt, Zu, Zv, Zw, Zx, Zy, Zz, Zaa, Zab, Zac, Zad, Zae, Zaf, Zag, Zah, Zai, Zaj, Zak, Zal, Zam, Zan, wk1, wk, Zao, Zap, Zaq, Zar, Zas, Zat, Zau, Zav, AV.kill, AO.kill, AV.thaw, AO.thaw, Zaw, Zax, Zay, Zaz, Zba, Zbb, Zbc, Zbd, Zbe, ite_true, ite_false, reduceCtorEq, Nat.reduceAdd, Nat.reduceMul, Nat.reduceLeDiff, Nat.reduceLT, Nat.reduceEqDiff, forall_const]
      ((repeat' (with_reducible apply And.intro)) <;> try ((first | first | assumption | trivial | exact (fun hq => by rw [hq]; rfl) | exact i64_of (by omega) (by omega) | omega | (simp; done) | (simp; omega) | (intro hsc; have hs0 := hsc; (try have hsd := of_decide_eq_true hsc); (try simp only [Bool.not_eq_true', Bool.or_eq_false_iff, Bool.and_eq_true, Bool.or_eq_true, decide_eq_true_eq, decide_eq_false_iff_not] at hsc); (repeat' (with_reducible apply And.intro)) <;> (first | assumption | trivial | exact (fun hq => by rw [hq]; rfl) | exact i64_of (by omega) (by omega) | omega | (simp; done) | (simp; omega) | (intro hse; simp [hse, hs0]; done) | (intro hse; simp only [hse, hs0, Bool.true_and, Bool.and_true, Bool.not_false, Bool.not_true, Bool.and_self]; done))))))
      refine end_round (s.length - (k + 1)) [.any, .any, .any, .row (.l 8), .any, .any, .any, .any, .any, .row (.l 8), .p (int (s.length : Nat)), .p (int ((k + 1) : Nat)), .any, .any, .any, .any, .any, .any, .any, .any, .any, .any, .any, .any, .any, .any, .any, .any] [(.l 8, .row (bU s.length (fun j => if j = k then lowB c else g j)) 5 1 false)] (by omega) (by (simp only [ZZ, IsnK_some, Za, Zb, Zc, Zd, Ze, Zf, Zg, Zh, rd, AV.un, AV.unA, AV.ad, Zi, Zj, Zk, Zl, Zm, Zn, Zo, Zp, Zq, Zr, Zs, Zt, Zu, Zv, Zw, Zx, Zy, Zz, Zaa, Zab, Zac, Zad, Zae, Zaf, Zag, Zah, Zai, Zaj, Zak, Zal, Zam, Zan, wk1, wk, Zao, Zap, Zaq, Zar, Zas, Zat, Zau, Zav, AV.kill, AO.kill, AV.thaw, AO.thaw, Zaw, Zax, Zay, Zaz, Zba, Zbb, Zbc, Zbd, Zbe, ite_true, ite_false, reduceCtorEq, Nat.reduceAdd, Nat.reduceMul, Nat.reduceLeDiff, Nat.reduceLT, Nat.reduceEqDiff, forall_const]; try trivial)) (by (simp only [ZZ, IsnK_some, Za, Zb, Zc, Zd, Ze, Zf, Zg, Zh, rd, AV.un, AV.unA, AV.ad, Zi, Zj, Zk, Zl, Zm, Zn, Zo, Zp, Zq, Zr, Zs, Zt, Zu, Zv, Zw, Zx, Zy, Zz, Zaa, Zab, Zac, Zad, Zae, Zaf, Zag, Zah, Zai, Zaj, Zak, Zal, Zam, Zan, wk1, wk, Zao, Zap, Zaq, Zar, Zas, Zat, Zau, Zav, AV.kill, AO.kill, AV.thaw, AO.thaw, Zaw, Zax, Zay, Zaz, Zba, Zbb, Zbc, Zbd, Zbe, ite_true, ite_false, reduceCtorEq, Nat.reduceAdd, Nat.reduceMul, Nat.reduceLeDiff, Nat.reduceLT, Nat.reduceEqDiff, forall_const]; try trivial)) ⟨k + 1, fun j => if j = k then lowB c else g j, by omega, rfl, by rw [hg]; exact hnx, rfl, rfl⟩
    · intro hc
      have hc : ¬ (65 ≤ c.toNat ∧ c.toNat ≤ 90) := by
        intro hq
        rw [if_pos hq] at hc
        have := of_decide_eq_false hc
        omega
      have hsame : lowB c = c := low_same c hc
      have hsg : (fun j => if j = k then lowB c else lowG s k j) = g := by
        funext j
        by_cases hj : j = k
        · subst hj
          rw [if_pos rfl, hsame, hg, lowG_at, hcc]
        · rw [if_neg hj, hg]
      simp only [ZZ, IsnK_some, Za, Zb, Zc, Zd, Ze, Zf, Zg, Zh, rd, AV.un, AV.unA, AV.ad, Zi, Zj, Zk, Zl, Zm, Zn, Zo, Zp, Zq, Zr, Zs, Zt, Zu, Zv, Zw, Zx, Zy, Zz, Zaa, Zab, Zac, Zad, Zae, Zaf, Zag, Zah, Zai, Zaj, Zak, Zal, Zam, Zan, wk1, wk, Zao, Zap, Zaq, Zar, Zas, Zat, Zau, Zav, AV.kill, AO.kill, AV.thaw, AO.thaw, Zaw, Zax, Zay, Zaz, Zba, Zbb, Zbc, Zbd, Zbe, ite_true, ite_false, reduceCtorEq, Nat.reduceAdd, Nat.reduceMul, Nat.reduceLeDiff, Nat.reduceLT, Nat.reduceEqDiff, forall_const]
      refine cut_same (by simp only [ZZ, IsnK_some, Za, Zb, Zc, Zd, Ze, Zf, Zg, Zh, rd, AV.un, AV.unA, AV.ad, Zi, Zj, Zk, Zl, Zm, Zn, Zo, Zp, Zq, Zr, Zs, Zt, Zu, Zv, Zw, Zx, Zy, Zz, Zaa, Zab, Zac, Zad, Zae, Zaf, Zag, Zah, Zai, Zaj, Zak, Zal, Zam, Zan, wk1, wk, Zao, Zap, Zaq, Zar, Zas, Zat, Zau, Zav, AV.kill, AO.kill, AV.thaw, AO.thaw, Zaw, Zax, Zay, Zaz, Zba, Zbb, Zbc, Zbd, Zbe, ite_true, ite_false, reduceCtorEq, Nat.reduceAdd, Nat.reduceMul, Nat.reduceLeDiff, Nat.reduceLT, Nat.reduceEqDiff, forall_const]) ?_
      simp only [ZZ, IsnK_some, Za, Zb, Zc, Zd, Ze, Zf, Zg, Zh, rd, AV.un, AV.unA, AV.ad, Zi, Zj, Zk, Zl, Zm, Zn, Zo, Zp, Zq, Zr, Zs, Zt, Zu, Zv, Zw, Zx, Zy, Zz, Zaa, Zab, Zac, Zad, Zae, Zaf, Zag, Zah, Zai, Zaj, Zak, Zal, Zam, Zan, wk1, wk, Zao, Zap, Zaq, Zar, Zas, Zat, Zau, Zav, AV.kill, AO.kill, AV.thaw, AO.thaw, Zaw, Zax, Zay, Zaz, Zba, Zbb, Zbc, Zbd, Zbe, ite_true, ite_false, reduceCtorEq, Nat.reduceAdd, Nat.reduceMul, Nat.reduceLeDiff, Nat.reduceLT, Nat.reduceEqDiff, forall_const]
      ((repeat' (with_reducible apply And.intro)) <;> try ((first | first | assumption | trivial | exact (fun hq => by rw [hq]; rfl) | exact i64_of (by omega) (by omega) | omega | (simp; done) | (simp; omega) | (intro hsc; have hs0 := hsc; (try have hsd := of_decide_eq_true hsc); (try simp only [Bool.not_eq_true', Bool.or_eq_false_iff, Bool.and_eq_true, Bool.or_eq_true, decide_eq_true_eq, decide_eq_false_iff_not] at hsc); (repeat' (with_reducible apply And.intro)) <;> (first | assumption | trivial | exact (fun hq => by rw [hq]; rfl) | exact i64_of (by omega) (by omega) | omega | (simp; done) | (simp; omega) | (intro hse; simp [hse, hs0]; done) | (intro hse; simp only [hse, hs0, Bool.true_and, Bool.and_true, Bool.not_false, Bool.not_true, Bool.and_self]; done))))))
      refine end_round (s.length - (k + 1)) [.any, .any, .any, .row (.l 8), .any, .any, .any, .any, .any, .row (.l 8), .p (int (s.length : Nat)), .p (int ((k + 1) : Nat)), .any, .any, .any, .any, .any, .any, .any, .any, .any, .any, .any, .any, .any, .any, .any, .any] [(.l 8, .row (bU s.length g) 5 1 false)] (by omega) (by (simp only [ZZ, IsnK_some, Za, Zb, Zc, Zd, Ze, Zf, Zg, Zh, rd, AV.un, AV.unA, AV.ad, Zi, Zj, Zk, Zl, Zm, Zn, Zo, Zp, Zq, Zr, Zs, Zt, Zu, Zv, Zw, Zx, Zy, Zz, Zaa, Zab, Zac, Zad, Zae, Zaf, Zag, Zah, Zai, Zaj, Zak, Zal, Zam, Zan, wk1, wk, Zao, Zap, Zaq, Zar, Zas, Zat, Zau, Zav, AV.kill, AO.kill, AV.thaw, AO.thaw, Zaw, Zax, Zay, Zaz, Zba, Zbb, Zbc, Zbd, Zbe, ite_true, ite_false, reduceCtorEq, Nat.reduceAdd, Nat.reduceMul, Nat.reduceLeDiff, Nat.reduceLT, Nat.reduceEqDiff, forall_const]; try trivial)) (by (simp only [ZZ, IsnK_some, Za, Zb, Zc, Zd, Ze, Zf, Zg, Zh, rd, AV.un, AV.unA, AV.ad, Zi, Zj, Zk, Zl, Zm, Zn, Zo, Zp, Zq, Zr, Zs, Zt, Zu, Zv, Zw, Zx, Zy, Zz, Zaa, Zab, Zac, Zad, Zae, Zaf, Zag, Zah, Zai, Zaj, Zak, Zal, Zam, Zan, wk1, wk, Zao, Zap, Zaq, Zar, Zas, Zat, Zau, Zav, AV.kill, AO.kill, AV.thaw, AO.thaw, Zaw, Zax, Zay, Zaz, Zba, Zbb, Zbc, Zbd, Zbe, ite_true, ite_false, reduceCtorEq, Nat.reduceAdd, Nat.reduceMul, Nat.reduceLeDiff, Nat.reduceLT, Nat.reduceEqDiff, forall_const]; try trivial)) ⟨k + 1, g, by omega, rfl, by rw [← hnx, hsg], rfl, rfl⟩
  · intro h
    have hge : k = s.length := by have := of_decide_eq_false h; omega
    subst hge
    simp only [ZZ, IsnK_some, Za, Zb, Zc, Zd, Ze, Zf, Zg, Zh, rd, AV.un, AV.unA, AV.ad, Zi, Zj, Zk, Zl, Zm, Zn, Zo, Zp, Zq, Zr, Zs, Zt, Zu, Zv, Zw, Zx, Zy, Zz, Zaa, Zab, Zac, Zad, Zae, Zaf, Zag, Zah, Zai, Zaj, Zak, Zal, Zam, Zan, wk1, wk, Zao, Zap, Zaq, Zar, Zas, Zat, Zau, Zav, AV.kill, AO.kill, AV.thaw, AO.thaw, Zaw, Zax, Zay, Zaz, Zba, Zbb, Zbc, Zbd, Zbe, ite_true, ite_false, reduceCtorEq, Nat.reduceAdd, Nat.reduceMul, Nat.reduceLeDiff, Nat.reduceLT, Nat.reduceEqDiff, forall_const, bytes_bU]
    rw [hg, lowG_end]
end
end Go.Proofs.YtndjmidmfmcbkaaDoor
