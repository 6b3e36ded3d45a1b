
/- Own texts, put together: G2 G3 G4 G5 G6 I7 K2. -/
import Derived.Test.YtndjmidmfmcbkaaDoorM5
import Derived.Test.YtndjmidmfmcbkaaDoorLayTrimRight
/- The circle of a text: what the maker makes. -/
namespace Go.Proofs.YtndjmidmfmcbkaaDoor
set_option linter.unusedVariables false
set_option linter.unusedSimpArgs false
set_option linter.defProp false

section
variable {E : Envt}
abbrev Par := List UInt8 × Int × Int
def p0 : List Par := [([97, 105, 100, 64, 111, 117, 114, 115, 46, 100, 101], 1, 3), ([97, 110, 110, 64, 102, 105, 114, 109, 46, 100, 101], 1, 2), ([108, 97, 119, 64, 111, 117, 114, 115, 46, 100, 101], 1, 1)]
def d0 (y : Int) : List Par := [([102, 105, 114, 109, 46, 100, 101], 1, 4), ([120, 46, 102, 105, 114, 109, 46, 100, 101], y, 2), ([111, 117, 114, 115, 46, 100, 101], 1, 4)]
end
end Go.Proofs.YtndjmidmfmcbkaaDoor

/- The terms of a circle. -/
namespace Go.Proofs.YtndjmidmfmcbkaaDoor
set_option linter.unusedVariables false
set_option linter.unusedSimpArgs false
set_option linter.defProp false

section
variable {E : Envt}
end
end Go.Proofs.YtndjmidmfmcbkaaDoor

/- The body of a mail: what the maker makes. -/
namespace Go.Proofs.YtndjmidmfmcbkaaDoor
set_option linter.unusedVariables false
set_option linter.unusedSimpArgs false
set_option linter.defProp false

section
variable {E : Envt}
end
end Go.Proofs.YtndjmidmfmcbkaaDoor

/- The body of a mail, as it may be cut or made large. -/
namespace Go.Proofs.YtndjmidmfmcbkaaDoor
set_option linter.unusedVariables false
set_option linter.unusedSimpArgs false
set_option linter.defProp false

section
variable {E : Envt}
end
end Go.Proofs.YtndjmidmfmcbkaaDoor

/- Terms: their checks, on both sides. -/
namespace Go.Proofs.YtndjmidmfmcbkaaDoor
set_option linter.unusedVariables false
set_option linter.unusedSimpArgs false
set_option linter.defProp false

/- strings.Contains -/
def ir_strings_Contains : IC :=
  (.seq (.reg [⟨some 4, .mov (.c (.bool false)), none⟩])
    (.seq (.reg [⟨some 5, .mov (.t 0), none⟩,
      ⟨some 6, .mov (.t 1), none⟩,
      ⟨some 7, .call 98 [.t 5, .t 6], none⟩,
      ⟨some 8, .bin .geq (.t 7) (.c (.int .i64 0)), none⟩,
      ⟨some 4, .mov (.t 8), none⟩])
    .ret))
def rs_strings_Contains : List IRes := [.t 4]
theorem ck_strings_Contains : chkF Tryd.prog Tryd.f53 ir_strings_Contains rs_strings_Contains 9 = true := by kernel_rfl


section
theorem Contains_ok (s t : List UInt8) (hs : s.length ≤ 1000000000) : PCall Tryd.prog E0 53 [.str s, .str t] (· = .bool (decide (0 ≤ Lib.index s t))) := by
  refine pcallF mixed Tryd.func53 ck_strings_Contains ?_
  simp only [a0, l0, OS.ao, List.map_cons, List.map_nil, List.length_cons, List.length_nil, List.cons_append, List.nil_append, Nat.reduceSub, Nat.reduceAdd, List.replicate_succ, List.replicate_zero, ir_strings_Contains, rs_strings_Contains, ZZ, YY, Zd, ite_true, ite_false, forall_const, reduceCtorEq, Nat.reduceAdd, Nat.reduceMul, Nat.reduceLeDiff, Nat.reduceLT, Nat.reduceEqDiff]
  refine use1 (Index_ok s t hs) rfl (.inl rfl) ?_
  simp only [ZZ, YY, Zd, ite_true, ite_false, forall_const, reduceCtorEq, Nat.reduceAdd, Nat.reduceMul, Nat.reduceLeDiff, Nat.reduceLT, Nat.reduceEqDiff]
end
end Go.Proofs.YtndjmidmfmcbkaaDoor

/- Prefixes and suffixes that are cut; plain strings; names. -/
namespace Go.Proofs.YtndjmidmfmcbkaaDoor
open Go.RowKit
set_option linter.unusedVariables false
set_option linter.unusedSimpArgs false
set_option linter.defProp false

/- internal/stringslite.HasPrefix -/
def ir_internal_stringslite_HasPrefix : IC :=
  (.seq (.reg [⟨some 4, .mov (.c (.bool false)), none⟩])
    (.seq (.reg [⟨some 5, .mov (.t 0), none⟩,
      ⟨some 6, .sln (.t 5), none⟩,
      ⟨some 7, .mov (.t 1), none⟩,
      ⟨some 8, .sln (.t 7), none⟩,
      ⟨some 9, .bin .geq (.t 6) (.t 8), none⟩,
      ⟨some 10, .mov (.t 9), none⟩,
      ⟨some 11, .mov (.t 0), (some (10, true))⟩,
      ⟨some 12, .mov (.t 1), (some (10, true))⟩,
      ⟨some 13, .sln (.t 12), (some (10, true))⟩,
      ⟨some 14, .ssl (.t 11) none (some (.t 13)), (some (10, true))⟩,
      ⟨some 15, .mov (.t 1), (some (10, true))⟩,
      ⟨some 16, .bin .eql (.t 14) (.t 15), (some (10, true))⟩,
      ⟨some 17, .pick (.t 10) (.t 16) (.c (.bool false)), none⟩,
      ⟨some 4, .mov (.t 17), none⟩])
    .ret))
def rs_internal_stringslite_HasPrefix : List IRes := [.t 4]
theorem ck_internal_stringslite_HasPrefix : chkF Tryd.prog Tryd.f131 ir_internal_stringslite_HasPrefix rs_internal_stringslite_HasPrefix 18 = true := by kernel_rfl
/- internal/stringslite.CutSuffix -/
def ir_internal_stringslite_CutSuffix : IC :=
  (.seq (.reg [⟨some 4, .mov (.c (.str [])), none⟩,
      ⟨some 5, .mov (.c (.bool false)), none⟩])
    (.seq (.seq (.reg [⟨some 6, .mov (.t 0), none⟩,
      ⟨some 7, .mov (.t 1), none⟩,
      ⟨some 8, .call 128 [.t 6, .t 7], none⟩,
      ⟨some 9, .not (.t 8), none⟩])
    (.cond (.t 9) (.seq (.reg [⟨some 10, .mov (.t 0), none⟩,
      ⟨some 4, .mov (.t 10), none⟩,
      ⟨some 5, .mov (.c (.bool false)), none⟩])
    .ret) .skip))
    (.seq (.reg [⟨some 11, .mov (.t 0), none⟩,
      ⟨some 12, .mov (.t 0), none⟩,
      ⟨some 13, .sln (.t 12), none⟩,
      ⟨some 14, .mov (.t 1), none⟩,
      ⟨some 15, .sln (.t 14), none⟩,
      ⟨some 16, .bin .sub (.t 13) (.t 15), none⟩,
      ⟨some 17, .ssl (.t 11) none (some (.t 16)), none⟩,
      ⟨some 4, .mov (.t 17), none⟩,
      ⟨some 5, .mov (.c (.bool true)), none⟩])
    .ret)))
def rs_internal_stringslite_CutSuffix : List IRes := [.t 4, .t 5]
theorem ck_internal_stringslite_CutSuffix : chkF Tryd.prog Tryd.f184 ir_internal_stringslite_CutSuffix rs_internal_stringslite_CutSuffix 18 = true := by kernel_rfl
/- strings.CutSuffix -/
def ir_strings_CutSuffix : IC :=
  (.seq (.reg [⟨some 4, .mov (.c (.str [])), none⟩,
      ⟨some 5, .mov (.c (.bool false)), none⟩])
    (.seq (.reg [⟨some 6, .mov (.t 0), none⟩,
      ⟨some 7, .mov (.t 1), none⟩,
      ⟨some 8, .call 184 [.t 6, .t 7], none⟩,
      ⟨some 9, .ext 0 (.t 8), none⟩,
      ⟨some 10, .ext 1 (.t 8), none⟩,
      ⟨some 4, .mov (.t 9), none⟩,
      ⟨some 5, .mov (.t 10), none⟩])
    .ret))
def rs_strings_CutSuffix : List IRes := [.t 4, .t 5]
theorem ck_strings_CutSuffix : chkF Tryd.prog Tryd.f156 ir_strings_CutSuffix rs_strings_CutSuffix 11 = true := by kernel_rfl
/- internal/stringslite.CutPrefix -/
def ir_internal_stringslite_CutPrefix : IC :=
  (.seq (.reg [⟨some 4, .mov (.c (.str [])), none⟩,
      ⟨some 5, .mov (.c (.bool false)), none⟩])
    (.seq (.seq (.reg [⟨some 6, .mov (.t 0), none⟩,
      ⟨some 7, .mov (.t 1), none⟩,
      ⟨some 8, .call 131 [.t 6, .t 7], none⟩,
      ⟨some 9, .not (.t 8), none⟩])
    (.cond (.t 9) (.seq (.reg [⟨some 10, .mov (.t 0), none⟩,
      ⟨some 4, .mov (.t 10), none⟩,
      ⟨some 5, .mov (.c (.bool false)), none⟩])
    .ret) .skip))
    (.seq (.reg [⟨some 11, .mov (.t 0), none⟩,
      ⟨some 12, .mov (.t 1), none⟩,
      ⟨some 13, .sln (.t 12), none⟩,
      ⟨some 14, .ssl (.t 11) (some (.t 13)) none, none⟩,
      ⟨some 4, .mov (.t 14), none⟩,
      ⟨some 5, .mov (.c (.bool true)), none⟩])
    .ret)))
def rs_internal_stringslite_CutPrefix : List IRes := [.t 4, .t 5]
theorem ck_internal_stringslite_CutPrefix : chkF Tryd.prog Tryd.f147 ir_internal_stringslite_CutPrefix rs_internal_stringslite_CutPrefix 15 = true := by kernel_rfl
/- strings.CutPrefix -/
def ir_strings_CutPrefix : IC :=
  (.seq (.reg [⟨some 4, .mov (.c (.str [])), none⟩,
      ⟨some 5, .mov (.c (.bool false)), none⟩])
    (.seq (.reg [⟨some 6, .mov (.t 0), none⟩,
      ⟨some 7, .mov (.t 1), none⟩,
      ⟨some 8, .call 147 [.t 6, .t 7], none⟩,
      ⟨some 9, .ext 0 (.t 8), none⟩,
      ⟨some 10, .ext 1 (.t 8), none⟩,
      ⟨some 4, .mov (.t 9), none⟩,
      ⟨some 5, .mov (.t 10), none⟩])
    .ret))
def rs_strings_CutPrefix : List IRes := [.t 4, .t 5]
theorem ck_strings_CutPrefix : chkF Tryd.prog Tryd.f109 ir_strings_CutPrefix rs_strings_CutPrefix 11 = true := by kernel_rfl
/- internal/stringslite.TrimPrefix -/
def ir_internal_stringslite_TrimPrefix : IC :=
  (.seq (.reg [⟨some 4, .mov (.c (.str [])), none⟩])
    (.seq (.seq (.reg [⟨some 5, .mov (.t 0), none⟩,
      ⟨some 6, .mov (.t 1), none⟩,
      ⟨some 7, .call 131 [.t 5, .t 6], none⟩])
    (.cond (.t 7) (.seq (.reg [⟨some 8, .mov (.t 0), none⟩,
      ⟨some 9, .mov (.t 1), none⟩,
      ⟨some 10, .sln (.t 9), none⟩,
      ⟨some 11, .ssl (.t 8) (some (.t 10)) none, none⟩,
      ⟨some 4, .mov (.t 11), none⟩])
    .ret) .skip))
    (.seq (.reg [⟨some 12, .mov (.t 0), none⟩,
      ⟨some 4, .mov (.t 12), none⟩])
    .ret)))
def rs_internal_stringslite_TrimPrefix : List IRes := [.t 4]
theorem ck_internal_stringslite_TrimPrefix : chkF Tryd.prog Tryd.f151 ir_internal_stringslite_TrimPrefix rs_internal_stringslite_TrimPrefix 13 = true := by kernel_rfl
/- strings.TrimPrefix -/
def ir_strings_TrimPrefix : IC :=
  (.seq (.reg [⟨some 4, .mov (.c (.str [])), none⟩])
    (.seq (.reg [⟨some 5, .mov (.t 0), none⟩,
      ⟨some 6, .mov (.t 1), none⟩,
      ⟨some 7, .call 151 [.t 5, .t 6], none⟩,
      ⟨some 4, .mov (.t 7), none⟩])
    .ret))
def rs_strings_TrimPrefix : List IRes := [.t 4]
theorem ck_strings_TrimPrefix : chkF Tryd.prog Tryd.f113 ir_strings_TrimPrefix rs_strings_TrimPrefix 8 = true := by kernel_rfl
/- paperchase/base.Plain -/
def ir_base_Plain : IC :=
  (.seq (.reg [⟨some 2, .mov (.c (.bool false)), none⟩])
    (.seq (.reg [⟨some 3, .mov (.t 0), none⟩,
      ⟨some 4, .call 160 [.t 3, .c (.bool false)], none⟩,
      ⟨some 5, .mov (.t 4), none⟩,
      ⟨some 6, .mov (.t 0), (some (5, true))⟩,
      ⟨some 7, .call 88 [.t 6, .c (.str [32])], (some (5, true))⟩,
      ⟨some 8, .not (.t 7), (some (5, true))⟩,
      ⟨some 9, .pick (.t 5) (.t 8) (.c (.bool false)), none⟩,
      ⟨some 10, .mov (.t 9), none⟩,
      ⟨some 11, .mov (.t 0), (some (10, true))⟩,
      ⟨some 12, .call 168 [.t 11, .c (.str [32])], (some (10, true))⟩,
      ⟨some 13, .not (.t 12), (some (10, true))⟩,
      ⟨some 14, .pick (.t 10) (.t 13) (.c (.bool false)), none⟩,
      ⟨some 15, .mov (.t 14), none⟩,
      ⟨some 16, .mov (.t 0), (some (15, true))⟩,
      ⟨some 17, .call 53 [.t 16, .c (.str [32, 32])], (some (15, true))⟩,
      ⟨some 18, .not (.t 17), (some (15, true))⟩,
      ⟨some 19, .pick (.t 15) (.t 18) (.c (.bool false)), none⟩,
      ⟨some 2, .mov (.t 19), none⟩])
    .ret))
def rs_base_Plain : List IRes := [.t 2]
theorem ck_base_Plain : chkF Tryd.prog Tryd.f201 ir_base_Plain rs_base_Plain 20 = true := by kernel_rfl
/- strings.ContainsAny -/
def ir_strings_ContainsAny : IC :=
  (.seq (.reg [⟨some 4, .mov (.c (.bool false)), none⟩])
    (.seq (.reg [⟨some 5, .mov (.t 0), none⟩,
      ⟨some 6, .mov (.t 1), none⟩,
      ⟨some 7, .call 111 [.t 5, .t 6], none⟩,
      ⟨some 8, .bin .geq (.t 7) (.c (.int .i64 0)), none⟩,
      ⟨some 4, .mov (.t 8), none⟩])
    .ret))
def rs_strings_ContainsAny : List IRes := [.t 4]
theorem ck_strings_ContainsAny : chkF Tryd.prog Tryd.f202 ir_strings_ContainsAny rs_strings_ContainsAny 9 = true := by kernel_rfl
/- paperchase/thread.isName -/
def ir_thread_isName : IC :=
  (.seq (.reg [⟨some 2, .mov (.c (.bool false)), none⟩])
    (.seq (.reg [⟨some 3, .mov (.t 0), none⟩,
      ⟨some 4, .sln (.t 3), none⟩,
      ⟨some 5, .bin .leq (.t 4) (.c (.int .i64 60)), none⟩,
      ⟨some 6, .mov (.t 5), none⟩,
      ⟨some 7, .mov (.t 0), (some (6, true))⟩,
      ⟨some 8, .call 201 [.t 7], (some (6, true))⟩,
      ⟨some 9, .pick (.t 6) (.t 8) (.c (.bool false)), none⟩,
      ⟨some 10, .mov (.t 9), none⟩,
      ⟨some 11, .mov (.t 0), (some (10, true))⟩,
      ⟨some 12, .call 202 [.t 11, .c (.str [34, 60, 62, 44, 59])], (some (10, true))⟩,
      ⟨some 13, .not (.t 12), (some (10, true))⟩,
      ⟨some 14, .pick (.t 10) (.t 13) (.c (.bool false)), none⟩,
      ⟨some 2, .mov (.t 14), none⟩])
    .ret))
def rs_thread_isName : List IRes := [.t 2]
theorem ck_thread_isName : chkF Tryd.prog Tryd.f182 ir_thread_isName rs_thread_isName 15 = true := by kernel_rfl
/- paperchase/thread.right -/
def ir_thread_right : IC :=
  (.seq (.reg [⟨some 1, .box 99 (.t 0), none⟩,
      ⟨some 2, .mov (.c (.bool false)), none⟩])
    (.seq (.reg [⟨some 3, .fla 0 (.t 1), none⟩,
      ⟨some 4, .ld 1 false (.t 3), none⟩,
      ⟨some 5, .call 182 [.t 4], none⟩,
      ⟨some 6, .mov (.t 5), none⟩,
      ⟨some 7, .fla 1 (.t 1), (some (6, true))⟩,
      ⟨some 8, .ld 1 false (.t 7), (some (6, true))⟩,
      ⟨some 9, .call 183 [.t 8], (some (6, true))⟩,
      ⟨some 10, .pick (.t 6) (.t 9) (.c (.bool false)), none⟩,
      ⟨some 2, .mov (.t 10), none⟩])
    .ret))
def rs_thread_right : List IRes := [.t 2]
theorem ck_thread_right : chkF Tryd.prog Tryd.f155 ir_thread_right rs_thread_right 11 = true := by kernel_rfl
/- paperchase/thread.address -/
def ir_thread_address : IC :=
  (.seq (.reg [⟨some 2, .alc 99 [.str [], .str []], none⟩,
      ⟨some 3, .mov (.c (.bool false)), none⟩])
    (.seq (.reg [⟨some 19, .mov (.t 0), none⟩,
      ⟨some 20, .call 152 [.t 19, .c (.str [32])], none⟩,
      ⟨some 4, .mov (.t 20), none⟩])
    (.seq (.reg [⟨some 22, .mov (.t 4), none⟩,
      ⟨some 23, .call 112 [.t 22, .c (.str [60])], none⟩,
      ⟨some 21, .mov (.t 23), none⟩,
      ⟨some 24, .ext 0 (.t 21), none⟩,
      ⟨some 25, .ext 1 (.t 21), none⟩,
      ⟨some 26, .ext 2 (.t 21), none⟩,
      ⟨some 5, .mov (.t 24), none⟩,
      ⟨some 6, .mov (.t 25), none⟩,
      ⟨some 7, .mov (.t 26), none⟩])
    (.seq (.seq (.reg [⟨some 27, .mov (.t 7), none⟩,
      ⟨some 28, .not (.t 27), none⟩])
    (.cond (.t 28) (.seq (.reg [⟨some 29, .mov (.t 4), none⟩,
      ⟨some 30, .call 67 [.t 29], none⟩,
      ⟨some 31, .bld [.str [], .str []] [(1, 1, .t 30)], none⟩,
      ⟨some 8, .alc 99 [.str [], .str []], none⟩,
      ⟨none, .st 2 (.t 8) (.t 31), none⟩])
    (.seq (.drg [⟨some 32, .ld 2 true (.t 8), none⟩,
      ⟨some 33, .ld 2 true (.t 8), none⟩,
      ⟨some 34, .pcall 0 155 [.t 33], none⟩,
      ⟨none, .st 2 (.t 2) (.t 32), none⟩,
      ⟨some 3, .mov (.t 34), none⟩])
    .ret)) .skip))
    (.seq (.reg [⟨some 36, .mov (.t 6), none⟩,
      ⟨some 37, .call 156 [.t 36, .c (.str [62])], none⟩,
      ⟨some 35, .mov (.t 37), none⟩,
      ⟨some 38, .ext 0 (.t 35), none⟩,
      ⟨some 39, .ext 1 (.t 35), none⟩,
      ⟨some 6, .mov (.t 38), none⟩,
      ⟨some 9, .mov (.t 39), none⟩])
    (.seq (.reg [⟨some 40, .mov (.t 6), none⟩,
      ⟨some 41, .call 67 [.t 40], none⟩,
      ⟨some 42, .bld [.str [], .str []] [(1, 1, .t 41)], none⟩,
      ⟨some 10, .alc 99 [.str [], .str []], none⟩,
      ⟨none, .st 2 (.t 10) (.t 42), none⟩])
    (.seq (.seq (.reg [⟨some 43, .mov (.t 5), none⟩,
      ⟨some 44, .bin .eql (.t 43) (.c (.str [])), none⟩])
    (.cond (.t 44) (.seq (.drg [⟨some 45, .ld 2 true (.t 10), none⟩,
      ⟨some 46, .mov (.t 9), none⟩,
      ⟨some 47, .mov (.t 46), none⟩,
      ⟨some 48, .ld 2 true (.t 10), (some (47, true))⟩,
      ⟨some 49, .pcall 0 155 [.t 48], (some (47, true))⟩,
      ⟨some 50, .pick (.t 47) (.t 49) (.c (.bool false)), none⟩,
      ⟨none, .st 2 (.t 2) (.t 45), none⟩,
      ⟨some 3, .mov (.t 50), none⟩])
    .ret) .skip))
    (.seq (.reg [⟨some 51, .mov (.t 5), none⟩,
      ⟨some 52, .call 157 [.t 51, .c (.str [32])], none⟩,
      ⟨some 11, .mov (.t 52), none⟩])
    (.seq (.seq (.reg [⟨some 53, .mov (.t 11), none⟩,
      ⟨some 54, .mov (.t 5), none⟩,
      ⟨some 55, .bin .eql (.t 53) (.t 54), none⟩])
    (.cond (.t 55) (.seq (.reg [⟨some 56, .ld 2 true (.t 10), none⟩,
      ⟨none, .st 2 (.t 2) (.t 56), none⟩,
      ⟨some 3, .mov (.c (.bool false)), none⟩])
    .ret) .skip))
    (.seq (.seq (.reg [⟨some 58, .mov (.t 11), none⟩,
      ⟨some 59, .call 109 [.t 58, .c (.str [34])], none⟩,
      ⟨some 57, .mov (.t 59), none⟩,
      ⟨some 60, .ext 0 (.t 57), none⟩,
      ⟨some 61, .ext 1 (.t 57), none⟩,
      ⟨some 12, .mov (.t 60), none⟩,
      ⟨some 13, .mov (.t 61), none⟩])
    (.seq (.reg [⟨some 62, .mov (.t 13), none⟩])
    (.cond (.t 62) (.seq (.reg [⟨some 64, .mov (.t 12), none⟩,
      ⟨some 65, .call 156 [.t 64, .c (.str [34])], none⟩,
      ⟨some 63, .mov (.t 65), none⟩,
      ⟨some 66, .ext 0 (.t 63), none⟩,
      ⟨some 67, .ext 1 (.t 63), none⟩,
      ⟨some 14, .mov (.t 66), none⟩,
      ⟨some 15, .mov (.t 67), none⟩])
    (.seq (.seq (.reg [⟨some 68, .mov (.t 15), none⟩,
      ⟨some 69, .not (.t 68), none⟩])
    (.cond (.t 69) (.seq (.reg [⟨some 70, .ld 2 true (.t 10), none⟩,
      ⟨none, .st 2 (.t 2) (.t 70), none⟩,
      ⟨some 3, .mov (.c (.bool false)), none⟩])
    .ret) .skip))
    (.seq (.reg [⟨some 71, .mov (.t 14), none⟩,
      ⟨some 11, .mov (.t 71), none⟩])
    (.seq (.reg [⟨some 73, .mov (.t 14), none⟩,
      ⟨some 74, .call 112 [.t 73, .c (.str [44, 32])], none⟩,
      ⟨some 72, .mov (.t 74), none⟩,
      ⟨some 75, .ext 0 (.t 72), none⟩,
      ⟨some 76, .ext 1 (.t 72), none⟩,
      ⟨some 77, .ext 2 (.t 72), none⟩,
      ⟨some 16, .mov (.t 75), none⟩,
      ⟨some 17, .mov (.t 76), none⟩,
      ⟨some 18, .mov (.t 77), none⟩])
    (.seq (.reg [⟨some 78, .mov (.t 18), none⟩,
      ⟨some 79, .mov (.t 78), none⟩,
      ⟨some 80, .mov (.t 16), (some (79, true))⟩,
      ⟨some 81, .bin .neq (.t 80) (.c (.str [])), (some (79, true))⟩,
      ⟨some 82, .pick (.t 79) (.t 81) (.c (.bool false)), none⟩,
      ⟨some 83, .mov (.t 82), none⟩,
      ⟨some 84, .mov (.t 17), (some (83, true))⟩,
      ⟨some 85, .bin .neq (.t 84) (.c (.str [])), (some (83, true))⟩,
      ⟨some 86, .pick (.t 83) (.t 85) (.c (.bool false)), none⟩])
    (.cond (.t 86) (.reg [⟨some 87, .mov (.t 17), none⟩,
      ⟨some 88, .bin .add (.t 87) (.c (.str [32])), none⟩,
      ⟨some 89, .mov (.t 16), none⟩,
      ⟨some 90, .bin .add (.t 88) (.t 89), none⟩,
      ⟨some 11, .mov (.t 90), none⟩]) .skip)))))) .skip)))
    (.cut (.seq (.reg [⟨some 91, .mov (.t 11), none⟩,
      ⟨some 92, .fla 0 (.t 10), none⟩,
      ⟨none, .st 1 (.t 92) (.t 91), none⟩])
    (.seq (.drg [⟨some 93, .ld 2 true (.t 10), none⟩,
      ⟨some 94, .mov (.t 9), none⟩,
      ⟨some 95, .mov (.t 94), none⟩,
      ⟨some 96, .mov (.t 11), (some (95, true))⟩,
      ⟨some 97, .bin .neq (.t 96) (.c (.str [])), (some (95, true))⟩,
      ⟨some 98, .pick (.t 95) (.t 97) (.c (.bool false)), none⟩,
      ⟨some 99, .mov (.t 98), none⟩,
      ⟨some 100, .ld 2 true (.t 10), (some (99, true))⟩,
      ⟨some 101, .pcall 0 155 [.t 100], (some (99, true))⟩,
      ⟨some 102, .pick (.t 99) (.t 101) (.c (.bool false)), none⟩,
      ⟨none, .st 2 (.t 2) (.t 93), none⟩,
      ⟨some 3, .mov (.t 102), none⟩])
    .ret)))))))))))))
def rs_thread_address : List IRes := [.c 2 2 true, .t 3]
theorem ck_thread_address : chkF Tryd.prog Tryd.f118 ir_thread_address rs_thread_address 103 = true := by kernel_rfl
/- paperchase/thread.Address -/
def ir_thread_Address : IC :=
  (.seq (.reg [⟨some 2, .alc 99 [.str [], .str []], none⟩,
      ⟨some 3, .mov (.c (.int .i64 0)), none⟩])
    (.seq (.seq (.reg [⟨some 6, .mov (.t 0), none⟩,
      ⟨some 7, .sln (.t 6), none⟩,
      ⟨some 8, .bin .gtr (.t 7) (.c (.int .i64 500)), none⟩])
    (.cond (.t 8) (.seq (.reg [⟨some 9, .bld [.str [], .str []] [], none⟩,
      ⟨none, .st 2 (.t 2) (.t 9), none⟩,
      ⟨some 3, .mov (.c (.int .i64 2)), none⟩])
    .ret) .skip))
    (.seq (.reg [⟨some 11, .mov (.t 0), none⟩,
      ⟨some 12, .call 118 [.t 11], none⟩,
      ⟨some 10, .mov (.t 12), none⟩,
      ⟨some 13, .ext 0 (.t 10), none⟩,
      ⟨some 14, .ext 1 (.t 10), none⟩,
      ⟨some 4, .alc 99 [.str [], .str []], none⟩,
      ⟨none, .st 2 (.t 4) (.t 13), none⟩,
      ⟨some 5, .mov (.t 14), none⟩])
    (.seq (.seq (.reg [⟨some 15, .mov (.t 5), none⟩,
      ⟨some 16, .not (.t 15), none⟩])
    (.cond (.t 16) (.seq (.reg [⟨some 17, .bld [.str [], .str []] [], none⟩,
      ⟨none, .st 2 (.t 2) (.t 17), none⟩,
      ⟨some 3, .mov (.c (.int .i64 9)), none⟩])
    .ret) .skip))
    (.seq (.reg [⟨some 18, .ld 2 true (.t 4), none⟩,
      ⟨none, .st 2 (.t 2) (.t 18), none⟩,
      ⟨some 3, .mov (.c (.int .i64 0)), none⟩])
    .ret)))))
def rs_thread_Address : List IRes := [.c 2 2 true, .t 3]
theorem ck_thread_Address : chkF Tryd.prog Tryd.f72 ir_thread_Address rs_thread_Address 19 = true := by kernel_rfl
/- paperchase/chaselaw1.threads -/
def ir_chaselaw1_threads : IC :=
  (.seq (.reg [⟨some 0, .mov (.c (.bool false)), none⟩])
    (.seq (.reg [⟨some 4, .call 72 [.c (.str [65, 110, 110, 32, 60, 97, 64, 98, 46, 100, 101, 62])], none⟩,
      ⟨some 3, .mov (.t 4), none⟩,
      ⟨some 5, .ext 0 (.t 3), none⟩,
      ⟨some 6, .ext 1 (.t 3), none⟩,
      ⟨some 1, .alc 99 [.str [], .str []], none⟩,
      ⟨none, .st 2 (.t 1) (.t 5), none⟩,
      ⟨some 2, .mov (.t 6), none⟩])
    (.seq (.reg [⟨some 7, .mov (.t 2), none⟩,
      ⟨some 8, .bin .eql (.t 7) (.c (.int .i64 0)), none⟩,
      ⟨some 9, .mov (.t 8), none⟩,
      ⟨some 10, .ld 2 true (.t 1), (some (9, true))⟩,
      ⟨some 11, .bld [.str [], .str []] [(0, 1, .c (.str [65, 110, 110])), (1, 1, .c (.str [97, 64, 98, 46, 100, 101]))], (some (9, true))⟩,
      ⟨some 12, .eqa false [.s, .s] (.t 10) (.t 11), (some (9, true))⟩,
      ⟨some 13, .pick (.t 9) (.t 12) (.c (.bool false)), none⟩,
      ⟨some 0, .mov (.t 13), none⟩])
    .ret)))
def rs_chaselaw1_threads : List IRes := [.t 0]
theorem ck_chaselaw1_threads : chkF Tryd.prog Tryd.f30 ir_chaselaw1_threads rs_chaselaw1_threads 14 = true := by kernel_rfl


section
variable {E : Envt}
theorem TrimRightSet_ok (s cs : List UInt8) (hs : s.length ≤ 1000000000) (hcs : cs.length ≤ 1000000) (h2 : asc cs = true) : PCall Tryd.prog E 157 [.str s, .str cs] (· = .str (Lib.trimRightS s cs)) :=
  pcall_flat rfl rfl fun w _ => (Any.strings_TrimRight_laid Tryd.layTrimRight (by kernel_rfl) ⟨s.toArray⟩ ⟨cs.toArray⟩ w (by rw [ba_size]; omega) (by rw [ba_size]; omega) (asc_at h2)).mono fun e w' h => ⟨h.1, grow_below h.2⟩
def cutSufF (s p : List UInt8) : List UInt8 × Bool := if sufE s p = true then (s.take (s.length - p.length), true) else (s, false)
def cutPreF (s p : List UInt8) : List UInt8 × Bool := if Lib.hasPrefix s p = true then (s.drop p.length, true) else (s, false)
theorem CutSuffixL_ok (s p : List UInt8) (hs : s.length ≤ 1000000000) (hp : p.length ≤ 1000000000) : PCall Tryd.prog E 184 [.str s, .str p] (· = .tup [.str (cutSufF s p).1, .bool (cutSufF s p).2]) := by
  refine pcallF mixed Tryd.func184 ck_internal_stringslite_CutSuffix ?_
  simp only [a0, l0, OS.ao, List.map_cons, List.map_nil, List.length_cons, List.length_nil, List.cons_append, List.nil_append, Nat.reduceSub, Nat.reduceAdd, List.replicate_succ, List.replicate_zero, ir_internal_stringslite_CutSuffix, rs_internal_stringslite_CutSuffix, ZZ, YY, Zd, ite_true, ite_false, forall_const, reduceCtorEq, Nat.reduceAdd, Nat.reduceMul, Nat.reduceLeDiff, Nat.reduceLT, Nat.reduceEqDiff]
  refine use1 (sHasSuffix_ok s p (by omega)) rfl (.inl rfl) ?_
  simp only [ZZ, YY, Zd, ite_true, ite_false, forall_const, reduceCtorEq, Nat.reduceAdd, Nat.reduceMul, Nat.reduceLeDiff, Nat.reduceLT, Nat.reduceEqDiff]
  unfold cutSufF
  refine br ?_ ?_
  · intro h
    have h : sufE s p = false := by rwa [Bool.not_eq_true'] at h
    simp only [ZZ, YY, Zd, ite_true, ite_false, forall_const, reduceCtorEq, Nat.reduceAdd, Nat.reduceMul, Nat.reduceLeDiff, Nat.reduceLT, Nat.reduceEqDiff]
    rw [if_neg (by simp [h])]
  · intro h
    have h : sufE s p = true := by rwa [Bool.not_eq_false'] at h
    have hb : p.length ≤ s.length := by
      have := of_decide_eq_true (Bool.and_eq_true_iff.1 h).1
      omega
    have e : ((s.length : Int) - p.length).toNat = s.length - p.length := by omega
    simp only [ZZ, YY, Zd, ite_true, ite_false, forall_const, reduceCtorEq, Nat.reduceAdd, Nat.reduceMul, Nat.reduceLeDiff, Nat.reduceLT, Nat.reduceEqDiff, e]
    refine ⟨i64_of (by omega) (by omega), ⟨by omega, by omega⟩, ?_⟩
    rw [if_pos h]
theorem CutSuffix_ok (s p : List UInt8) (hs : s.length ≤ 1000000000) (hp : p.length ≤ 1000000000) : PCall Tryd.prog E 156 [.str s, .str p] (· = .tup [.str (cutSufF s p).1, .bool (cutSufF s p).2]) := by
  refine pcallF mixed Tryd.func156 ck_strings_CutSuffix ?_
  simp only [a0, l0, OS.ao, List.map_cons, List.map_nil, List.length_cons, List.length_nil, List.cons_append, List.nil_append, Nat.reduceSub, Nat.reduceAdd, List.replicate_succ, List.replicate_zero, ir_strings_CutSuffix, rs_strings_CutSuffix, ZZ, YY, Zd, ite_true, ite_false, forall_const, reduceCtorEq, Nat.reduceAdd, Nat.reduceMul, Nat.reduceLeDiff, Nat.reduceLT, Nat.reduceEqDiff]
  refine use1 (CutSuffixL_ok s p hs hp) rfl (.inl rfl) ?_
  simp only [ZZ, YY, Zd, ite_true, ite_false, forall_const, reduceCtorEq, Nat.reduceAdd, Nat.reduceMul, Nat.reduceLeDiff, Nat.reduceLT, Nat.reduceEqDiff]
theorem hasPrefix_len {s p : List UInt8} (h : Lib.hasPrefix s p = true) : p.length ≤ s.length := by
  unfold Lib.hasPrefix at h
  simp at h
  first | exact (List.IsPrefix.length_le (List.isPrefixOf_iff_prefix.1 h)) | exact h.length_le | omega
theorem preE_eq (s p : List UInt8) : (decide ((p.length : Int) ≤ s.length) && decide (s.take p.length = p)) = Lib.hasPrefix s p := by
  rw [Bool.eq_iff_iff]
  unfold Lib.hasPrefix
  rw [List.isPrefixOf_iff_prefix, List.prefix_iff_eq_take]
  simp only [Bool.and_eq_true, decide_eq_true_eq]
  constructor
  · rintro ⟨_, h⟩; exact h.symm
  · intro h
    have := congrArg List.length h
    simp at this
    exact ⟨by omega, h.symm⟩
theorem sHasPrefix_ok (s p : List UInt8) (hs : s.length ≤ 1000000000) : PCall Tryd.prog E 131 [.str s, .str p] (· = .bool (Lib.hasPrefix s p)) := by
  rw [← preE_eq]
  refine pcallF mixed Tryd.func131 ck_internal_stringslite_HasPrefix ?_
  simp only [a0, l0, OS.ao, List.map_cons, List.map_nil, List.length_cons, List.length_nil, List.cons_append, List.nil_append, Nat.reduceSub, Nat.reduceAdd, List.replicate_succ, List.replicate_zero, ir_internal_stringslite_HasPrefix, rs_internal_stringslite_HasPrefix, ZZ, YY, Zd, ite_true, ite_false, forall_const, reduceCtorEq, Nat.reduceAdd, Nat.reduceMul, Nat.reduceLeDiff, Nat.reduceLT, Nat.reduceEqDiff]
  ((repeat' (with_reducible apply And.intro)) <;> try ((first | first | assumption | trivial | exact (fun hq => by rw [hq]; rfl) | exact i64_of (by omega) (by omega) | omega | (simp; done) | (simp; omega) | (intro hsc; have hs0 := hsc; (try have hsd := of_decide_eq_true hsc); (try simp only [Bool.not_eq_true', Bool.or_eq_false_iff, Bool.and_eq_true, Bool.or_eq_true, decide_eq_true_eq, decide_eq_false_iff_not] at hsc); (repeat' (with_reducible apply And.intro)) <;> (first | assumption | trivial | exact (fun hq => by rw [hq]; rfl) | exact i64_of (by omega) (by omega) | omega | (simp; done) | (simp; omega) | (intro hse; simp [hse, hs0]; done) | (intro hse; simp only [hse, hs0, Bool.true_and, Bool.and_true, Bool.not_false, Bool.not_true, Bool.and_self]; done))))))
theorem CutPrefixL_ok (s p : List UInt8) (hs : s.length ≤ 1000000000) (hp : p.length ≤ 1000000000) : PCall Tryd.prog E 147 [.str s, .str p] (· = .tup [.str (cutPreF s p).1, .bool (cutPreF s p).2]) := by
  refine pcallF mixed Tryd.func147 ck_internal_stringslite_CutPrefix ?_
  simp only [a0, l0, OS.ao, List.map_cons, List.map_nil, List.length_cons, List.length_nil, List.cons_append, List.nil_append, Nat.reduceSub, Nat.reduceAdd, List.replicate_succ, List.replicate_zero, ir_internal_stringslite_CutPrefix, rs_internal_stringslite_CutPrefix, ZZ, YY, Zd, ite_true, ite_false, forall_const, reduceCtorEq, Nat.reduceAdd, Nat.reduceMul, Nat.reduceLeDiff, Nat.reduceLT, Nat.reduceEqDiff]
  refine use1 (sHasPrefix_ok s p hs) rfl (.inl rfl) ?_
  simp only [ZZ, YY, Zd, ite_true, ite_false, forall_const, reduceCtorEq, Nat.reduceAdd, Nat.reduceMul, Nat.reduceLeDiff, Nat.reduceLT, Nat.reduceEqDiff]
  unfold cutPreF
  refine br ?_ ?_
  · intro h
    have h : Lib.hasPrefix s p = false := by rwa [Bool.not_eq_true'] at h
    simp only [ZZ, YY, Zd, ite_true, ite_false, forall_const, reduceCtorEq, Nat.reduceAdd, Nat.reduceMul, Nat.reduceLeDiff, Nat.reduceLT, Nat.reduceEqDiff]
    rw [if_neg (by simp [h])]
  · intro h
    have h : Lib.hasPrefix s p = true := by rwa [Bool.not_eq_false'] at h
    have hb := hasPrefix_len h
    simp only [ZZ, YY, Zd, ite_true, ite_false, forall_const, reduceCtorEq, Nat.reduceAdd, Nat.reduceMul, Nat.reduceLeDiff, Nat.reduceLT, Nat.reduceEqDiff]
    refine ⟨⟨by omega, by omega⟩, ?_⟩
    rw [if_pos h]
    try simp
theorem CutPrefix_ok (s p : List UInt8) (hs : s.length ≤ 1000000000) (hp : p.length ≤ 1000000000) : PCall Tryd.prog E 109 [.str s, .str p] (· = .tup [.str (cutPreF s p).1, .bool (cutPreF s p).2]) := by
  refine pcallF mixed Tryd.func109 ck_strings_CutPrefix ?_
  simp only [a0, l0, OS.ao, List.map_cons, List.map_nil, List.length_cons, List.length_nil, List.cons_append, List.nil_append, Nat.reduceSub, Nat.reduceAdd, List.replicate_succ, List.replicate_zero, ir_strings_CutPrefix, rs_strings_CutPrefix, ZZ, YY, Zd, ite_true, ite_false, forall_const, reduceCtorEq, Nat.reduceAdd, Nat.reduceMul, Nat.reduceLeDiff, Nat.reduceLT, Nat.reduceEqDiff]
  refine use1 (CutPrefixL_ok s p hs hp) rfl (.inl rfl) ?_
  simp only [ZZ, YY, Zd, ite_true, ite_false, forall_const, reduceCtorEq, Nat.reduceAdd, Nat.reduceMul, Nat.reduceLeDiff, Nat.reduceLT, Nat.reduceEqDiff]
theorem TrimPrefixL_ok (s p : List UInt8) (hs : s.length ≤ 1000000000) (hp : p.length ≤ 1000000000) : PCall Tryd.prog E 151 [.str s, .str p] (· = .str (cutPreF s p).1) := by
  refine pcallF mixed Tryd.func151 ck_internal_stringslite_TrimPrefix ?_
  simp only [a0, l0, OS.ao, List.map_cons, List.map_nil, List.length_cons, List.length_nil, List.cons_append, List.nil_append, Nat.reduceSub, Nat.reduceAdd, List.replicate_succ, List.replicate_zero, ir_internal_stringslite_TrimPrefix, rs_internal_stringslite_TrimPrefix, ZZ, YY, Zd, ite_true, ite_false, forall_const, reduceCtorEq, Nat.reduceAdd, Nat.reduceMul, Nat.reduceLeDiff, Nat.reduceLT, Nat.reduceEqDiff]
  refine use1 (sHasPrefix_ok s p hs) rfl (.inl rfl) ?_
  simp only [ZZ, YY, Zd, ite_true, ite_false, forall_const, reduceCtorEq, Nat.reduceAdd, Nat.reduceMul, Nat.reduceLeDiff, Nat.reduceLT, Nat.reduceEqDiff]
  unfold cutPreF
  refine br ?_ ?_
  · intro h
    have hb := hasPrefix_len h
    simp only [ZZ, YY, Zd, ite_true, ite_false, forall_const, reduceCtorEq, Nat.reduceAdd, Nat.reduceMul, Nat.reduceLeDiff, Nat.reduceLT, Nat.reduceEqDiff]
    refine ⟨⟨by omega, by omega⟩, ?_⟩
    rw [if_pos h]
    try simp
  · intro h
    simp only [ZZ, YY, Zd, ite_true, ite_false, forall_const, reduceCtorEq, Nat.reduceAdd, Nat.reduceMul, Nat.reduceLeDiff, Nat.reduceLT, Nat.reduceEqDiff]
    rw [if_neg (by simp [h])]
theorem TrimPrefix_ok (s p : List UInt8) (hs : s.length ≤ 1000000000) (hp : p.length ≤ 1000000000) : PCall Tryd.prog E 113 [.str s, .str p] (· = .str (cutPreF s p).1) := by
  refine pcallF mixed Tryd.func113 ck_strings_TrimPrefix ?_
  simp only [a0, l0, OS.ao, List.map_cons, List.map_nil, List.length_cons, List.length_nil, List.cons_append, List.nil_append, Nat.reduceSub, Nat.reduceAdd, List.replicate_succ, List.replicate_zero, ir_strings_TrimPrefix, rs_strings_TrimPrefix, ZZ, YY, Zd, ite_true, ite_false, forall_const, reduceCtorEq, Nat.reduceAdd, Nat.reduceMul, Nat.reduceLeDiff, Nat.reduceLT, Nat.reduceEqDiff]
  refine use1 (TrimPrefixL_ok s p hs hp) rfl (.inl rfl) ?_
  simp only [ZZ, YY, Zd, ite_true, ite_false, forall_const, reduceCtorEq, Nat.reduceAdd, Nat.reduceMul, Nat.reduceLeDiff, Nat.reduceLT, Nat.reduceEqDiff]
theorem ContainsAny_ok (s cs : List UInt8) (hs : s.length ≤ 1000000000) (hcs : cs.length ≤ 1000000) (h2 : asc cs = true) : PCall Tryd.prog E 202 [.str s, .str cs] (· = .bool (decide (0 ≤ Lib.indexAny s cs))) := by
  refine pcallF mixed Tryd.func202 ck_strings_ContainsAny ?_
  simp only [a0, l0, OS.ao, List.map_cons, List.map_nil, List.length_cons, List.length_nil, List.cons_append, List.nil_append, Nat.reduceSub, Nat.reduceAdd, List.replicate_succ, List.replicate_zero, ir_strings_ContainsAny, rs_strings_ContainsAny, ZZ, YY, Zd, ite_true, ite_false, forall_const, reduceCtorEq, Nat.reduceAdd, Nat.reduceMul, Nat.reduceLeDiff, Nat.reduceLT, Nat.reduceEqDiff]
  refine use1 (IndexAny_ok s cs hs hcs h2) rfl (.inl rfl) ?_
  simp only [ZZ, YY, Zd, ite_true, ite_false, forall_const, reduceCtorEq, Nat.reduceAdd, Nat.reduceMul, Nat.reduceLeDiff, Nat.reduceLT, Nat.reduceEqDiff]
end
def plainB (s : List UInt8) : Bool := ((visE s false && !Lib.hasPrefix s [32]) && !sufE s [32]) && !decide (0 ≤ Lib.index s [32, 32])
theorem Plain_ok (s : List UInt8) (hs : s.length ≤ 1000000000) : PCall Tryd.prog E0 201 [.str s] (· = .bool (plainB s)) := by
  refine pcallF mixed Tryd.func201 ck_base_Plain ?_
  simp only [a0, l0, OS.ao, List.map_cons, List.map_nil, List.length_cons, List.length_nil, List.cons_append, List.nil_append, Nat.reduceSub, Nat.reduceAdd, List.replicate_succ, List.replicate_zero, ir_base_Plain, rs_base_Plain, ZZ, YY, Zd, ite_true, ite_false, forall_const, reduceCtorEq, Nat.reduceAdd, Nat.reduceMul, Nat.reduceLeDiff, Nat.reduceLT, Nat.reduceEqDiff]
  refine use1 (Visible_ok s false hs) rfl (.inl rfl) ?_
  simp only [ZZ, YY, Zd, ite_true, ite_false, forall_const, reduceCtorEq, Nat.reduceAdd, Nat.reduceMul, Nat.reduceLeDiff, Nat.reduceLT, Nat.reduceEqDiff]
  refine useG (fun _ => HasPrefix_ok s [32]) rfl (.inl rfl) ?_
  simp only [ZZ, YY, Zd, ite_true, ite_false, forall_const, reduceCtorEq, Nat.reduceAdd, Nat.reduceMul, Nat.reduceLeDiff, Nat.reduceLT, Nat.reduceEqDiff]
  refine useG (fun _ => HasSuffix_ok s [32] (by omega)) rfl (.inl rfl) ?_
  simp only [ZZ, YY, Zd, ite_true, ite_false, forall_const, reduceCtorEq, Nat.reduceAdd, Nat.reduceMul, Nat.reduceLeDiff, Nat.reduceLT, Nat.reduceEqDiff]
  refine useG (fun _ => Contains_ok s [32, 32] hs) rfl (.inl rfl) ?_
  simp only [ZZ, YY, Zd, ite_true, ite_false, forall_const, reduceCtorEq, Nat.reduceAdd, Nat.reduceMul, Nat.reduceLeDiff, Nat.reduceLT, Nat.reduceEqDiff]
  ((repeat' (with_reducible apply And.intro)) <;> try ((first | first | assumption | trivial | exact (fun hq => by rw [hq]; rfl) | exact i64_of (by omega) (by omega) | omega | (simp; done) | (simp; omega) | (intro hsc; have hs0 := hsc; (try have hsd := of_decide_eq_true hsc); (try simp only [Bool.not_eq_true', Bool.or_eq_false_iff, Bool.and_eq_true, Bool.or_eq_true, decide_eq_true_eq, decide_eq_false_iff_not] at hsc); (repeat' (with_reducible apply And.intro)) <;> (first | assumption | trivial | exact (fun hq => by rw [hq]; rfl) | exact i64_of (by omega) (by omega) | omega | (simp; done) | (simp; omega) | (intro hse; simp [hse, hs0]; done) | (intro hse; simp only [hse, hs0, Bool.true_and, Bool.and_true, Bool.not_false, Bool.not_true, Bool.and_self]; done))))))
def nameS : List UInt8 := [34, 60, 62, 44, 59]
def nameB (s : List UInt8) : Bool := (decide ((s.length : Int) ≤ 60) && plainB s) && !decide (0 ≤ Lib.indexAny s nameS)
theorem isName_ok (s : List UInt8) (hs : s.length ≤ 1000000000) : PCall Tryd.prog E0 182 [.str s] (· = .bool (nameB s)) := by
  refine pcallF mixed Tryd.func182 ck_thread_isName ?_
  simp only [a0, l0, OS.ao, List.map_cons, List.map_nil, List.length_cons, List.length_nil, List.cons_append, List.nil_append, Nat.reduceSub, Nat.reduceAdd, List.replicate_succ, List.replicate_zero, ir_thread_isName, rs_thread_isName, ZZ, YY, Zd, ite_true, ite_false, forall_const, reduceCtorEq, Nat.reduceAdd, Nat.reduceMul, Nat.reduceLeDiff, Nat.reduceLT, Nat.reduceEqDiff]
  refine useG (fun _ => Plain_ok s (by omega)) rfl (.inl rfl) ?_
  simp only [ZZ, YY, Zd, ite_true, ite_false, forall_const, reduceCtorEq, Nat.reduceAdd, Nat.reduceMul, Nat.reduceLeDiff, Nat.reduceLT, Nat.reduceEqDiff]
  refine useG (fun _ => ContainsAny_ok s nameS hs (by decide) (by decide)) rfl (.inl rfl) ?_
  simp only [ZZ, YY, Zd, ite_true, ite_false, forall_const, reduceCtorEq, Nat.reduceAdd, Nat.reduceMul, Nat.reduceLeDiff, Nat.reduceLT, Nat.reduceEqDiff]
  ((repeat' (with_reducible apply And.intro)) <;> try ((first | first | assumption | trivial | exact (fun hq => by rw [hq]; rfl) | exact i64_of (by omega) (by omega) | omega | (simp; done) | (simp; omega) | (intro hsc; have hs0 := hsc; (try have hsd := of_decide_eq_true hsc); (try simp only [Bool.not_eq_true', Bool.or_eq_false_iff, Bool.and_eq_true, Bool.or_eq_true, decide_eq_true_eq, decide_eq_false_iff_not] at hsc); (repeat' (with_reducible apply And.intro)) <;> (first | assumption | trivial | exact (fun hq => by rw [hq]; rfl) | exact i64_of (by omega) (by omega) | omega | (simp; done) | (simp; omega) | (intro hse; simp [hse, hs0]; done) | (intro hse; simp only [hse, hs0, Bool.true_and, Bool.and_true, Bool.not_false, Bool.not_true, Bool.and_self]; done))))))
theorem right_ok (n m : List UInt8) (hn : n.length ≤ 1000000000) (hm : m.length ≤ 1000000000) : PCall Tryd.prog E0 155 [.agg [.str n, .str m]] (· = .bool (nameB n && mailF m)) := by
  refine pcallF mixed Tryd.func155 ck_thread_right ?_
  simp only [a0, l0, OS.ao, List.map_cons, List.map_nil, List.length_cons, List.length_nil, List.cons_append, List.nil_append, Nat.reduceSub, Nat.reduceAdd, List.replicate_succ, List.replicate_zero, ir_thread_right, rs_thread_right, ZZ, YY, Zd, ite_true, ite_false, forall_const, reduceCtorEq, Nat.reduceAdd, Nat.reduceMul, Nat.reduceLeDiff, Nat.reduceLT, Nat.reduceEqDiff]
  refine use1 (isName_ok n hn) rfl (.inl rfl) ?_
  simp only [ZZ, YY, Zd, ite_true, ite_false, forall_const, reduceCtorEq, Nat.reduceAdd, Nat.reduceMul, Nat.reduceLeDiff, Nat.reduceLT, Nat.reduceEqDiff]
  refine useG (fun _ => IsMail_ok m (by omega)) rfl (.inl rfl) ?_
  simp only [ZZ, YY, Zd, ite_true, ite_false, forall_const, reduceCtorEq, Nat.reduceAdd, Nat.reduceMul, Nat.reduceLeDiff, Nat.reduceLT, Nat.reduceEqDiff]
def annS : List UInt8 := [65, 110, 110, 32, 60, 97, 64, 98, 46, 100, 101, 62]
theorem address_ann : PCall Tryd.prog E0 118 [.str annS] (· = .tup [.agg [.str [65, 110, 110], .str [97, 64, 98, 46, 100, 101]], .bool true]) := by
  refine pcallF mixed Tryd.func118 ck_thread_address ?_
  simp only [a0, l0, OS.ao, List.map_cons, List.map_nil, List.length_cons, List.length_nil, List.cons_append, List.nil_append, Nat.reduceSub, Nat.reduceAdd, List.replicate_succ, List.replicate_zero, ir_thread_address, rs_thread_address, ZZ, YY, Zd, ite_true, ite_false, forall_const, reduceCtorEq, Nat.reduceAdd, Nat.reduceMul, Nat.reduceLeDiff, Nat.reduceLT, Nat.reduceEqDiff]
  refine use1 (TrimSet_ok annS [32] (by decide) (by decide) (by decide)) rfl (.inl rfl) ?_
  rw [show Lib.trimS annS [32] = annS from by decide +kernel]
  simp only [ZZ, YY, Zd, ite_true, ite_false, forall_const, reduceCtorEq, Nat.reduceAdd, Nat.reduceMul, Nat.reduceLeDiff, Nat.reduceLT, Nat.reduceEqDiff]
  refine use1 (Cut_ok annS [60] (by decide)) rfl (.inl rfl) ?_
  rw [show cutF annS [60] = ([65, 110, 110, 32], [97, 64, 98, 46, 100, 101, 62], true) from by decide +kernel]
  simp only [ZZ, YY, Zd, ite_true, ite_false, forall_const, reduceCtorEq, Nat.reduceAdd, Nat.reduceMul, Nat.reduceLeDiff, Nat.reduceLT, Nat.reduceEqDiff]
  refine use1 (CutSuffix_ok [97, 64, 98, 46, 100, 101, 62] [62] (by decide) (by decide)) rfl (.inl rfl) ?_
  rw [show cutSufF [97, 64, 98, 46, 100, 101, 62] [62] = ([97, 64, 98, 46, 100, 101], true) from by decide +kernel]
  simp only [ZZ, YY, Zd, ite_true, ite_false, forall_const, reduceCtorEq, Nat.reduceAdd, Nat.reduceMul, Nat.reduceLeDiff, Nat.reduceLT, Nat.reduceEqDiff]
  refine use1 (Lower_ok [97, 64, 98, 46, 100, 101] (by decide)) rfl (.inl rfl) ?_
  rw [show lowF [97, 64, 98, 46, 100, 101] = [97, 64, 98, 46, 100, 101] from by decide +kernel]
  simp only [ZZ, YY, Zd, ite_true, ite_false, forall_const, reduceCtorEq, Nat.reduceAdd, Nat.reduceMul, Nat.reduceLeDiff, Nat.reduceLT, Nat.reduceEqDiff]
  refine br (fun h => by simp at h) ?_
  intro _
  simp only [ZZ, YY, Zd, ite_true, ite_false, forall_const, reduceCtorEq, Nat.reduceAdd, Nat.reduceMul, Nat.reduceLeDiff, Nat.reduceLT, Nat.reduceEqDiff]
  refine use1 (TrimRightSet_ok [65, 110, 110, 32] [32] (by decide) (by decide) (by decide)) rfl (.inl rfl) ?_
  rw [show Lib.trimRightS [65, 110, 110, 32] [32] = [65, 110, 110] from by decide +kernel]
  simp only [ZZ, YY, Zd, ite_true, ite_false, forall_const, reduceCtorEq, Nat.reduceAdd, Nat.reduceMul, Nat.reduceLeDiff, Nat.reduceLT, Nat.reduceEqDiff]
  refine br (fun h => by simp at h) ?_
  intro _
  simp only [ZZ, YY, Zd, ite_true, ite_false, forall_const, reduceCtorEq, Nat.reduceAdd, Nat.reduceMul, Nat.reduceLeDiff, Nat.reduceLT, Nat.reduceEqDiff]
  refine use1 (CutPrefix_ok [65, 110, 110] [34] (by decide) (by decide)) rfl (.inl rfl) ?_
  rw [show cutPreF [65, 110, 110] [34] = ([65, 110, 110], false) from by decide +kernel]
  simp only [ZZ, YY, Zd, ite_true, ite_false, forall_const, reduceCtorEq, Nat.reduceAdd, Nat.reduceMul, Nat.reduceLeDiff, Nat.reduceLT, Nat.reduceEqDiff]
  refine cut_same (by simp only [ZZ, YY, Zd, ite_true, ite_false, forall_const, reduceCtorEq, Nat.reduceAdd, Nat.reduceMul, Nat.reduceLeDiff, Nat.reduceLT, Nat.reduceEqDiff]) ?_
  simp only [ZZ, YY, Zd, ite_true, ite_false, forall_const, reduceCtorEq, Nat.reduceAdd, Nat.reduceMul, Nat.reduceLeDiff, Nat.reduceLT, Nat.reduceEqDiff]
  refine drg1 (x1 := .bool true) ?_
  have hr := right_ok [65, 110, 110] [97, 64, 98, 46, 100, 101] (by decide) (by decide)
  rw [show (nameB [65, 110, 110] && mailF [97, 64, 98, 46, 100, 101]) = true from by decide +kernel] at hr
  simp only [ZZ, YY, Zd, ite_true, ite_false, forall_const, reduceCtorEq, Nat.reduceAdd, Nat.reduceMul, Nat.reduceLeDiff, Nat.reduceLT, Nat.reduceEqDiff]
  ((repeat' (with_reducible apply And.intro)) <;> try (first | exact fun h => ⟨h, usep hr rfl (.inl rfl)⟩ | (first | first | assumption | trivial | exact (fun hq => by rw [hq]; rfl) | exact i64_of (by omega) (by omega) | omega | (simp; done) | (simp; omega) | (intro hsc; have hs0 := hsc; (try have hsd := of_decide_eq_true hsc); (try simp only [Bool.not_eq_true', Bool.or_eq_false_iff, Bool.and_eq_true, Bool.or_eq_true, decide_eq_true_eq, decide_eq_false_iff_not] at hsc); (repeat' (with_reducible apply And.intro)) <;> (first | assumption | trivial | exact (fun hq => by rw [hq]; rfl) | exact i64_of (by omega) (by omega) | omega | (simp; done) | (simp; omega) | (intro hse; simp [hse, hs0]; done) | (intro hse; simp only [hse, hs0, Bool.true_and, Bool.and_true, Bool.not_false, Bool.not_true, Bool.and_self]; done))))))
theorem Address_ann : PCall Tryd.prog E0 72 [.str annS] (· = .tup [.agg [.str [65, 110, 110], .str [97, 64, 98, 46, 100, 101]], int 0]) := by
  refine pcallF mixed Tryd.func72 ck_thread_Address ?_
  simp only [a0, l0, OS.ao, List.map_cons, List.map_nil, List.length_cons, List.length_nil, List.cons_append, List.nil_append, Nat.reduceSub, Nat.reduceAdd, List.replicate_succ, List.replicate_zero, ir_thread_Address, rs_thread_Address, ZZ, YY, Zd, ite_true, ite_false, forall_const, reduceCtorEq, Nat.reduceAdd, Nat.reduceMul, Nat.reduceLeDiff, Nat.reduceLT, Nat.reduceEqDiff]
  refine br (fun h => by simp [annS] at h) ?_
  intro _
  simp only [ZZ, YY, Zd, ite_true, ite_false, forall_const, reduceCtorEq, Nat.reduceAdd, Nat.reduceMul, Nat.reduceLeDiff, Nat.reduceLT, Nat.reduceEqDiff]
  refine use1 address_ann rfl (.inl rfl) ?_
  simp only [ZZ, YY, Zd, ite_true, ite_false, forall_const, reduceCtorEq, Nat.reduceAdd, Nat.reduceMul, Nat.reduceLeDiff, Nat.reduceLT, Nat.reduceEqDiff]
theorem threads_ok : PCall Tryd.prog E0 30 [] (· = .bool true) := by
  refine pcallF mixed Tryd.func30 ck_chaselaw1_threads ?_
  simp only [a0, l0, OS.ao, List.map_cons, List.map_nil, List.length_cons, List.length_nil, List.cons_append, List.nil_append, Nat.reduceSub, Nat.reduceAdd, List.replicate_succ, List.replicate_zero, ir_chaselaw1_threads, rs_chaselaw1_threads, ZZ, YY, Zd, ite_true, ite_false, forall_const, reduceCtorEq, Nat.reduceAdd, Nat.reduceMul, Nat.reduceLeDiff, Nat.reduceLT, Nat.reduceEqDiff]
  refine use1 Address_ann rfl (.inl rfl) ?_
  simp only [ZZ, YY, Zd, ite_true, ite_false, forall_const, reduceCtorEq, Nat.reduceAdd, Nat.reduceMul, Nat.reduceLeDiff, Nat.reduceLT, Nat.reduceEqDiff]
  simp
end Go.Proofs.YtndjmidmfmcbkaaDoor

/- Marks of subjects, in plain lists: both texts find the same. -/
namespace Go.Proofs.YtndjmidmfmcbkaaDoor
open Go.RowKit
set_option linter.unusedVariables false
set_option linter.unusedSimpArgs false
set_option linter.defProp false

theorem ib_cases (l : List UInt8) (c : UInt8) : (Lib.indexByte l c = -1 ∧ c ∉ l) ∨ ∃ a b, l = a ++ c :: b ∧ c ∉ a ∧ Lib.indexByte l c = a.length := by
  have hge := Lib.indexByte_ge l c
  by_cases h : Lib.indexByte l c = -1
  · refine .inl ⟨h, fun hm => ?_⟩
    obtain ⟨k, hk⟩ := List.getElem?_of_mem hm
    exact Lib.indexByte_none h k hk
  · obtain ⟨o, ho⟩ : ∃ o : Nat, Lib.indexByte l c = o := ⟨(Lib.indexByte l c).toNat, by omega⟩
    obtain ⟨h1, h2⟩ := Lib.indexByte_some ho
    have hlt : o < l.length := (List.getElem?_eq_some_iff.1 h1).1
    have hge : l[o] = c := (List.getElem?_eq_some_iff.1 h1).2
    refine .inr ⟨l.take o, l.drop (o + 1), ?_, fun hm => ?_, by rw [ho]; simp; omega⟩
    · rw [← hge, ← List.drop_eq_getElem_cons hlt, List.take_append_drop]
    · obtain ⟨k, hk⟩ := List.getElem?_of_mem hm
      have hk2 : k < o := by
        have := (List.getElem?_eq_some_iff.1 hk).1
        simp at this; omega
      rw [List.getElem?_take, if_pos hk2] at hk
      exact h2 k hk2 hk
theorem ix_cases (l p : List UInt8) : (Lib.index l p = -1 ∧ ∀ a b, l ≠ a ++ (p ++ b)) ∨ ∃ a b, l = a ++ (p ++ b) ∧ Lib.index l p = a.length ∧ ∀ a' b', l = a' ++ (p ++ b') → a.length ≤ a'.length := by
  rcases Lib.index_spec l p with ⟨h1, h2⟩ | ⟨i, h1, h2, h3, h4⟩
  · refine .inl ⟨h1, fun a b e => ?_⟩
    have := h2 a.length (by rw [e]; simp)
    rw [e] at this
    simp [Lib.occAt] at this
    exact absurd this (by rw [Bool.not_eq_false]; exact List.isPrefixOf_iff_prefix.2 ⟨b, rfl⟩)
  · have h3' : p <+: l.drop i := by simpa [Lib.occAt] using h3
    obtain ⟨b, hb⟩ := h3'
    refine .inr ⟨l.take i, b, by rw [hb, List.take_append_drop], by rw [h1]; simp; omega, fun a' b' e => ?_⟩
    rw [List.length_take, Nat.min_eq_left h2]
    by_cases hl : i ≤ a'.length
    · exact hl
    · have := h4 a'.length (by omega)
      rw [e] at this
      simp [Lib.occAt] at this
      exact absurd this (by rw [Bool.not_eq_false]; exact List.isPrefixOf_iff_prefix.2 ⟨b', rfl⟩)
theorem ia_cases (l cs : List UInt8) : (Lib.indexAny l cs = -1 ∧ ∀ x ∈ l, cs.contains x = false) ∨ ∃ a x b, l = a ++ x :: b ∧ cs.contains x = true ∧ (∀ y ∈ a, cs.contains y = false) ∧ Lib.indexAny l cs = a.length := by
  induction l with
  | nil => exact .inl ⟨rfl, by simp⟩
  | cons y l ih =>
    by_cases hy : cs.contains y = true
    · exact .inr ⟨[], y, l, rfl, hy, by simp, by simp only [Lib.indexAny]; rw [if_pos hy]; rfl⟩
    · have hy' : cs.contains y = false := Bool.eq_false_iff.2 hy
      rcases ih with ⟨h1, h2⟩ | ⟨a, x, b, h1, h2, h3, h4⟩
      · refine .inl ⟨by simp only [Lib.indexAny, h1]; rw [if_neg hy]; rfl, fun z hz => ?_⟩
        rcases List.mem_cons.1 hz with rfl | hz
        · exact hy'
        · exact h2 z hz
      · refine .inr ⟨y :: a, x, b, by rw [h1]; rfl, h2, fun z hz => ?_, ?_⟩
        · rcases List.mem_cons.1 hz with rfl | hz
          · exact hy'
          · exact h3 z hz
        · simp only [Lib.indexAny, h4]
          rw [if_neg hy, if_neg (by simp)]
          simp
/-- The first place of a byte is the only one with none before it. -/
theorem first_eq {c : UInt8} {a b a' b' : List UInt8} (h : a ++ c :: b = a' ++ c :: b') (h1 : c ∉ a) (h2 : c ∉ a') : a = a' ∧ b = b' := by
  induction a generalizing a' with
  | nil =>
    cases a' with
    | nil => simpa using h
    | cons x a' => simp only [List.nil_append, List.cons_append, List.cons.injEq] at h; exact absurd (by rw [h.1]; simp) h2
  | cons y a ih =>
    cases a' with
    | nil => simp only [List.nil_append, List.cons_append, List.cons.injEq] at h; exact absurd (by rw [← h.1]; simp) h1
    | cons x a' =>
      simp only [List.cons_append, List.cons.injEq] at h
      obtain ⟨e1, e2⟩ := ih h.2 (fun hm => h1 (by simp [hm])) (fun hm => h2 (by simp [hm]))
      exact ⟨by rw [h.1, e1], e2⟩

theorem cut_at {a b p : List UInt8} (h : Lib.index (a ++ (p ++ b)) p = a.length) : cutF (a ++ (p ++ b)) p = (a, b, true) := by
  rw [cutF, h, if_pos (by omega)]
  simp
theorem cut_not {l p : List UInt8} (h : Lib.index l p = -1) : cutF l p = (l, [], false) := by
  rw [cutF, h, if_neg (by omega)]

/-- A number in brackets: its length; 0: there is none. -/
def brF (s : List UInt8) : Nat := if (2 ≤ Lib.indexByte s 93 ∧ s.getD 0 0 = 91) ∧ ((s.take (Lib.indexByte s 93).toNat).drop 1).all digB = true then (Lib.indexByte s 93).toNat + 1 else 0
/-- What stands behind a mark's word. -/
def brR (r : List UInt8) : List UInt8 := r.drop (brF r)
def mkP (r : List UInt8) : Option (List UInt8) := if Lib.hasPrefix (brR r) [58] = true then some ((brR r).drop 1) else none
def mkR (r : List UInt8) : Option (List UInt8) :=
  if Lib.hasPrefix r [58] = true then some (r.drop 1)
  else if (((cutF (cutPreF r [91]).1 [93, 58]).2.2 = true ∧ r.getD 0 0 = 91) ∧ (cutF (cutPreF r [91]).1 [93, 58]).1 ≠ []) ∧ madeF (cutF (cutPreF r [91]).1 [93, 58]).1 [48, 49, 50, 51, 52, 53, 54, 55, 56, 57] = true then some (cutF (cutPreF r [91]).1 [93, 58]).2.1
  else none
theorem made_dig (s : List UInt8) : madeF s [48, 49, 50, 51, 52, 53, 54, 55, 56, 57] = s.all digB := by
  rw [madeF_all]
  congr 1
  funext c
  exact all256 (p := fun c => List.contains [48, 49, 50, 51, 52, 53, 54, 55, 56, 57] c = digB c) (by decide +kernel) c
theorem hp1 (c : UInt8) (r : List UInt8) : Lib.hasPrefix r [c] = true ↔ ∃ t, r = c :: t := by
  unfold Lib.hasPrefix
  rw [List.isPrefixOf_iff_prefix]
  constructor
  · rintro ⟨t, rfl⟩; exact ⟨t, rfl⟩
  · rintro ⟨t, rfl⟩; exact ⟨t, rfl⟩
theorem mk_same (r : List UInt8) : mkP r = mkR r := by
  cases r with
  | nil => decide +kernel
  | cons c t =>
    by_cases hc : c = 91
    · subst hc
      have hn : ¬ Lib.hasPrefix (91 :: t) [58] = true := fun h => by obtain ⟨t', ht⟩ := (hp1 _ _).1 h; simp at ht
      have hp : (cutPreF (91 :: t) [91]).1 = t := by rw [cutPreF, if_pos ((hp1 _ _).2 ⟨t, rfl⟩)]; rfl
      have hd : ∀ {a : List UInt8}, a.all digB = true → (93 : UInt8) ∉ a := fun h hm => by
        have := List.all_eq_true.1 h 93 hm
        revert this; decide
      have hib : Lib.indexByte (91 :: t) 93 = if Lib.indexByte t 93 = -1 then -1 else Lib.indexByte t 93 + 1 := by
        rcases ib_cases t 93 with ⟨h1, h2⟩ | ⟨a, b, h1, h2, h3⟩
        · rw [if_pos h1]
          rcases ib_cases (91 :: t) 93 with ⟨h4, _⟩ | ⟨a, b, h4, _, _⟩
          · exact h4
          · exact absurd (show (93 : UInt8) ∈ 91 :: t by rw [h4]; simp) (by simp [h2])
        · rw [if_neg (by omega)]
          rcases ib_cases (91 :: t) 93 with ⟨_, h4⟩ | ⟨a', b', h4, h5, h6⟩
          · exact absurd (show (93 : UInt8) ∈ 91 :: t by rw [h1]; simp) h4
          · have := first_eq (a := 91 :: a) (b := b) (by rw [← h4, h1]; rfl) (by simp [h2]) h5
            rw [h6, ← this.1, h3]
            simp
      rcases ib_cases t 93 with ⟨h1, h2⟩ | ⟨a, b, h1, h2, h3⟩
      · have hb : brF (91 :: t) = 0 := by rw [brF, hib, if_pos h1, if_neg (by intro h; exact absurd h.1.1 (by decide))]
        rw [mkP, brR, hb, List.drop_zero, if_neg hn]
        rcases ix_cases t [93, 58] with ⟨h4, _⟩ | ⟨a, b, h4, _, _⟩
        · rw [mkR, if_neg hn, hp, made_dig, cut_not h4, if_neg (by simp)]
        · exact absurd (show (93 : UInt8) ∈ t by rw [h4]; simp) h2
      · have hk : Lib.indexByte (91 :: t) 93 = ((a.length + 1 : Nat) : Int) := by rw [hib, if_neg (by omega), h3]; rfl
        have htk : ((91 :: t).take (a.length + 1)).drop 1 = a := by rw [h1]; simp
        have hdr : (91 :: t).drop (a.length + 1 + 1) = b := by rw [h1]; simp
        have hP : mkP (91 :: t) = if a ≠ [] ∧ a.all digB = true then (if Lib.hasPrefix b [58] = true then some (b.drop 1) else none) else none := by
          rw [mkP, brR, brF, hk]
          simp only [Int.toNat_natCast, htk]
          by_cases hq : a ≠ [] ∧ a.all digB = true
          · have hl : 1 ≤ a.length := by
              cases a with
              | nil => exact absurd rfl hq.1
              | cons _ _ => simp
            rw [if_pos hq, if_pos (show (2 ≤ ((a.length + 1 : Nat) : Int) ∧ (91 :: t).getD 0 0 = 91) ∧ a.all digB = true from ⟨⟨by omega, rfl⟩, hq.2⟩), hdr]
          · rw [if_neg hq]
            have : ¬ ((2 ≤ ((a.length + 1 : Nat) : Int) ∧ (91 :: t).getD 0 0 = 91) ∧ a.all digB = true) := by
              rintro ⟨⟨g1, _⟩, g2⟩
              exact hq ⟨(by rintro rfl; simp at g1), g2⟩
            rw [if_neg this, List.drop_zero, if_neg hn]
        rw [hP]
        rcases ix_cases t [93, 58] with ⟨h4, h5⟩ | ⟨a2, b2, h4, h5, h6⟩
        · have hR : mkR (91 :: t) = none := by rw [mkR, if_neg hn, hp, made_dig, cut_not h4, if_neg (fun h => by cases h.1.1.1)]
          rw [hR]
          split
          · rw [if_neg]
            intro hb
            obtain ⟨b', rfl⟩ := (hp1 _ _).1 hb
            exact h5 a b' (by rw [h1]; rfl)
          · rfl
        · have hcut : cutF t [93, 58] = (a2, b2, true) := by rw [h4] at h5 ⊢; exact cut_at h5
          have hR : mkR (91 :: t) = if a2 ≠ [] ∧ a2.all digB = true then some b2 else none := by
            rw [mkR, if_neg hn, hp, made_dig, hcut]
            by_cases hq : a2 ≠ [] ∧ a2.all digB = true
            · rw [if_pos hq, if_pos ⟨⟨⟨rfl, rfl⟩, hq.1⟩, hq.2⟩]
            · rw [if_neg hq, if_neg (fun h => hq ⟨h.1.2, h.2⟩)]
          rw [hR]
          by_cases hq : a2 ≠ [] ∧ a2.all digB = true
          · have := first_eq (c := 93) (a := a) (b := b) (a' := a2) (b' := 58 :: b2) (by rw [← h1, h4]; rfl) h2 (hd hq.2)
            rw [this.1, this.2, if_pos hq, if_pos hq, if_pos ((hp1 _ _).2 ⟨b2, rfl⟩)]
            rfl
          · rw [if_neg hq]
            split
            · rename_i hq2
              rw [if_neg]
              intro hb
              obtain ⟨b', rfl⟩ := (hp1 _ _).1 hb
              have hle := h6 a b' (by rw [h1]; rfl)
              have : a2 = a := by
                have e : a ++ (93 :: 58 :: b') = a2 ++ (93 :: 58 :: b2) := by rw [← h1, h4]; rfl
                have h93 : (93 : UInt8) ∉ a2 := by
                  intro hm
                  have hpre : a2 = a.take a2.length := by
                    have := congrArg (List.take a2.length) e
                    rw [List.take_append_of_le_length hle, List.take_left] at this
                    exact this.symm
                  rw [hpre] at hm
                  exact h2 (List.mem_of_mem_take hm)
                exact (first_eq e h2 h93).1.symm
              exact hq (this ▸ hq2)
            · rfl
    · have hb : brF (c :: t) = 0 := by rw [brF, if_neg (by rintro ⟨⟨_, h⟩, _⟩; exact hc h)]
      rw [mkP, brR, hb, List.drop_zero, mkR]
      by_cases h : Lib.hasPrefix (c :: t) [58] = true
      · rw [if_pos h, if_pos h]
      · rw [if_neg h, if_neg h, if_neg (by rintro ⟨⟨⟨_, h⟩, _⟩, _⟩; exact hc h)]

/-- A name in brackets, behind the first one: what stands behind it. -/
def bkP (t : List UInt8) : Option (List UInt8) := if (0 ≤ Lib.indexAny t [91, 93] ∧ Lib.indexAny t [91, 93] ≤ 20) ∧ t.getD (Lib.indexAny t [91, 93]).toNat 0 = 93 then some (t.drop ((Lib.indexAny t [91, 93]).toNat + 1)) else none
def bkR (t : List UInt8) : Option (List UInt8) := if ((cutF t [93]).2.2 = true ∧ ((cutF t [93]).1.length : Int) ≤ 20) ∧ ¬ 0 ≤ Lib.index (cutF t [93]).1 [91] then some (cutF t [93]).2.1 else none
theorem bk_same (t : List UInt8) : bkP t = bkR t := by
  rw [bkP, bkR]
  have hx1 : ∀ {l : List UInt8} {c : UInt8}, Lib.index l [c] = Lib.indexByte l c := fun {l c} => Lib.index_one l c
  have h9 : ∀ {y : UInt8}, List.contains [91, 93] y = true ↔ y = 91 ∨ y = 93 := by intro y; simp
  have h9f : ∀ {y : UInt8}, List.contains [91, 93] y = false ↔ y ≠ 91 ∧ y ≠ 93 := by intro y; simp
  rcases ia_cases t [91, 93] with ⟨h1, h2⟩ | ⟨a, x, b, h1, h2, h3, h4⟩
  · rw [h1, if_neg (by rintro ⟨⟨h, _⟩, _⟩; exact absurd h (by decide))]
    have : Lib.index t [93] = -1 := by
      rw [hx1]
      rcases ib_cases t 93 with ⟨h, _⟩ | ⟨a, b, h, _, _⟩
      · exact h
      · have := h2 93 (by rw [h]; simp)
        simp at this
    rw [cut_not this, if_neg (by simp)]
  · have hne : ∀ y ∈ a, y ≠ 91 ∧ y ≠ 93 := fun y hy => h9f.1 (h3 y hy)
    rw [h4]
    simp only [Int.toNat_natCast]
    have hg : t.getD a.length 0 = x := by rw [h1]; simp [List.getD]
    have hdr : t.drop (a.length + 1) = b := by rw [h1]; simp
    rw [hg, hdr]
    rcases h9.1 h2 with rfl | rfl
    · rw [if_neg (by rintro ⟨_, h⟩; exact absurd h (by decide))]
      rw [if_neg]
      rintro ⟨⟨g1, g2⟩, g3⟩
      apply g3
      rcases ib_cases t 93 with ⟨h5, _⟩ | ⟨a', b', h5, h6, h7⟩
      · rw [cut_not (by rw [hx1]; exact h5)] at g1; cases g1
      · have hcut : cutF t [93] = (a', b', true) := by
          have := cut_at (a := a') (b := b') (p := [93]) (by rw [hx1]; rw [h5] at h7; simpa using h7)
          rw [h5]; simpa using this
        rw [hcut, hx1]
        rcases ib_cases a' 91 with ⟨_, h8⟩ | ⟨a2, b2, _, _, h10⟩
        · exfalso
          -- 91 stands in t ahead of the first 93
          have e : a ++ 91 :: b = a' ++ 93 :: b' := by rw [← h1, h5]
          rcases Nat.lt_trichotomy a.length a'.length with hl | hl | hl
          · have : (91 : UInt8) ∈ a' := by
              have h91 : a'[a.length]? = some 91 := by
                have := congrArg (fun l => l[a.length]?) e
                simp only [List.getElem?_append_right (Nat.le_refl _), Nat.sub_self, List.getElem?_cons_zero] at this
                rw [List.getElem?_append_left hl] at this
                exact this.symm
              exact List.mem_of_getElem? h91
            exact h8 this
          · have := congrArg (fun l => l[a.length]?) e
            simp only [List.getElem?_append_right (Nat.le_refl _), Nat.sub_self, List.getElem?_cons_zero] at this
            rw [hl, List.getElem?_append_right (Nat.le_refl _), Nat.sub_self] at this
            simp at this
          · have h93 : a[a'.length]? = some 93 := by
              have := congrArg (fun l => l[a'.length]?) e
              simp only [List.getElem?_append_right (Nat.le_refl _), Nat.sub_self, List.getElem?_cons_zero] at this
              rw [List.getElem?_append_left hl] at this
              exact this
            exact (hne 93 (List.mem_of_getElem? h93)).2 rfl
        · rw [h10]; omega
    · have h7 : Lib.indexByte t 93 = a.length := by
        rcases ib_cases t 93 with ⟨_, h5⟩ | ⟨a', b', h5, h6, h7⟩
        · exact absurd (show (93 : UInt8) ∈ t by rw [h1]; simp) h5
        · have := first_eq (c := 93) (a := a) (b := b) (a' := a') (b' := b') (by rw [← h1, h5]) (fun hm => (hne 93 hm).2 rfl) h6
          rw [h7, this.1]
      have hcut : cutF t [93] = (a, b, true) := by
        have := cut_at (a := a) (b := b) (p := [93]) (by rw [hx1]; rw [h1] at h7; simpa using h7)
        rw [h1]; simpa using this
      rw [hcut]
      have hno : ¬ 0 ≤ Lib.index a [91] := by
        rw [hx1]
        rcases ib_cases a 91 with ⟨h, _⟩ | ⟨a2, b2, h, _, _⟩
        · rw [h]; decide
        · exact absurd rfl (hne 91 (by rw [h]; simp)).1
      by_cases hl : (a.length : Int) ≤ 20
      · rw [if_pos ⟨⟨by omega, hl⟩, rfl⟩, if_pos ⟨⟨rfl, hl⟩, hno⟩]
      · rw [if_neg (fun h => hl h.1.2), if_neg (fun h => hl h.1.2)]
end Go.Proofs.YtndjmidmfmcbkaaDoor
