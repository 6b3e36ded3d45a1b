
/- Own texts, put together: C6 K1 N1 I1 N5 N2 M2. -/
import Derived.Test.YthfpehmbellmcaaGreatDoorZ5
import Derived.Test.YthfpehmbellmcaaGreatDoorSpec
import Derived.Shelf.Strings.IndexAnyAll
import Derived.Shelf.Small.Utf8
import Derived.BigQuiet
import Derived.WalkMore
import Derived.Deep.QuietTactic
import Derived.Shelf.RegionOpenPlain
import Derived.Deep.LoopGhost
import Derived.Laws.Runes
import Derived.Laws.RangeString
import Derived.Lib.IndexBytes
import Derived.Laws.Strings3
import Derived.Test.YthfpehmbellmcaaGreatDoorLaySplit
import Derived.Lib.SplitLaws
import Derived.Test.YthfpehmbellmcaaGreatDoorLayIndexAny
import Derived.Test.YthfpehmbellmcaaGreatDoorLayTrim
/- Letters and words. -/
namespace Go.Proofs.YthfpehmbellmcaaGreatDoor
open Go.RowKit
set_option linter.unusedVariables false
set_option linter.unusedSimpArgs false
set_option linter.defProp false

/- paperchase/base.Digit -/
def ir_base_Digit : IC :=
  (.seq (.reg [⟨some 2, .mov (.c (.bool false)), none⟩])
    (.seq (.reg [⟨some 3, .mov (.t 0), none⟩,
      ⟨some 4, .bin .geq (.t 3) (.c (.int .u8 48)), none⟩,
      ⟨some 5, .mov (.t 4), none⟩,
      ⟨some 6, .mov (.t 0), (some (5, true))⟩,
      ⟨some 7, .bin .leq (.t 6) (.c (.int .u8 57)), (some (5, true))⟩,
      ⟨some 8, .pick (.t 5) (.t 7) (.c (.bool false)), none⟩,
      ⟨some 2, .mov (.t 8), none⟩])
    .ret))
def rs_base_Digit : List IRes := [.t 2]
theorem ck_base_Digit : chkF Tryz.prog Tryz.f148 ir_base_Digit rs_base_Digit 9 = true := by kernel_rfl
/- paperchase/near.letter -/
def ir_near_letter : IC :=
  (.seq (.reg [⟨some 2, .mov (.c (.bool false)), none⟩])
    (.seq (.reg [⟨some 3, .mov (.t 0), none⟩,
      ⟨some 4, .bin .geq (.t 3) (.c (.int .u8 97)), none⟩,
      ⟨some 5, .mov (.t 4), none⟩,
      ⟨some 6, .mov (.t 0), (some (5, true))⟩,
      ⟨some 7, .bin .leq (.t 6) (.c (.int .u8 122)), (some (5, true))⟩,
      ⟨some 8, .pick (.t 5) (.t 7) (.c (.bool false)), none⟩,
      ⟨some 9, .mov (.t 8), none⟩,
      ⟨some 10, .mov (.t 0), (some (9, false))⟩,
      ⟨some 11, .bin .geq (.t 10) (.c (.int .u8 65)), (some (9, false))⟩,
      ⟨some 12, .mov (.t 11), (some (9, false))⟩,
      ⟨some 13, .mov (.t 0), (some (12, true))⟩,
      ⟨some 14, .bin .leq (.t 13) (.c (.int .u8 90)), (some (12, true))⟩,
      ⟨some 15, .pick (.t 12) (.t 14) (.c (.bool false)), (some (9, false))⟩,
      ⟨some 16, .pick (.t 9) (.c (.bool true)) (.t 15), none⟩,
      ⟨some 17, .mov (.t 16), none⟩,
      ⟨some 18, .mov (.t 0), (some (17, false))⟩,
      ⟨some 19, .call 148 [.t 18], (some (17, false))⟩,
      ⟨some 20, .pick (.t 17) (.c (.bool true)) (.t 19), none⟩,
      ⟨some 21, .mov (.t 20), none⟩,
      ⟨some 22, .mov (.t 0), (some (21, false))⟩,
      ⟨some 23, .bin .geq (.t 22) (.c (.int .u8 128)), (some (21, false))⟩,
      ⟨some 24, .pick (.t 21) (.c (.bool true)) (.t 23), none⟩,
      ⟨some 2, .mov (.t 24), none⟩])
    .ret))
def rs_near_letter : List IRes := [.t 2]
theorem ck_near_letter : chkF Tryz.prog Tryz.f149 ir_near_letter rs_near_letter 25 = true := by kernel_rfl
/- paperchase/chaseref1.wordByte -/
def ir_chaseref1_wordByte : IC :=
  (.seq (.reg [⟨some 2, .mov (.c (.bool false)), none⟩])
    (.seq (.reg [⟨some 3, .mov (.t 0), none⟩,
      ⟨some 4, .bin .geq (.t 3) (.c (.int .u8 128)), none⟩,
      ⟨some 5, .mov (.t 4), none⟩,
      ⟨some 6, .mov (.t 0), (some (5, false))⟩,
      ⟨some 7, .call 160 [.c (.str [97, 98, 99, 100, 101, 102, 103, 104, 105, 106, 107, 108, 109, 110, 111, 112, 113, 114, 115, 116, 117, 118, 119, 120, 121, 122, 65, 66, 67, 68, 69, 70, 71, 72, 73, 74, 75, 76, 77, 78, 79, 80, 81, 82, 83, 84, 85, 86, 87, 88, 89, 90, 48, 49, 50, 51, 52, 53, 54, 55, 56, 57]), .t 6], (some (5, false))⟩,
      ⟨some 8, .bin .geq (.t 7) (.c (.int .i64 0)), (some (5, false))⟩,
      ⟨some 9, .pick (.t 5) (.c (.bool true)) (.t 8), none⟩,
      ⟨some 2, .mov (.t 9), none⟩])
    .ret))
def rs_chaseref1_wordByte : List IRes := [.t 2]
theorem ck_chaseref1_wordByte : chkF Tryz.prog Tryz.f159 ir_chaseref1_wordByte rs_chaseref1_wordByte 10 = true := by kernel_rfl
/- paperchase/near.Words -/
def ir_near_Words_L0 : IC :=
  (.seq (.seq (.reg [⟨some 7, .mov (.t 5), none⟩,
      ⟨some 8, .mov (.t 0), none⟩,
      ⟨some 9, .sln (.t 8), none⟩,
      ⟨some 10, .bin .leq (.t 7) (.t 9), none⟩])
    (.cond (.t 10) .skip (.exit 0)))
    (.seq (.block 1 (.seq (.reg [⟨some 13, .mov (.t 5), none⟩,
      ⟨some 14, .mov (.t 0), none⟩,
      ⟨some 15, .sln (.t 14), none⟩,
      ⟨some 16, .bin .lss (.t 13) (.t 15), none⟩,
      ⟨some 17, .mov (.t 16), none⟩,
      ⟨some 18, .mov (.t 0), (some (17, true))⟩,
      ⟨some 19, .mov (.t 5), (some (17, true))⟩,
      ⟨some 20, .idx (.t 18) (.t 19), (some (17, true))⟩,
      ⟨some 21, .call 149 [.t 20], (some (17, true))⟩,
      ⟨some 22, .pick (.t 17) (.t 21) (.c (.bool false)), none⟩,
      ⟨some 6, .mov (.t 22), none⟩])
    (.seq (.seq (.reg [⟨some 23, .mov (.t 6), none⟩,
      ⟨some 24, .mov (.t 23), none⟩,
      ⟨some 25, .mov (.t 4), (some (24, true))⟩,
      ⟨some 26, .bin .lss (.t 25) (.c (.int .i64 0)), (some (24, true))⟩,
      ⟨some 27, .pick (.t 24) (.t 26) (.c (.bool false)), none⟩])
    (.cond (.t 27) (.reg [⟨some 28, .mov (.t 5), none⟩,
      ⟨some 4, .mov (.t 28), none⟩]) .skip))
    (.cut (.seq (.reg [⟨some 29, .mov (.t 6), none⟩,
      ⟨some 30, .not (.t 29), none⟩,
      ⟨some 31, .mov (.t 30), none⟩,
      ⟨some 32, .mov (.t 4), (some (31, true))⟩,
      ⟨some 33, .bin .geq (.t 32) (.c (.int .i64 0)), (some (31, true))⟩,
      ⟨some 34, .pick (.t 31) (.t 33) (.c (.bool false)), none⟩])
    (.cond (.t 34) (.seq (.reg [⟨some 35, .mov (.t 3), none⟩,
      ⟨some 36, .mov (.t 0), none⟩,
      ⟨some 37, .mov (.t 4), none⟩,
      ⟨some 38, .mov (.t 5), none⟩,
      ⟨some 39, .ssl (.t 36) (some (.t 37)) (some (.t 38)), none⟩,
      ⟨some 40, .call 150 [.t 39], none⟩,
      ⟨some 41, .bsl 1 [.t 40], none⟩,
      ⟨some 42, .app 9 1 16 (.t 35) (.t 41), none⟩,
      ⟨some 3, .mov (.t 42), none⟩])
    (.reg [⟨some 4, .mov (.c (.int .i64 (-1))), none⟩])) .skip))))))
    (.cut (.reg [⟨some 11, .mov (.t 5), none⟩,
      ⟨some 12, .bin .add (.t 11) (.c (.int .i64 1)), none⟩,
      ⟨some 5, .mov (.t 12), none⟩]))))
def ir_near_Words : IC :=
  (.seq (.reg [⟨some 2, .mov (.c (.nl 1)), none⟩])
    (.seq (.reg [⟨some 3, .nilr 9 1, none⟩])
    (.seq (.reg [⟨some 4, .mov (.c (.int .i64 (-1))), none⟩])
    (.seq (.seq (.reg [⟨some 5, .mov (.c (.int .i64 0)), none⟩])
    (.block 0 (.loop ir_near_Words_L0)))
    (.seq (.reg [⟨some 43, .mov (.t 3), none⟩,
      ⟨some 2, .mov (.t 43), none⟩])
    .ret)))))
def rs_near_Words : List IRes := [.t 2]
theorem ck_near_Words : chkF Tryz.prog Tryz.f111 ir_near_Words rs_near_Words 44 = true := by kernel_rfl
/- paperchase/chaseref1.wordSpans -/
def ir_chaseref1_wordSpans_L1 : IC :=
  (.seq (.seq (.reg [⟨some 18, .mov (.t 5), none⟩,
      ⟨some 19, .mov (.t 0), none⟩,
      ⟨some 20, .sln (.t 19), none⟩,
      ⟨some 21, .bin .lss (.t 18) (.t 20), none⟩,
      ⟨some 22, .mov (.t 21), none⟩,
      ⟨some 23, .mov (.t 0), (some (22, true))⟩,
      ⟨some 24, .mov (.t 5), (some (22, true))⟩,
      ⟨some 25, .idx (.t 23) (.t 24), (some (22, true))⟩,
      ⟨some 26, .call 159 [.t 25], (some (22, true))⟩,
      ⟨some 27, .pick (.t 22) (.t 26) (.c (.bool false)), none⟩])
    (.cond (.t 27) .skip (.exit 2)))
    (.block 3 (.reg [⟨some 28, .mov (.t 5), none⟩,
      ⟨some 29, .bin .add (.t 28) (.c (.int .i64 1)), none⟩,
      ⟨some 5, .mov (.t 29), none⟩])))
def ir_chaseref1_wordSpans_L0 : IC :=
  (.seq (.seq (.reg [⟨some 6, .mov (.t 4), none⟩,
      ⟨some 7, .mov (.t 0), none⟩,
      ⟨some 8, .sln (.t 7), none⟩,
      ⟨some 9, .bin .lss (.t 6) (.t 8), none⟩])
    (.cond (.t 9) .skip (.exit 0)))
    (.seq (.block 1 (.seq (.seq (.reg [⟨some 12, .mov (.t 0), none⟩,
      ⟨some 13, .mov (.t 4), none⟩,
      ⟨some 14, .idx (.t 12) (.t 13), none⟩,
      ⟨some 15, .call 159 [.t 14], none⟩,
      ⟨some 16, .not (.t 15), none⟩])
    (.cond (.t 16) (.exit 1) .skip))
    (.seq (.reg [⟨some 17, .mov (.t 4), none⟩,
      ⟨some 5, .mov (.t 17), none⟩])
    (.seq (.block 2 (.loop ir_chaseref1_wordSpans_L1))
    (.seq (.reg [⟨some 30, .mov (.t 3), none⟩,
      ⟨some 31, .mov (.t 4), none⟩,
      ⟨some 32, .mov (.t 5), none⟩,
      ⟨some 33, .bld [.int .i64 0, .int .i64 0] [(0, 1, .t 31), (1, 1, .t 32)], none⟩,
      ⟨some 34, .bsl 2 [.t 33], none⟩,
      ⟨some 35, .app 148 2 16 (.t 30) (.t 34), none⟩,
      ⟨some 3, .mov (.t 35), none⟩])
    (.reg [⟨some 36, .mov (.t 5), none⟩,
      ⟨some 4, .mov (.t 36), none⟩]))))))
    (.cut (.reg [⟨some 10, .mov (.t 4), none⟩,
      ⟨some 11, .bin .add (.t 10) (.c (.int .i64 1)), none⟩,
      ⟨some 4, .mov (.t 11), none⟩]))))
def ir_chaseref1_wordSpans : IC :=
  (.seq (.reg [⟨some 2, .mov (.c (.nl 2)), none⟩])
    (.seq (.reg [⟨some 3, .nilr 148 2, none⟩])
    (.seq (.seq (.reg [⟨some 4, .mov (.c (.int .i64 0)), none⟩])
    (.block 0 (.loop ir_chaseref1_wordSpans_L0)))
    (.seq (.reg [⟨some 37, .mov (.t 3), none⟩,
      ⟨some 2, .mov (.t 37), none⟩])
    .ret))))
def rs_chaseref1_wordSpans : List IRes := [.t 2]
theorem ck_chaseref1_wordSpans : chkF Tryz.prog Tryz.f122 ir_chaseref1_wordSpans rs_chaseref1_wordSpans 38 = true := by kernel_rfl
/- paperchase/chaseref1.WordsOf -/
def ir_chaseref1_WordsOf_L0 : IC :=
  (.seq (.reg [⟨some 10, .bin .lss (.t 9) (.t 8), none⟩])
    (.seq (.cond (.t 10) .skip (.exit 0))
    (.seq (.block 1 (.seq (.reg [⟨some 11, .ixa 2 (.t 7) (.t 9), none⟩,
      ⟨some 12, .ld 2 true (.t 11), none⟩,
      ⟨some 5, .alc 148 [.int .i64 0, .int .i64 0], none⟩,
      ⟨none, .st 2 (.t 5) (.t 12), none⟩])
    (.reg [⟨some 13, .mov (.t 3), none⟩,
      ⟨some 14, .mov (.t 0), none⟩,
      ⟨some 15, .fla 0 (.t 5), none⟩,
      ⟨some 16, .ld 1 false (.t 15), none⟩,
      ⟨some 17, .fla 1 (.t 5), none⟩,
      ⟨some 18, .ld 1 false (.t 17), none⟩,
      ⟨some 19, .ssl (.t 14) (some (.t 16)) (some (.t 18)), none⟩,
      ⟨some 20, .call 123 [.t 19], none⟩,
      ⟨some 21, .bsl 1 [.t 20], none⟩,
      ⟨some 22, .app 9 1 16 (.t 13) (.t 21), none⟩,
      ⟨some 3, .mov (.t 22), none⟩])))
    (.reg [⟨some 23, .bin .add (.t 9) (.c (.int .i64 1)), none⟩,
      ⟨some 9, .mov (.t 23), none⟩]))))
def ir_chaseref1_WordsOf : IC :=
  (.seq (.reg [⟨some 2, .mov (.c (.nl 1)), none⟩])
    (.seq (.reg [⟨some 3, .nilr 9 1, none⟩])
    (.seq (.seq (.reg [⟨some 6, .mov (.t 0), none⟩,
      ⟨some 7, .call 122 [.t 6], none⟩,
      ⟨some 8, .len (.t 7), none⟩,
      ⟨some 9, .mov (.c (.int .i64 0)), none⟩])
    (.block 0 (.loop ir_chaseref1_WordsOf_L0)))
    (.seq (.reg [⟨some 24, .mov (.t 3), none⟩,
      ⟨some 2, .mov (.t 24), none⟩])
    .ret))))
def rs_chaseref1_WordsOf : List IRes := [.t 2]
theorem ck_chaseref1_WordsOf : chkF Tryz.prog Tryz.f70 ir_chaseref1_WordsOf rs_chaseref1_WordsOf 25 = true := by kernel_rfl


abbrev tStr : Nat := 9
def digB (c : UInt8) : Bool := decide (48 ≤ (c.toNat : Int)) && decide ((c.toNat : Int) ≤ 57)
def letB (c : UInt8) : Bool := ((decide (97 ≤ (c.toNat : Int)) && decide ((c.toNat : Int) ≤ 122) || decide (65 ≤ (c.toNat : Int)) && decide ((c.toNat : Int) ≤ 90)) || digB c) || decide (128 ≤ (c.toNat : Int))
def alphL : List UInt8 := smallL ++ capL ++ [48, 49, 50, 51, 52, 53, 54, 55, 56, 57]
theorem letB_spec (c : UInt8) : letB c = Sp.isLet c := all256 (p := fun c => letB c = Sp.isLet c) (by decide +kernel) c
theorem letB_alph (c : UInt8) : (decide (128 ≤ (c.toNat : Int)) || decide (0 ≤ Lib.indexByte alphL c)) = letB c := all256 (p := fun c => (decide (128 ≤ (c.toNat : Int)) || decide (0 ≤ Lib.indexByte alphL c)) = letB c) (by decide +kernel) c
section
variable {E : Envt}
theorem Digit_ok (c : UInt8) : PCall Tryz.prog E 148 [.int .u8 (c.toNat : Nat)] (· = .bool (digB c)) := by
  refine pcallF mixed Tryz.func148 ck_base_Digit ?_
  simp only [a0, l0, OS.ao, List.map_cons, List.map_nil, List.length_cons, List.length_nil, List.cons_append, List.nil_append, Nat.reduceSub, Nat.reduceAdd, List.replicate_succ, List.replicate_zero, ir_base_Digit, rs_base_Digit, ZZ, YY, Ze, ite_true, ite_false, forall_const, reduceCtorEq, Nat.reduceAdd, Nat.reduceMul, Nat.reduceLeDiff, Nat.reduceLT, Nat.reduceEqDiff]
  ((repeat' (with_reducible apply And.intro)) <;> try ((first | first | assumption | trivial | exact (fun hq => by rw [hq]; rfl) | exact i64_of (by omega) (by omega) | omega | (simp; done) | (simp; omega) | (intro hsc; have hs0 := hsc; (try have hsd := of_decide_eq_true hsc); (try simp only [Bool.not_eq_true', Bool.or_eq_false_iff, Bool.and_eq_true, Bool.or_eq_true, decide_eq_true_eq, decide_eq_false_iff_not] at hsc); (repeat' (with_reducible apply And.intro)) <;> (first | assumption | trivial | exact (fun hq => by rw [hq]; rfl) | exact i64_of (by omega) (by omega) | omega | (simp; done) | (simp; omega) | (intro hse; simp [hse, hs0]; done) | (intro hse; simp only [hse, hs0, Bool.true_and, Bool.and_true, Bool.not_false, Bool.not_true, Bool.and_self]; done))))))
theorem letter_ok (c : UInt8) : PCall Tryz.prog E 149 [.int .u8 (c.toNat : Nat)] (· = .bool (letB c)) := by
  refine pcallF mixed Tryz.func149 ck_near_letter ?_
  simp only [a0, l0, OS.ao, List.map_cons, List.map_nil, List.length_cons, List.length_nil, List.cons_append, List.nil_append, Nat.reduceSub, Nat.reduceAdd, List.replicate_succ, List.replicate_zero, ir_near_letter, rs_near_letter, ZZ, YY, Ze, ite_true, ite_false, forall_const, reduceCtorEq, Nat.reduceAdd, Nat.reduceMul, Nat.reduceLeDiff, Nat.reduceLT, Nat.reduceEqDiff]
  ((repeat' (with_reducible apply And.intro)) <;> try ((first | first | assumption | trivial | exact (fun hq => by rw [hq]; rfl) | exact i64_of (by omega) (by omega) | omega | (simp; done) | (simp; omega) | (intro hsc; have hs0 := hsc; (try have hsd := of_decide_eq_true hsc); (try simp only [Bool.not_eq_true', Bool.or_eq_false_iff, Bool.and_eq_true, Bool.or_eq_true, decide_eq_true_eq, decide_eq_false_iff_not] at hsc); (repeat' (with_reducible apply And.intro)) <;> (first | assumption | trivial | exact (fun hq => by rw [hq]; rfl) | exact i64_of (by omega) (by omega) | omega | (simp; done) | (simp; omega) | (intro hse; simp [hse, hs0]; done) | (intro hse; simp only [hse, hs0, Bool.true_and, Bool.and_true, Bool.not_false, Bool.not_true, Bool.and_self]; done))))))
  refine useG (fun _ => Digit_ok c) rfl (.inl rfl) ?_
  simp only [ZZ, YY, Ze, ite_true, ite_false, forall_const, reduceCtorEq, Nat.reduceAdd, Nat.reduceMul, Nat.reduceLeDiff, Nat.reduceLT, Nat.reduceEqDiff]
  ((repeat' (with_reducible apply And.intro)) <;> try ((first | first | assumption | trivial | exact (fun hq => by rw [hq]; rfl) | exact i64_of (by omega) (by omega) | omega | (simp; done) | (simp; omega) | (intro hsc; have hs0 := hsc; (try have hsd := of_decide_eq_true hsc); (try simp only [Bool.not_eq_true', Bool.or_eq_false_iff, Bool.and_eq_true, Bool.or_eq_true, decide_eq_true_eq, decide_eq_false_iff_not] at hsc); (repeat' (with_reducible apply And.intro)) <;> (first | assumption | trivial | exact (fun hq => by rw [hq]; rfl) | exact i64_of (by omega) (by omega) | omega | (simp; done) | (simp; omega) | (intro hse; simp [hse, hs0]; done) | (intro hse; simp only [hse, hs0, Bool.true_and, Bool.and_true, Bool.not_false, Bool.not_true, Bool.and_self]; done))))))
theorem wordByte_ok (c : UInt8) : PCall Tryz.prog E 159 [.int .u8 (c.toNat : Nat)] (· = .bool (letB c)) := by
  refine pcallF mixed Tryz.func159 ck_chaseref1_wordByte ?_
  simp only [a0, l0, OS.ao, List.map_cons, List.map_nil, List.length_cons, List.length_nil, List.cons_append, List.nil_append, Nat.reduceSub, Nat.reduceAdd, List.replicate_succ, List.replicate_zero, ir_chaseref1_wordByte, rs_chaseref1_wordByte, ZZ, YY, Ze, ite_true, ite_false, forall_const, reduceCtorEq, Nat.reduceAdd, Nat.reduceMul, Nat.reduceLeDiff, Nat.reduceLT, Nat.reduceEqDiff]
  ((repeat' (with_reducible apply And.intro)) <;> try ((first | first | assumption | trivial | exact (fun hq => by rw [hq]; rfl) | exact i64_of (by omega) (by omega) | omega | (simp; done) | (simp; omega) | (intro hsc; have hs0 := hsc; (try have hsd := of_decide_eq_true hsc); (try simp only [Bool.not_eq_true', Bool.or_eq_false_iff, Bool.and_eq_true, Bool.or_eq_true, decide_eq_true_eq, decide_eq_false_iff_not] at hsc); (repeat' (with_reducible apply And.intro)) <;> (first | assumption | trivial | exact (fun hq => by rw [hq]; rfl) | exact i64_of (by omega) (by omega) | omega | (simp; done) | (simp; omega) | (intro hse; simp [hse, hs0]; done) | (intro hse; simp only [hse, hs0, Bool.true_and, Bool.and_true, Bool.not_false, Bool.not_true, Bool.and_self]; done))))))
  refine useG (fun _ => IndexByte_ok alphL c) rfl (.inl rfl) ?_
  simp only [ZZ, YY, Ze, ite_true, ite_false, forall_const, reduceCtorEq, Nat.reduceAdd, Nat.reduceMul, Nat.reduceLeDiff, Nat.reduceLT, Nat.reduceEqDiff]
  ((repeat' (with_reducible apply And.intro)) <;> try ((first | first | assumption | trivial | exact (fun hq => by rw [hq]; rfl) | exact i64_of (by omega) (by omega) | omega | (simp; done) | (simp; omega) | (intro hsc; have hs0 := hsc; (try have hsd := of_decide_eq_true hsc); (try simp only [Bool.not_eq_true', Bool.or_eq_false_iff, Bool.and_eq_true, Bool.or_eq_true, decide_eq_true_eq, decide_eq_false_iff_not] at hsc); (repeat' (with_reducible apply And.intro)) <;> (first | assumption | trivial | exact (fun hq => by rw [hq]; rfl) | exact i64_of (by omega) (by omega) | omega | (simp; done) | (simp; omega) | (intro hse; simp [hse, hs0]; done) | (intro hse; simp only [hse, hs0, Bool.true_and, Bool.and_true, Bool.not_false, Bool.not_true, Bool.and_self]; done))))))
  rw [letB_alph]
def wordF (t : List UInt8) (p : Nat × Nat) : List UInt8 := lowF (Sp.part t p)
def wordsF (t : List UInt8) : List (List UInt8) := (Sp.spans t).map (wordF t)
def strE (l : List (List UInt8)) : List (List PV) := l.map fun x => [PV.str x]
theorem strE_len (l : List (List UInt8)) : (strE l).length = l.length := by simp [strE]
theorem strE_app (l m : List (List UInt8)) : strE (l ++ m) = strE l ++ strE m := by simp [strE]
theorem strs_eq (l : List (List UInt8)) : strs l = .sl 1 (strE l) := rfl
theorem strE_get {l : List (List UInt8)} {k : Nat} {x : List UInt8} (h : l[k]? = some x) : (strE l).getD k [] = [.str x] := getD_map h
theorem strE_one (x : List UInt8) : [[PV.str x]] = strE [x] := rfl
def fromI (f : Option Nat) : Int := match f with | none => -1 | some a => (a : Int)
theorem Words_ok (t : List UInt8) (ht : t.length ≤ 1000000000) : PCall Tryz.prog E 111 [.str t] (· = strs (wordsF t)) := by
  refine pcallF mixed Tryz.func111 ck_near_Words ?_
  simp only [a0, l0, OS.ao, List.map_cons, List.map_nil, List.length_cons, List.length_nil, List.cons_append, List.nil_append, Nat.reduceSub, Nat.reduceAdd, List.replicate_succ, List.replicate_zero, ir_near_Words, rs_near_Words, ZZ, YY, Ze, ite_true, ite_false, forall_const, reduceCtorEq, Nat.reduceAdd, Nat.reduceMul, Nat.reduceLeDiff, Nat.reduceLT, Nat.reduceEqDiff]
  refine loop_intro (fun n fr L => ∃ (i : Nat) (f : Option Nat) (l : List (List UInt8)), t.length + 1 - i = n ∧ (i ≤ t.length + 1) ∧ (∀ a, f = some a → a < i ∧ i ≤ t.length) ∧ (l.length ≤ i) ∧ (l ++ (Sp.wsp i f (t.drop i)).map (wordF t) = wordsF t) ∧ fr = [.p (.str t), .any, .any, .row (.l 3), .p (int (fromI f)), .p (int (i : Nat)), .any, .any, .any, .any, .any, .any, .any, .any, .any, .any, .any, .any, .any, .any, .any, .any, .any, .any, .any, .any, .any, .any, .any, .any, .any, .any, .any, .any, .any, .any, .any, .any, .any, .any, .any, .any, .any, .any] ∧ L = [(.l 3, .row (strE l) tStr 1 true)]) (t.length + 1 - 0) [.p (.str t), .any, .any, .row (.l 3), .p (int (fromI none)), .p (int (0 : Nat)), .any, .any, .any, .any, .any, .any, .any, .any, .any, .any, .any, .any, .any, .any, .any, .any, .any, .any, .any, .any, .any, .any, .any, .any, .any, .any, .any, .any, .any, .any, .any, .any, .any, .any, .any, .any, .any, .any] [(.l 3, .row (strE []) tStr 1 true)] (by (simp only [ZZ, YY, Ze, ite_true, ite_false, forall_const, reduceCtorEq, Nat.reduceAdd, Nat.reduceMul, Nat.reduceLeDiff, Nat.reduceLT, Nat.reduceEqDiff]; try trivial)) (by (simp only [ZZ, YY, Ze, ite_true, ite_false, forall_const, reduceCtorEq, Nat.reduceAdd, Nat.reduceMul, Nat.reduceLeDiff, Nat.reduceLT, Nat.reduceEqDiff]; try trivial)) ⟨0, none, [], rfl, by omega, by simp, by simp, rfl, rfl, rfl⟩ ?_
  rintro n fr L ⟨i, f, l, rfl, hi1, hf, hll, hl, rfl, rfl⟩
  simp only [ir_near_Words_L0, ZZ, YY, Ze, ite_true, ite_false, forall_const, reduceCtorEq, Nat.reduceAdd, Nat.reduceMul, Nat.reduceLeDiff, Nat.reduceLT, Nat.reduceEqDiff]
  refine br ?_ ?_
  · intro h
    have hle : i ≤ t.length := by have := of_decide_eq_true h; omega
    simp only [ZZ, YY, Ze, ite_true, ite_false, forall_const, reduceCtorEq, Nat.reduceAdd, Nat.reduceMul, Nat.reduceLeDiff, Nat.reduceLT, Nat.reduceEqDiff]
    ((repeat' (with_reducible apply And.intro)) <;> try ((first | first | assumption | trivial | exact (fun hq => by rw [hq]; rfl) | exact i64_of (by omega) (by omega) | omega | (simp; done) | (simp; omega) | (intro hsc; have hs0 := hsc; (try have hsd := of_decide_eq_true hsc); (try simp only [Bool.not_eq_true', Bool.or_eq_false_iff, Bool.and_eq_true, Bool.or_eq_true, decide_eq_true_eq, decide_eq_false_iff_not] at hsc); (repeat' (with_reducible apply And.intro)) <;> (first | assumption | trivial | exact (fun hq => by rw [hq]; rfl) | exact i64_of (by omega) (by omega) | omega | (simp; done) | (simp; omega) | (intro hse; simp [hse, hs0]; done) | (intro hse; simp only [hse, hs0, Bool.true_and, Bool.and_true, Bool.not_false, Bool.not_true, Bool.and_self]; done))))))
    refine useG (fun _ => letter_ok (t.getD i 0)) rfl (.inl rfl) ?_
    simp only [ZZ, YY, Ze, ite_true, ite_false, forall_const, reduceCtorEq, Nat.reduceAdd, Nat.reduceMul, Nat.reduceLeDiff, Nat.reduceLT, Nat.reduceEqDiff]
    ((repeat' (with_reducible apply And.intro)) <;> try ((first | first | assumption | trivial | exact (fun hq => by rw [hq]; rfl) | exact i64_of (by omega) (by omega) | omega | (simp; done) | (simp; omega) | (intro hsc; have hs0 := hsc; (try have hsd := of_decide_eq_true hsc); (try simp only [Bool.not_eq_true', Bool.or_eq_false_iff, Bool.and_eq_true, Bool.or_eq_true, decide_eq_true_eq, decide_eq_false_iff_not] at hsc); (repeat' (with_reducible apply And.intro)) <;> (first | assumption | trivial | exact (fun hq => by rw [hq]; rfl) | exact i64_of (by omega) (by omega) | omega | (simp; done) | (simp; omega) | (intro hse; simp [hse, hs0]; done) | (intro hse; simp only [hse, hs0, Bool.true_and, Bool.and_true, Bool.not_false, Bool.not_true, Bool.and_self]; done))))))
    have hin : (decide ((i : Int) < t.length) && letB (t.getD i 0)) = true → ∃ hh : i < t.length, Sp.isLet t[i] = true := by
      intro hb
      simp only [Bool.and_eq_true, decide_eq_true_eq] at hb
      have hh : i < t.length := by omega
      refine ⟨hh, ?_⟩
      rw [← letB_spec, ← hb.2]
      simp [List.getD, hh]
    have hout : (decide ((i : Int) < t.length) && letB (t.getD i 0)) = false → ∀ hh : i < t.length, Sp.isLet t[i] = false := by
      intro hb hh
      rw [show decide ((i : Int) < t.length) = true from by simp [hh], Bool.true_and] at hb
      rw [← letB_spec, ← hb]
      simp [List.getD, hh]
    generalize (decide ((i : Int) < t.length) && letB (t.getD i 0)) = b at hin hout ⊢
    cases f with
    | none =>
      have e1 : decide (fromI none < 0) = true := by decide
      have e2 : decide (0 ≤ fromI none) = false := by decide
      cases b with
      | true =>
        obtain ⟨hh, hlet⟩ := hin rfl
        have e3 : decide (0 ≤ (i : Int)) = true := by simp
        have hnx := Sp.wsp_let t i none hh _ rfl hlet
        simp only [ZZ, YY, Ze, ite_true, ite_false, forall_const, reduceCtorEq, Nat.reduceAdd, Nat.reduceMul, Nat.reduceLeDiff, Nat.reduceLT, Nat.reduceEqDiff, e1, e2, e3, Bool.false_and]
        refine cut_same (by simp only [ZZ, YY, Ze, ite_true, ite_false, forall_const, reduceCtorEq, Nat.reduceAdd, Nat.reduceMul, Nat.reduceLeDiff, Nat.reduceLT, Nat.reduceEqDiff]) ?_
        simp only [ZZ, YY, Ze, ite_true, ite_false, forall_const, reduceCtorEq, Nat.reduceAdd, Nat.reduceMul, Nat.reduceLeDiff, Nat.reduceLT, Nat.reduceEqDiff, e1, e2, e3, Bool.false_and]
        refine cut_same (by simp only [ZZ, YY, Ze, ite_true, ite_false, forall_const, reduceCtorEq, Nat.reduceAdd, Nat.reduceMul, Nat.reduceLeDiff, Nat.reduceLT, Nat.reduceEqDiff]) ?_
        simp only [ZZ, YY, Ze, ite_true, ite_false, forall_const, reduceCtorEq, Nat.reduceAdd, Nat.reduceMul, Nat.reduceLeDiff, Nat.reduceLT, Nat.reduceEqDiff]
        ((repeat' (with_reducible apply And.intro)) <;> try ((first | first | assumption | trivial | exact (fun hq => by rw [hq]; rfl) | exact i64_of (by omega) (by omega) | omega | (simp; done) | (simp; omega) | (intro hsc; have hs0 := hsc; (try have hsd := of_decide_eq_true hsc); (try simp only [Bool.not_eq_true', Bool.or_eq_false_iff, Bool.and_eq_true, Bool.or_eq_true, decide_eq_true_eq, decide_eq_false_iff_not] at hsc); (repeat' (with_reducible apply And.intro)) <;> (first | assumption | trivial | exact (fun hq => by rw [hq]; rfl) | exact i64_of (by omega) (by omega) | omega | (simp; done) | (simp; omega) | (intro hse; simp [hse, hs0]; done) | (intro hse; simp only [hse, hs0, Bool.true_and, Bool.and_true, Bool.not_false, Bool.not_true, Bool.and_self]; done))))))
        refine end_round (t.length + 1 - (i + 1)) [.p (.str t), .any, .any, .row (.l 3), .p (int (fromI (some i))), .p (int ((i + 1) : Nat)), .any, .any, .any, .any, .any, .any, .any, .any, .any, .any, .any, .any, .any, .any, .any, .any, .any, .any, .any, .any, .any, .any, .any, .any, .any, .any, .any, .any, .any, .any, .any, .any, .any, .any, .any, .any, .any, .any] [(.l 3, .row (strE l) tStr 1 true)] (by omega) (by (simp only [ZZ, YY, Ze, ite_true, ite_false, forall_const, reduceCtorEq, Nat.reduceAdd, Nat.reduceMul, Nat.reduceLeDiff, Nat.reduceLT, Nat.reduceEqDiff]; try trivial)) (by (simp only [ZZ, YY, Ze, ite_true, ite_false, forall_const, reduceCtorEq, Nat.reduceAdd, Nat.reduceMul, Nat.reduceLeDiff, Nat.reduceLT, Nat.reduceEqDiff]; try trivial)) ⟨i + 1, some i, l, rfl, by omega, by intro a ha; cases ha; omega, by omega, by rw [← hl, hnx]; rfl, rfl, rfl⟩
      | false =>
        have hnx : Sp.wsp i none (t.drop i) = Sp.wsp (i + 1) none (t.drop (i + 1)) := by
          by_cases hh : i < t.length
          · exact Sp.wsp_non t i hh _ rfl (hout rfl hh)
          · rw [Sp.wsp_out t i (by omega), Sp.wsp_out t (i + 1) (by omega)]
        simp only [ZZ, YY, Ze, ite_true, ite_false, forall_const, reduceCtorEq, Nat.reduceAdd, Nat.reduceMul, Nat.reduceLeDiff, Nat.reduceLT, Nat.reduceEqDiff, e1, e2, Bool.false_and]
        refine cut_same (by simp only [ZZ, YY, Ze, ite_true, ite_false, forall_const, reduceCtorEq, Nat.reduceAdd, Nat.reduceMul, Nat.reduceLeDiff, Nat.reduceLT, Nat.reduceEqDiff]) ?_
        simp only [ZZ, YY, Ze, ite_true, ite_false, forall_const, reduceCtorEq, Nat.reduceAdd, Nat.reduceMul, Nat.reduceLeDiff, Nat.reduceLT, Nat.reduceEqDiff, e1, e2, Bool.false_and]
        refine cut_same (by simp only [ZZ, YY, Ze, ite_true, ite_false, forall_const, reduceCtorEq, Nat.reduceAdd, Nat.reduceMul, Nat.reduceLeDiff, Nat.reduceLT, Nat.reduceEqDiff]) ?_
        simp only [ZZ, YY, Ze, ite_true, ite_false, forall_const, reduceCtorEq, Nat.reduceAdd, Nat.reduceMul, Nat.reduceLeDiff, Nat.reduceLT, Nat.reduceEqDiff]
        ((repeat' (with_reducible apply And.intro)) <;> try ((first | first | assumption | trivial | exact (fun hq => by rw [hq]; rfl) | exact i64_of (by omega) (by omega) | omega | (simp; done) | (simp; omega) | (intro hsc; have hs0 := hsc; (try have hsd := of_decide_eq_true hsc); (try simp only [Bool.not_eq_true', Bool.or_eq_false_iff, Bool.and_eq_true, Bool.or_eq_true, decide_eq_true_eq, decide_eq_false_iff_not] at hsc); (repeat' (with_reducible apply And.intro)) <;> (first | assumption | trivial | exact (fun hq => by rw [hq]; rfl) | exact i64_of (by omega) (by omega) | omega | (simp; done) | (simp; omega) | (intro hse; simp [hse, hs0]; done) | (intro hse; simp only [hse, hs0, Bool.true_and, Bool.and_true, Bool.not_false, Bool.not_true, Bool.and_self]; done))))))
        refine end_round (t.length + 1 - (i + 1)) [.p (.str t), .any, .any, .row (.l 3), .p (int (fromI (none))), .p (int ((i + 1) : Nat)), .any, .any, .any, .any, .any, .any, .any, .any, .any, .any, .any, .any, .any, .any, .any, .any, .any, .any, .any, .any, .any, .any, .any, .any, .any, .any, .any, .any, .any, .any, .any, .any, .any, .any, .any, .any, .any, .any] [(.l 3, .row (strE l) tStr 1 true)] (by omega) (by (simp only [ZZ, YY, Ze, ite_true, ite_false, forall_const, reduceCtorEq, Nat.reduceAdd, Nat.reduceMul, Nat.reduceLeDiff, Nat.reduceLT, Nat.reduceEqDiff]; try trivial)) (by (simp only [ZZ, YY, Ze, ite_true, ite_false, forall_const, reduceCtorEq, Nat.reduceAdd, Nat.reduceMul, Nat.reduceLeDiff, Nat.reduceLT, Nat.reduceEqDiff]; try trivial)) ⟨i + 1, none, l, rfl, by omega, by simp, by omega, by rw [← hl, hnx], rfl, rfl⟩
    | some a =>
      obtain ⟨ha1, ha2⟩ := hf a rfl
      have e1 : decide (fromI (some a) < 0) = false := decide_eq_false (by simp only [fromI]; omega)
      have e2 : decide (0 ≤ fromI (some a)) = true := decide_eq_true (by simp only [fromI]; omega)
      cases b with
      | true =>
        obtain ⟨hh, hlet⟩ := hin rfl
        have hnx := Sp.wsp_let t i (some a) hh _ rfl hlet
        simp only [ZZ, YY, Ze, ite_true, ite_false, forall_const, reduceCtorEq, Nat.reduceAdd, Nat.reduceMul, Nat.reduceLeDiff, Nat.reduceLT, Nat.reduceEqDiff, e1, e2, Bool.false_and]
        refine cut_same (by simp only [ZZ, YY, Ze, ite_true, ite_false, forall_const, reduceCtorEq, Nat.reduceAdd, Nat.reduceMul, Nat.reduceLeDiff, Nat.reduceLT, Nat.reduceEqDiff]) ?_
        simp only [ZZ, YY, Ze, ite_true, ite_false, forall_const, reduceCtorEq, Nat.reduceAdd, Nat.reduceMul, Nat.reduceLeDiff, Nat.reduceLT, Nat.reduceEqDiff, e1, e2, Bool.false_and]
        refine cut_same (by simp only [ZZ, YY, Ze, ite_true, ite_false, forall_const, reduceCtorEq, Nat.reduceAdd, Nat.reduceMul, Nat.reduceLeDiff, Nat.reduceLT, Nat.reduceEqDiff]) ?_
        simp only [ZZ, YY, Ze, ite_true, ite_false, forall_const, reduceCtorEq, Nat.reduceAdd, Nat.reduceMul, Nat.reduceLeDiff, Nat.reduceLT, Nat.reduceEqDiff]
        ((repeat' (with_reducible apply And.intro)) <;> try ((first | first | assumption | trivial | exact (fun hq => by rw [hq]; rfl) | exact i64_of (by omega) (by omega) | omega | (simp; done) | (simp; omega) | (intro hsc; have hs0 := hsc; (try have hsd := of_decide_eq_true hsc); (try simp only [Bool.not_eq_true', Bool.or_eq_false_iff, Bool.and_eq_true, Bool.or_eq_true, decide_eq_true_eq, decide_eq_false_iff_not] at hsc); (repeat' (with_reducible apply And.intro)) <;> (first | assumption | trivial | exact (fun hq => by rw [hq]; rfl) | exact i64_of (by omega) (by omega) | omega | (simp; done) | (simp; omega) | (intro hse; simp [hse, hs0]; done) | (intro hse; simp only [hse, hs0, Bool.true_and, Bool.and_true, Bool.not_false, Bool.not_true, Bool.and_self]; done))))))
        refine end_round (t.length + 1 - (i + 1)) [.p (.str t), .any, .any, .row (.l 3), .p (int (fromI (some a))), .p (int ((i + 1) : Nat)), .any, .any, .any, .any, .any, .any, .any, .any, .any, .any, .any, .any, .any, .any, .any, .any, .any, .any, .any, .any, .any, .any, .any, .any, .any, .any, .any, .any, .any, .any, .any, .any, .any, .any, .any, .any, .any, .any] [(.l 3, .row (strE l) tStr 1 true)] (by omega) (by (simp only [ZZ, YY, Ze, ite_true, ite_false, forall_const, reduceCtorEq, Nat.reduceAdd, Nat.reduceMul, Nat.reduceLeDiff, Nat.reduceLT, Nat.reduceEqDiff]; try trivial)) (by (simp only [ZZ, YY, Ze, ite_true, ite_false, forall_const, reduceCtorEq, Nat.reduceAdd, Nat.reduceMul, Nat.reduceLeDiff, Nat.reduceLT, Nat.reduceEqDiff]; try trivial)) ⟨i + 1, some a, l, rfl, by omega, by intro q hq; cases hq; omega, by omega, by rw [← hl, hnx]; rfl, rfl, rfl⟩
      | false =>
        have hnx : Sp.wsp i (some a) (t.drop i) = (a, i) :: Sp.wsp (i + 1) none (t.drop (i + 1)) := by
          by_cases hh : i < t.length
          · exact Sp.wsp_end t i a hh _ rfl (hout rfl hh)
          · exact Sp.wsp_fin t i a (by omega)
        simp only [ZZ, YY, Ze, ite_true, ite_false, forall_const, reduceCtorEq, Nat.reduceAdd, Nat.reduceMul, Nat.reduceLeDiff, Nat.reduceLT, Nat.reduceEqDiff, e1, e2, Bool.false_and]
        refine cut_same (by simp only [ZZ, YY, Ze, ite_true, ite_false, forall_const, reduceCtorEq, Nat.reduceAdd, Nat.reduceMul, Nat.reduceLeDiff, Nat.reduceLT, Nat.reduceEqDiff]) ?_
        have e4 : decide (0 ≤ ((a : Nat) : Int)) = true := by simp
        simp only [ZZ, YY, Ze, ite_true, ite_false, forall_const, reduceCtorEq, Nat.reduceAdd, Nat.reduceMul, Nat.reduceLeDiff, Nat.reduceLT, Nat.reduceEqDiff, e1, e2, e4, fromI, Bool.false_and]
        ((repeat' (with_reducible apply And.intro)) <;> try ((first | first | assumption | trivial | exact (fun hq => by rw [hq]; rfl) | exact i64_of (by omega) (by omega) | omega | (simp; done) | (simp; omega) | (intro hsc; have hs0 := hsc; (try have hsd := of_decide_eq_true hsc); (try simp only [Bool.not_eq_true', Bool.or_eq_false_iff, Bool.and_eq_true, Bool.or_eq_true, decide_eq_true_eq, decide_eq_false_iff_not] at hsc); (repeat' (with_reducible apply And.intro)) <;> (first | assumption | trivial | exact (fun hq => by rw [hq]; rfl) | exact i64_of (by omega) (by omega) | omega | (simp; done) | (simp; omega) | (intro hse; simp [hse, hs0]; done) | (intro hse; simp only [hse, hs0, Bool.true_and, Bool.and_true, Bool.not_false, Bool.not_true, Bool.and_self]; done))))))
        refine use1 (Lower_ok (Sp.part t (a, i)) (by have := Sp.part_len t a i; omega)) rfl (.inl rfl) ?_
        simp only [ZZ, YY, Ze, ite_true, ite_false, forall_const, reduceCtorEq, Nat.reduceAdd, Nat.reduceMul, Nat.reduceLeDiff, Nat.reduceLT, Nat.reduceEqDiff]
        simp only [strE_len, strE_one, ← strE_app]
        ((repeat' (with_reducible apply And.intro)) <;> try ((first | first | assumption | trivial | exact (fun hq => by rw [hq]; rfl) | exact i64_of (by omega) (by omega) | omega | (simp; done) | (simp; omega) | (intro hsc; have hs0 := hsc; (try have hsd := of_decide_eq_true hsc); (try simp only [Bool.not_eq_true', Bool.or_eq_false_iff, Bool.and_eq_true, Bool.or_eq_true, decide_eq_true_eq, decide_eq_false_iff_not] at hsc); (repeat' (with_reducible apply And.intro)) <;> (first | assumption | trivial | exact (fun hq => by rw [hq]; rfl) | exact i64_of (by omega) (by omega) | omega | (simp; done) | (simp; omega) | (intro hse; simp [hse, hs0]; done) | (intro hse; simp only [hse, hs0, Bool.true_and, Bool.and_true, Bool.not_false, Bool.not_true, Bool.and_self]; done))))))
        refine cut_same (by simp only [ZZ, YY, Ze, ite_true, ite_false, forall_const, reduceCtorEq, Nat.reduceAdd, Nat.reduceMul, Nat.reduceLeDiff, Nat.reduceLT, Nat.reduceEqDiff]) ?_
        simp only [ZZ, YY, Ze, ite_true, ite_false, forall_const, reduceCtorEq, Nat.reduceAdd, Nat.reduceMul, Nat.reduceLeDiff, Nat.reduceLT, Nat.reduceEqDiff]
        ((repeat' (with_reducible apply And.intro)) <;> try ((first | first | assumption | trivial | exact (fun hq => by rw [hq]; rfl) | exact i64_of (by omega) (by omega) | omega | (simp; done) | (simp; omega) | (intro hsc; have hs0 := hsc; (try have hsd := of_decide_eq_true hsc); (try simp only [Bool.not_eq_true', Bool.or_eq_false_iff, Bool.and_eq_true, Bool.or_eq_true, decide_eq_true_eq, decide_eq_false_iff_not] at hsc); (repeat' (with_reducible apply And.intro)) <;> (first | assumption | trivial | exact (fun hq => by rw [hq]; rfl) | exact i64_of (by omega) (by omega) | omega | (simp; done) | (simp; omega) | (intro hse; simp [hse, hs0]; done) | (intro hse; simp only [hse, hs0, Bool.true_and, Bool.and_true, Bool.not_false, Bool.not_true, Bool.and_self]; done))))))
        refine end_round (t.length + 1 - (i + 1)) [.p (.str t), .any, .any, .row (.l 3), .p (int (fromI (none))), .p (int ((i + 1) : Nat)), .any, .any, .any, .any, .any, .any, .any, .any, .any, .any, .any, .any, .any, .any, .any, .any, .any, .any, .any, .any, .any, .any, .any, .any, .any, .any, .any, .any, .any, .any, .any, .any, .any, .any, .any, .any, .any, .any] [(.l 3, .row (strE (l ++ [lowF (Sp.part t (a, i))])) tStr 1 true)] (by omega) (by (simp only [ZZ, YY, Ze, ite_true, ite_false, forall_const, reduceCtorEq, Nat.reduceAdd, Nat.reduceMul, Nat.reduceLeDiff, Nat.reduceLT, Nat.reduceEqDiff]; try trivial)) (by (simp only [ZZ, YY, Ze, ite_true, ite_false, forall_const, reduceCtorEq, Nat.reduceAdd, Nat.reduceMul, Nat.reduceLeDiff, Nat.reduceLT, Nat.reduceEqDiff]; try trivial)) ⟨i + 1, none, l ++ [lowF (Sp.part t (a, i))], rfl, by omega, by simp, by rw [List.length_append]; simp; omega, by rw [← hl, hnx]; simp [wordF], rfl, rfl⟩
  · intro h
    have hgt : i = t.length + 1 := by have := of_decide_eq_false h; omega
    have hfn : f = none := by
      cases f with
      | none => rfl
      | some a => have := (hf a rfl).2; omega
    subst hfn
    rw [Sp.wsp_out t i (by omega)] at hl
    simp only [List.map_nil, List.append_nil] at hl
    simp only [ZZ, YY, Ze, ite_true, ite_false, forall_const, reduceCtorEq, Nat.reduceAdd, Nat.reduceMul, Nat.reduceLeDiff, Nat.reduceLT, Nat.reduceEqDiff]
    rw [strs_eq, hl]
def sp2 (p : Nat × Nat) : Int × Int := (((p.1 : Nat) : Int), ((p.2 : Nat) : Int))
def spansI (t : List UInt8) : List (Int × Int) := (Sp.spans t).map sp2
theorem wordSpans_ok (t : List UInt8) (ht : t.length ≤ 1000000000) : PCall Tryz.prog E 122 [.str t] (· = sps (spansI t)) := by
  refine pcallF mixed Tryz.func122 ck_chaseref1_wordSpans ?_
  simp only [a0, l0, OS.ao, List.map_cons, List.map_nil, List.length_cons, List.length_nil, List.cons_append, List.nil_append, Nat.reduceSub, Nat.reduceAdd, List.replicate_succ, List.replicate_zero, ir_chaseref1_wordSpans, rs_chaseref1_wordSpans, ZZ, YY, Ze, ite_true, ite_false, forall_const, reduceCtorEq, Nat.reduceAdd, Nat.reduceMul, Nat.reduceLeDiff, Nat.reduceLT, Nat.reduceEqDiff]
  refine loop_intro (fun n fr L => ∃ (i : Nat) (l : List (Int × Int)), t.length + 1 - i = n ∧ (i ≤ t.length + 1) ∧ (l.length ≤ i) ∧ (l ++ (Sp.wsp i none (t.drop i)).map sp2 = spansI t) ∧ fr = [.p (.str t), .any, .any, .row (.l 3), .p (int (i : Nat)), .any, .any, .any, .any, .any, .any, .any, .any, .any, .any, .any, .any, .any, .any, .any, .any, .any, .any, .any, .any, .any, .any, .any, .any, .any, .any, .any, .any, .any, .any, .any, .any, .any] ∧ L = [(.l 3, .row (l.map spn) tSpan 2 true)]) (t.length + 1 - 0) [.p (.str t), .any, .any, .row (.l 3), .p (int (0 : Nat)), .any, .any, .any, .any, .any, .any, .any, .any, .any, .any, .any, .any, .any, .any, .any, .any, .any, .any, .any, .any, .any, .any, .any, .any, .any, .any, .any, .any, .any, .any, .any, .any, .any] [(.l 3, .row ([].map spn) tSpan 2 true)] (by (simp only [ZZ, YY, Ze, ite_true, ite_false, forall_const, reduceCtorEq, Nat.reduceAdd, Nat.reduceMul, Nat.reduceLeDiff, Nat.reduceLT, Nat.reduceEqDiff]; try trivial)) (by (simp only [ZZ, YY, Ze, ite_true, ite_false, forall_const, reduceCtorEq, Nat.reduceAdd, Nat.reduceMul, Nat.reduceLeDiff, Nat.reduceLT, Nat.reduceEqDiff]; try trivial)) ⟨0, [], rfl, by omega, by simp, rfl, rfl, rfl⟩ ?_
  rintro n fr L ⟨i, l, rfl, hi1, hll, hl, rfl, rfl⟩
  simp only [ir_chaseref1_wordSpans_L0, ZZ, YY, Ze, ite_true, ite_false, forall_const, reduceCtorEq, Nat.reduceAdd, Nat.reduceMul, Nat.reduceLeDiff, Nat.reduceLT, Nat.reduceEqDiff]
  refine br ?_ ?_
  · intro h
    have hlt : i < t.length := by have := of_decide_eq_true h; omega
    have hgi : t.getD i 0 = t[i] := by simp [List.getD, hlt]
    simp only [ZZ, YY, Ze, ite_true, ite_false, forall_const, reduceCtorEq, Nat.reduceAdd, Nat.reduceMul, Nat.reduceLeDiff, Nat.reduceLT, Nat.reduceEqDiff]
    ((repeat' (with_reducible apply And.intro)) <;> try ((first | first | assumption | trivial | exact (fun hq => by rw [hq]; rfl) | exact i64_of (by omega) (by omega) | omega | (simp; done) | (simp; omega) | (intro hsc; have hs0 := hsc; (try have hsd := of_decide_eq_true hsc); (try simp only [Bool.not_eq_true', Bool.or_eq_false_iff, Bool.and_eq_true, Bool.or_eq_true, decide_eq_true_eq, decide_eq_false_iff_not] at hsc); (repeat' (with_reducible apply And.intro)) <;> (first | assumption | trivial | exact (fun hq => by rw [hq]; rfl) | exact i64_of (by omega) (by omega) | omega | (simp; done) | (simp; omega) | (intro hse; simp [hse, hs0]; done) | (intro hse; simp only [hse, hs0, Bool.true_and, Bool.and_true, Bool.not_false, Bool.not_true, Bool.and_self]; done))))))
    refine use1 (wordByte_ok (t.getD i 0)) rfl (.inl rfl) ?_
    rw [hgi]
    simp only [ZZ, YY, Ze, ite_true, ite_false, forall_const, reduceCtorEq, Nat.reduceAdd, Nat.reduceMul, Nat.reduceLeDiff, Nat.reduceLT, Nat.reduceEqDiff]
    refine br ?_ ?_
    · intro hb
      have hb : Sp.isLet t[i] = false := by rw [← letB_spec]; simpa using hb
      have hnx := Sp.wsp_non t i hlt _ rfl hb
      simp only [ZZ, YY, Ze, ite_true, ite_false, forall_const, reduceCtorEq, Nat.reduceAdd, Nat.reduceMul, Nat.reduceLeDiff, Nat.reduceLT, Nat.reduceEqDiff]
      refine cut_same (by simp only [ZZ, YY, Ze, ite_true, ite_false, forall_const, reduceCtorEq, Nat.reduceAdd, Nat.reduceMul, Nat.reduceLeDiff, Nat.reduceLT, Nat.reduceEqDiff]) ?_
      simp only [ZZ, YY, Ze, ite_true, ite_false, forall_const, reduceCtorEq, Nat.reduceAdd, Nat.reduceMul, Nat.reduceLeDiff, Nat.reduceLT, Nat.reduceEqDiff]
      ((repeat' (with_reducible apply And.intro)) <;> try ((first | first | assumption | trivial | exact (fun hq => by rw [hq]; rfl) | exact i64_of (by omega) (by omega) | omega | (simp; done) | (simp; omega) | (intro hsc; have hs0 := hsc; (try have hsd := of_decide_eq_true hsc); (try simp only [Bool.not_eq_true', Bool.or_eq_false_iff, Bool.and_eq_true, Bool.or_eq_true, decide_eq_true_eq, decide_eq_false_iff_not] at hsc); (repeat' (with_reducible apply And.intro)) <;> (first | assumption | trivial | exact (fun hq => by rw [hq]; rfl) | exact i64_of (by omega) (by omega) | omega | (simp; done) | (simp; omega) | (intro hse; simp [hse, hs0]; done) | (intro hse; simp only [hse, hs0, Bool.true_and, Bool.and_true, Bool.not_false, Bool.not_true, Bool.and_self]; done))))))
      refine end_round (t.length + 1 - (i + 1)) [.p (.str t), .any, .any, .row (.l 3), .p (int ((i + 1) : Nat)), .any, .any, .any, .any, .any, .any, .any, .any, .any, .any, .any, .any, .any, .any, .any, .any, .any, .any, .any, .any, .any, .any, .any, .any, .any, .any, .any, .any, .any, .any, .any, .any, .any] [(.l 3, .row (l.map spn) tSpan 2 true)] (by omega) (by (simp only [ZZ, YY, Ze, ite_true, ite_false, forall_const, reduceCtorEq, Nat.reduceAdd, Nat.reduceMul, Nat.reduceLeDiff, Nat.reduceLT, Nat.reduceEqDiff]; try trivial)) (by (simp only [ZZ, YY, Ze, ite_true, ite_false, forall_const, reduceCtorEq, Nat.reduceAdd, Nat.reduceMul, Nat.reduceLeDiff, Nat.reduceLT, Nat.reduceEqDiff]; try trivial)) ⟨i + 1, l, rfl, by omega, by omega, by rw [← hl, hnx], rfl, rfl⟩
    · intro hb
      have hb : Sp.isLet t[i] = true := by rw [← letB_spec]; simpa using hb
      have hnx := Sp.wsp_let t i none hlt _ rfl hb
      simp only [ZZ, YY, Ze, ite_true, ite_false, forall_const, reduceCtorEq, Nat.reduceAdd, Nat.reduceMul, Nat.reduceLeDiff, Nat.reduceLT, Nat.reduceEqDiff]
      refine loop_intro (fun n fr L => ∃ (k : Nat), t.length - k = n ∧ (i ≤ k ∧ k ≤ t.length) ∧ (i < k → Sp.wsp i none (t.drop i) = Sp.wsp k (some i) (t.drop k)) ∧ fr = [.p (.str t), .any, .any, .row (.l 3), .p (int (i : Nat)), .p (int (k : Nat)), .any, .any, .any, .any, .any, .any, .any, .any, .any, .any, .any, .any, .any, .any, .any, .any, .any, .any, .any, .any, .any, .any, .any, .any, .any, .any, .any, .any, .any, .any, .any, .any] ∧ L = [(.l 3, .row (l.map spn) tSpan 2 true)]) (t.length - i) [.p (.str t), .any, .any, .row (.l 3), .p (int (i : Nat)), .p (int (i : Nat)), .any, .any, .any, .any, .any, .any, .any, .any, .any, .any, .any, .any, .any, .any, .any, .any, .any, .any, .any, .any, .any, .any, .any, .any, .any, .any, .any, .any, .any, .any, .any, .any] [(.l 3, .row (l.map spn) tSpan 2 true)] (by (simp only [ZZ, YY, Ze, ite_true, ite_false, forall_const, reduceCtorEq, Nat.reduceAdd, Nat.reduceMul, Nat.reduceLeDiff, Nat.reduceLT, Nat.reduceEqDiff]; try trivial)) (by (simp only [ZZ, YY, Ze, ite_true, ite_false, forall_const, reduceCtorEq, Nat.reduceAdd, Nat.reduceMul, Nat.reduceLeDiff, Nat.reduceLT, Nat.reduceEqDiff]; try trivial)) ⟨i, rfl, by omega, by omega, rfl, rfl⟩ ?_
      rintro n fr L ⟨k, rfl, hk1, hk2, rfl, rfl⟩
      simp only [ir_chaseref1_wordSpans_L1, ZZ, YY, Ze, ite_true, ite_false, forall_const, reduceCtorEq, Nat.reduceAdd, Nat.reduceMul, Nat.reduceLeDiff, Nat.reduceLT, Nat.reduceEqDiff]
      ((repeat' (with_reducible apply And.intro)) <;> try ((first | first | assumption | trivial | exact (fun hq => by rw [hq]; rfl) | exact i64_of (by omega) (by omega) | omega | (simp; done) | (simp; omega) | (intro hsc; have hs0 := hsc; (try have hsd := of_decide_eq_true hsc); (try simp only [Bool.not_eq_true', Bool.or_eq_false_iff, Bool.and_eq_true, Bool.or_eq_true, decide_eq_true_eq, decide_eq_false_iff_not] at hsc); (repeat' (with_reducible apply And.intro)) <;> (first | assumption | trivial | exact (fun hq => by rw [hq]; rfl) | exact i64_of (by omega) (by omega) | omega | (simp; done) | (simp; omega) | (intro hse; simp [hse, hs0]; done) | (intro hse; simp only [hse, hs0, Bool.true_and, Bool.and_true, Bool.not_false, Bool.not_true, Bool.and_self]; done))))))
      refine useG (fun _ => wordByte_ok (t.getD k 0)) rfl (.inl rfl) ?_
      simp only [ZZ, YY, Ze, ite_true, ite_false, forall_const, reduceCtorEq, Nat.reduceAdd, Nat.reduceMul, Nat.reduceLeDiff, Nat.reduceLT, Nat.reduceEqDiff]
      ((repeat' (with_reducible apply And.intro)) <;> try ((first | first | assumption | trivial | exact (fun hq => by rw [hq]; rfl) | exact i64_of (by omega) (by omega) | omega | (simp; done) | (simp; omega) | (intro hsc; have hs0 := hsc; (try have hsd := of_decide_eq_true hsc); (try simp only [Bool.not_eq_true', Bool.or_eq_false_iff, Bool.and_eq_true, Bool.or_eq_true, decide_eq_true_eq, decide_eq_false_iff_not] at hsc); (repeat' (with_reducible apply And.intro)) <;> (first | assumption | trivial | exact (fun hq => by rw [hq]; rfl) | exact i64_of (by omega) (by omega) | omega | (simp; done) | (simp; omega) | (intro hse; simp [hse, hs0]; done) | (intro hse; simp only [hse, hs0, Bool.true_and, Bool.and_true, Bool.not_false, Bool.not_true, Bool.and_self]; done))))))
      refine br ?_ ?_
      · intro hc
        simp only [Bool.and_eq_true, decide_eq_true_eq] at hc
        have hkl : k < t.length := by omega
        have hlk : Sp.isLet t[k] = true := by
          rw [← letB_spec, ← hc.2]
          simp [List.getD, hkl]
        have hnx3 : Sp.wsp i none (t.drop i) = Sp.wsp (k + 1) (some i) (t.drop (k + 1)) := by
          rcases Nat.lt_or_ge i k with h' | h'
          · rw [hk2 h', Sp.wsp_let t k (some i) hkl _ rfl hlk]
            rfl
          · have e : k = i := by omega
            subst e
            exact hnx
        simp only [ZZ, YY, Ze, ite_true, ite_false, forall_const, reduceCtorEq, Nat.reduceAdd, Nat.reduceMul, Nat.reduceLeDiff, Nat.reduceLT, Nat.reduceEqDiff]
        ((repeat' (with_reducible apply And.intro)) <;> try ((first | first | assumption | trivial | exact (fun hq => by rw [hq]; rfl) | exact i64_of (by omega) (by omega) | omega | (simp; done) | (simp; omega) | (intro hsc; have hs0 := hsc; (try have hsd := of_decide_eq_true hsc); (try simp only [Bool.not_eq_true', Bool.or_eq_false_iff, Bool.and_eq_true, Bool.or_eq_true, decide_eq_true_eq, decide_eq_false_iff_not] at hsc); (repeat' (with_reducible apply And.intro)) <;> (first | assumption | trivial | exact (fun hq => by rw [hq]; rfl) | exact i64_of (by omega) (by omega) | omega | (simp; done) | (simp; omega) | (intro hse; simp [hse, hs0]; done) | (intro hse; simp only [hse, hs0, Bool.true_and, Bool.and_true, Bool.not_false, Bool.not_true, Bool.and_self]; done))))))
        refine end_round (t.length - (k + 1)) [.p (.str t), .any, .any, .row (.l 3), .p (int (i : Nat)), .p (int ((k + 1) : Nat)), .any, .any, .any, .any, .any, .any, .any, .any, .any, .any, .any, .any, .any, .any, .any, .any, .any, .any, .any, .any, .any, .any, .any, .any, .any, .any, .any, .any, .any, .any, .any, .any] [(.l 3, .row (l.map spn) tSpan 2 true)] (by omega) (by (simp only [ZZ, YY, Ze, ite_true, ite_false, forall_const, reduceCtorEq, Nat.reduceAdd, Nat.reduceMul, Nat.reduceLeDiff, Nat.reduceLT, Nat.reduceEqDiff]; try trivial)) (by (simp only [ZZ, YY, Ze, ite_true, ite_false, forall_const, reduceCtorEq, Nat.reduceAdd, Nat.reduceMul, Nat.reduceLeDiff, Nat.reduceLT, Nat.reduceEqDiff]; try trivial)) ⟨k + 1, rfl, by omega, fun _ => hnx3, rfl, rfl⟩
      · intro hc
        have hik : i < k := by
          rcases Nat.lt_or_ge i k with h' | h'
          · exact h'
          · have e : k = i := by omega
            subst e
            rw [show decide ((k : Int) < t.length) = true from by simp [hlt], Bool.true_and, hgi, letB_spec, hb] at hc
            cases hc
        have hnx2 : Sp.wsp k (some i) (t.drop k) = (i, k) :: Sp.wsp (k + 1) none (t.drop (k + 1)) := by
          by_cases hh : k < t.length
          · refine Sp.wsp_end t k i hh _ rfl ?_
            rw [show decide ((k : Int) < t.length) = true from by simp [hh], Bool.true_and, letB_spec] at hc
            rw [← hc]
            simp [List.getD, hh]
          · exact Sp.wsp_fin t k i (by omega)
        simp only [ZZ, YY, Ze, ite_true, ite_false, forall_const, reduceCtorEq, Nat.reduceAdd, Nat.reduceMul, Nat.reduceLeDiff, Nat.reduceLT, Nat.reduceEqDiff]
        simp only [List.length_map]
        ((repeat' (with_reducible apply And.intro)) <;> try ((first | first | assumption | trivial | exact (fun hq => by rw [hq]; rfl) | exact i64_of (by omega) (by omega) | omega | (simp; done) | (simp; omega) | (intro hsc; have hs0 := hsc; (try have hsd := of_decide_eq_true hsc); (try simp only [Bool.not_eq_true', Bool.or_eq_false_iff, Bool.and_eq_true, Bool.or_eq_true, decide_eq_true_eq, decide_eq_false_iff_not] at hsc); (repeat' (with_reducible apply And.intro)) <;> (first | assumption | trivial | exact (fun hq => by rw [hq]; rfl) | exact i64_of (by omega) (by omega) | omega | (simp; done) | (simp; omega) | (intro hse; simp [hse, hs0]; done) | (intro hse; simp only [hse, hs0, Bool.true_and, Bool.and_true, Bool.not_false, Bool.not_true, Bool.and_self]; done))))))
        refine cut_same (by simp only [ZZ, YY, Ze, ite_true, ite_false, forall_const, reduceCtorEq, Nat.reduceAdd, Nat.reduceMul, Nat.reduceLeDiff, Nat.reduceLT, Nat.reduceEqDiff]) ?_
        simp only [ZZ, YY, Ze, ite_true, ite_false, forall_const, reduceCtorEq, Nat.reduceAdd, Nat.reduceMul, Nat.reduceLeDiff, Nat.reduceLT, Nat.reduceEqDiff]
        ((repeat' (with_reducible apply And.intro)) <;> try ((first | first | assumption | trivial | exact (fun hq => by rw [hq]; rfl) | exact i64_of (by omega) (by omega) | omega | (simp; done) | (simp; omega) | (intro hsc; have hs0 := hsc; (try have hsd := of_decide_eq_true hsc); (try simp only [Bool.not_eq_true', Bool.or_eq_false_iff, Bool.and_eq_true, Bool.or_eq_true, decide_eq_true_eq, decide_eq_false_iff_not] at hsc); (repeat' (with_reducible apply And.intro)) <;> (first | assumption | trivial | exact (fun hq => by rw [hq]; rfl) | exact i64_of (by omega) (by omega) | omega | (simp; done) | (simp; omega) | (intro hse; simp [hse, hs0]; done) | (intro hse; simp only [hse, hs0, Bool.true_and, Bool.and_true, Bool.not_false, Bool.not_true, Bool.and_self]; done))))))
        refine end_round (t.length + 1 - (k + 1)) [.p (.str t), .any, .any, .row (.l 3), .p (int ((k + 1) : Nat)), .any, .any, .any, .any, .any, .any, .any, .any, .any, .any, .any, .any, .any, .any, .any, .any, .any, .any, .any, .any, .any, .any, .any, .any, .any, .any, .any, .any, .any, .any, .any, .any, .any] [(.l 3, .row ((l ++ [(((i : Nat) : Int), ((k : Nat) : Int))]).map spn) tSpan 2 true)] (by omega) (by (simp only [ZZ, YY, Ze, ite_true, ite_false, forall_const, reduceCtorEq, Nat.reduceAdd, Nat.reduceMul, Nat.reduceLeDiff, Nat.reduceLT, Nat.reduceEqDiff]; try trivial)) (by rw [List.map_append]; simp only [spn, ZZ, YY, Ze, ite_true, ite_false, forall_const, reduceCtorEq, Nat.reduceAdd, Nat.reduceMul, Nat.reduceLeDiff, Nat.reduceLT, Nat.reduceEqDiff]) ⟨k + 1, l ++ [(((i : Nat) : Int), ((k : Nat) : Int))], rfl, by omega, by rw [List.length_append]; simp; omega, by rw [← hl, hk2 hik, hnx2]; simp [sp2], rfl, rfl⟩
  · intro h
    have hgt : t.length ≤ i := by have := of_decide_eq_false h; omega
    rw [Sp.wsp_out t i hgt] at hl
    simp only [List.map_nil, List.append_nil] at hl
    simp only [ZZ, YY, Ze, ite_true, ite_false, forall_const, reduceCtorEq, Nat.reduceAdd, Nat.reduceMul, Nat.reduceLeDiff, Nat.reduceLT, Nat.reduceEqDiff]
    rw [hl]
    rfl
end
theorem spans_in (t : Sp.Bs) : ∀ (i : Nat) (f : Option Nat), (∀ a, f = some a → a ≤ i) → ∀ p ∈ Sp.wsp i f t, p.1 ≤ p.2 ∧ p.2 ≤ i + t.length := by
  induction t with
  | nil =>
    intro i f hf p hp
    cases f with
    | none => simp [Sp.wsp] at hp
    | some a => simp [Sp.wsp] at hp; subst hp; have := hf a rfl; simp; omega
  | cons c r ih =>
    intro i f hf p hp
    unfold Sp.wsp at hp
    split at hp
    · have := ih (i + 1) _ (by rintro a ⟨⟩; cases f with | none => simp | some b => have := hf b rfl; simp; omega) p hp
      simp; omega
    · cases f with
      | none => have := ih (i + 1) none (by simp) p hp; simp; omega
      | some a =>
        simp at hp
        rcases hp with rfl | hp
        · have := hf a rfl; simp; omega
        · have := ih (i + 1) none (by simp) p hp; simp; omega
theorem spans_bd (t : Sp.Bs) (p : Nat × Nat) (hp : p ∈ Sp.spans t) : p.1 ≤ p.2 ∧ p.2 ≤ t.length := by
  have := spans_in t 0 none (by simp) p hp
  omega

section
variable {E : Envt}
theorem WordsOf_ok (t : List UInt8) (ht : t.length ≤ 1000000000) : PCall Tryz.prog E 70 [.str t] (· = strs (wordsF t)) := by
  refine pcallF mixed Tryz.func70 ck_chaseref1_WordsOf ?_
  simp only [a0, l0, OS.ao, List.map_cons, List.map_nil, List.length_cons, List.length_nil, List.cons_append, List.nil_append, Nat.reduceSub, Nat.reduceAdd, List.replicate_succ, List.replicate_zero, ir_chaseref1_WordsOf, rs_chaseref1_WordsOf, ZZ, YY, Ze, ite_true, ite_false, forall_const, reduceCtorEq, Nat.reduceAdd, Nat.reduceMul, Nat.reduceLeDiff, Nat.reduceLT, Nat.reduceEqDiff]
  refine use1 (wordSpans_ok t ht) rfl (.inl rfl) ?_
  simp only [ZZ, YY, Ze, ite_true, ite_false, forall_const, reduceCtorEq, Nat.reduceAdd, Nat.reduceMul, Nat.reduceLeDiff, Nat.reduceLT, Nat.reduceEqDiff, sps]
  have hsl := Sp.spans_len t
  have hln : ((spansI t).map spn).length = (Sp.spans t).length := by simp [spansI]
  have hget : ∀ k p, (Sp.spans t)[k]? = some p → ((spansI t).map spn).getD k [] = [int (p.1 : Nat), int (p.2 : Nat)] := fun k p hp => by
    rw [show (spansI t).map spn = (Sp.spans t).map (fun p => [int (p.1 : Nat), int (p.2 : Nat)]) from by simp [spansI, sp2, spn]]
    exact getD_map hp
  generalize (spansI t).map spn = es at hln hget ⊢
  refine loop_intro (fun n fr L => ∃ (k : Nat) (l : List (List UInt8)), k ≤ (Sp.spans t).length ∧ n = (Sp.spans t).length - k ∧ (l = ((Sp.spans t).take k).map (wordF t)) ∧ fr = [.p (.str t), .any, .any, .row (.l 3), .any, .any, .any, .p (.sl 2 es), .p (int ((Sp.spans t).length : Nat)), .p (int (k : Nat)), .any, .any, .any, .any, .any, .any, .any, .any, .any, .any, .any, .any, .any, .any, .any] ∧ L = [(.l 3, .row (strE l) tStr 1 true)]) ((Sp.spans t).length) [.p (.str t), .any, .any, .row (.l 3), .any, .any, .any, .p (.sl 2 es), .p (int ((Sp.spans t).length : Nat)), .p (int (0 : Nat)), .any, .any, .any, .any, .any, .any, .any, .any, .any, .any, .any, .any, .any, .any, .any] [(.l 3, .row (strE []) tStr 1 true)] (by simp only [hln, ZZ, YY, Ze, ite_true, ite_false, forall_const, reduceCtorEq, Nat.reduceAdd, Nat.reduceMul, Nat.reduceLeDiff, Nat.reduceLT, Nat.reduceEqDiff]; try trivial) (by (simp only [ZZ, YY, Ze, ite_true, ite_false, forall_const, reduceCtorEq, Nat.reduceAdd, Nat.reduceMul, Nat.reduceLeDiff, Nat.reduceLT, Nat.reduceEqDiff]; try trivial)) ⟨0, [], by omega, by omega, by simp, rfl, rfl⟩ ?_
  rintro n fr L ⟨k, l, hk, rfl, hl, rfl, rfl⟩
  simp only [ir_chaseref1_WordsOf_L0, ZZ, YY, Ze, ite_true, ite_false, forall_const, reduceCtorEq, Nat.reduceAdd, Nat.reduceMul, Nat.reduceLeDiff, Nat.reduceLT, Nat.reduceEqDiff]
  refine br ?_ ?_
  · intro h
    have hlt : k < (Sp.spans t).length := by have := of_decide_eq_true h; omega
    obtain ⟨p, hp⟩ : ∃ x, (Sp.spans t)[k]? = some x := ⟨_, List.getElem?_eq_getElem hlt⟩
    have hg := hget k p hp
    obtain ⟨hp1, hp2⟩ := spans_bd t p (List.mem_of_getElem? hp)
    have hlk : l.length = k := by rw [hl]; simp; omega
    simp only [ZZ, YY, Ze, ite_true, ite_false, forall_const, reduceCtorEq, Nat.reduceAdd, Nat.reduceMul, Nat.reduceLeDiff, Nat.reduceLT, Nat.reduceEqDiff, hg, hln]
    ((repeat' (with_reducible apply And.intro)) <;> try ((first | first | assumption | trivial | exact (fun hq => by rw [hq]; rfl) | exact i64_of (by omega) (by omega) | omega | (simp; done) | (simp; omega) | (intro hsc; have hs0 := hsc; (try have hsd := of_decide_eq_true hsc); (try simp only [Bool.not_eq_true', Bool.or_eq_false_iff, Bool.and_eq_true, Bool.or_eq_true, decide_eq_true_eq, decide_eq_false_iff_not] at hsc); (repeat' (with_reducible apply And.intro)) <;> (first | assumption | trivial | exact (fun hq => by rw [hq]; rfl) | exact i64_of (by omega) (by omega) | omega | (simp; done) | (simp; omega) | (intro hse; simp [hse, hs0]; done) | (intro hse; simp only [hse, hs0, Bool.true_and, Bool.and_true, Bool.not_false, Bool.not_true, Bool.and_self]; done))))))
    refine use1 (lowerR_ok (Sp.part t (p.1, p.2)) (by have := Sp.part_len t p.1 p.2; omega)) rfl (.inl rfl) ?_
    simp only [ZZ, YY, Ze, ite_true, ite_false, forall_const, reduceCtorEq, Nat.reduceAdd, Nat.reduceMul, Nat.reduceLeDiff, Nat.reduceLT, Nat.reduceEqDiff]
    simp only [strE_len, strE_one, ← strE_app]
    ((repeat' (with_reducible apply And.intro)) <;> try ((first | first | assumption | trivial | exact (fun hq => by rw [hq]; rfl) | exact i64_of (by omega) (by omega) | omega | (simp; done) | (simp; omega) | (intro hsc; have hs0 := hsc; (try have hsd := of_decide_eq_true hsc); (try simp only [Bool.not_eq_true', Bool.or_eq_false_iff, Bool.and_eq_true, Bool.or_eq_true, decide_eq_true_eq, decide_eq_false_iff_not] at hsc); (repeat' (with_reducible apply And.intro)) <;> (first | assumption | trivial | exact (fun hq => by rw [hq]; rfl) | exact i64_of (by omega) (by omega) | omega | (simp; done) | (simp; omega) | (intro hse; simp [hse, hs0]; done) | (intro hse; simp only [hse, hs0, Bool.true_and, Bool.and_true, Bool.not_false, Bool.not_true, Bool.and_self]; done))))))
    refine end_round ((Sp.spans t).length - (k + 1)) [.p (.str t), .any, .any, .row (.l 3), .any, .any, .any, .p (.sl 2 es), .p (int ((Sp.spans t).length : Nat)), .p (int ((k + 1) : Nat)), .any, .any, .any, .any, .any, .any, .any, .any, .any, .any, .any, .any, .any, .any, .any] [(.l 3, .row (strE (l ++ [lowF (Sp.part t (p.1, p.2))])) tStr 1 true)] (by omega) (by (simp only [ZZ, YY, Ze, ite_true, ite_false, forall_const, reduceCtorEq, Nat.reduceAdd, Nat.reduceMul, Nat.reduceLeDiff, Nat.reduceLT, Nat.reduceEqDiff]; try trivial)) (by (simp only [ZZ, YY, Ze, ite_true, ite_false, forall_const, reduceCtorEq, Nat.reduceAdd, Nat.reduceMul, Nat.reduceLeDiff, Nat.reduceLT, Nat.reduceEqDiff]; try trivial)) ⟨k + 1, l ++ [lowF (Sp.part t (p.1, p.2))], by omega, rfl, by rw [hl, List.take_succ_eq_append_getElem hlt, (List.getElem?_eq_some_iff.1 hp).2, List.map_append]; rfl, rfl, rfl⟩
  · intro h
    have hge : (Sp.spans t).length ≤ k := by have := of_decide_eq_false h; omega
    rw [List.take_of_length_le hge] at hl
    simp only [ZZ, YY, Ze, ite_true, ite_false, forall_const, reduceCtorEq, Nat.reduceAdd, Nat.reduceMul, Nat.reduceLeDiff, Nat.reduceLT, Nat.reduceEqDiff]
    rw [strs_eq, hl]
    rfl
end
end Go.Proofs.YthfpehmbellmcaaGreatDoor

/- strings.IndexRune at a rune beyond ASCII in an ASCII string; strings.IndexAny of any string at ASCII letters. -/
namespace Go.Proofs.YthfpehmbellmcaaGreatDoor
open Go.Shelf Go.RowKit Go.Lib
set_option linter.unusedVariables false
set_option linter.unusedSimpArgs false
set_option linter.defProp false

theorem indexByte_absent {l : List UInt8} {c : UInt8} (h : ∀ b ∈ l, b ≠ c) : Lib.indexByte l c = -1 := by
  have h1 := Lib.contains_iff_indexByte l c
  have h2 : l.contains c = false := by
    rw [Bool.eq_false_iff]
    intro h3
    exact h c (by simpa using h3) rfl
  rw [h2] at h1
  have h3 : ¬ (0 : Int) ≤ Lib.indexByte l c := of_decide_eq_false h1.symm
  have h4 : -1 ≤ Lib.indexByte l c := by rw [← Lib.indexAny_one]; exact Lib.indexAny_ge _ _
  omega

def Asc (s : ByteArray) : Prop := ∀ (j : Nat) (b : UInt8), s.data.toList[j]? = some b → b.toNat < 128
theorem Asc.rest {s : ByteArray} (h : Asc s) (i : Nat) {c : UInt8} (hc : 128 ≤ c.toNat) : Lib.indexByte (s.extract i s.size).data.toList c = -1 := by
  refine indexByte_absent fun b hb e => ?_
  have hb := mem_extract hb
  obtain ⟨j, hj⟩ := List.getElem?_of_mem hb
  have := h j b hj
  rw [e] at this
  omega

section
variable {P : Program} {ρ : Ren}
end
end Go.Proofs.YthfpehmbellmcaaGreatDoor

/- strings.Split at one byte: its pieces. -/
namespace Go.Proofs.YthfpehmbellmcaaGreatDoor
open Go.RowKit
set_option linter.unusedVariables false
set_option linter.unusedSimpArgs false
set_option linter.defProp false

/-- Pieces. -/
def splF (s : List UInt8) (c : UInt8) : List (List UInt8) := (Lib.splitB ⟨#[c]⟩ 0 (Lib.countB ⟨s.toArray⟩ ⟨#[c]⟩) ⟨s.toArray⟩).map (·.data.toList)
theorem splitB_sizes (sep : ByteArray) : ∀ (k : Nat) (s : ByteArray), (Lib.splitB sep 0 k s).length ≤ k + 1 ∧ ∀ x ∈ Lib.splitB sep 0 k s, x.size ≤ s.size := by
  intro k
  induction k with
  | zero => intro s; simp [Lib.splitB]
  | succ k ih =>
    intro s
    unfold Lib.splitB
    split
    · simp
    · have := ih (s.extract ((Lib.indexB s sep).toNat + sep.size) s.size)
      refine ⟨by simp; omega, fun x hx => ?_⟩
      simp only [List.mem_cons] at hx
      rcases hx with rfl | hx
      · simp; omega
      · have := this.2 x hx; simp at this; omega
theorem splF_len (s : List UInt8) (c : UInt8) : (splF s c).length ≤ s.length + 1 := by
  have h1 := (splitB_sizes ⟨#[c]⟩ (Lib.countB ⟨s.toArray⟩ ⟨#[c]⟩) ⟨s.toArray⟩).1
  have h2 := Lib.countB_le ⟨#[c]⟩ (Nat.le_refl 1) (⟨s.toArray⟩ : ByteArray).size ⟨s.toArray⟩ (Nat.le_refl _)
  rw [ba_size] at h2
  simp only [splF, List.length_map]
  omega
theorem splF_mem (s : List UInt8) (c : UInt8) : ∀ x ∈ splF s c, x.length ≤ s.length := by
  intro x hx
  simp only [splF, List.mem_map] at hx
  obtain ⟨y, hy, rfl⟩ := hx
  have := (splitB_sizes ⟨#[c]⟩ (Lib.countB ⟨s.toArray⟩ ⟨#[c]⟩) ⟨s.toArray⟩).2 y hy
  rw [ba_size] at this
  rw [Array.length_toList]
  exact this
theorem repE_strs' {w : World} {U : Nat → Prop} {b : Nat} : ∀ (l : List ByteArray) (off : Nat), (∀ i x, l[i]? = some x → w.cell? ⟨b, off + i, none⟩ = some (.string x)) → PRepE w U b 1 off ((l.map (·.data.toList)).map fun x => [.str x])
  | [], off, h => trivial
  | x :: r, off, h => by
    refine ⟨rfl, ⟨⟨.string x, by simpa using h 0 _ rfl, rfl, ?_⟩, trivial⟩, repE_strs' r (off + 1) fun i u hu => ?_⟩
    · simp [PRep]
    · have := h (i + 1) u (by simpa using hu)
      rwa [show off + (i + 1) = off + 1 + i from by omega] at this
theorem splInfo : (Tryz.prog.info? 9).map (fun i => (i.zero, i.size, i.bytes)) = some (some (.string ByteArray.empty), 1, 16) := by kernel_rfl
theorem Split_ok (s : List UInt8) (c : UInt8) (hs : s.length ≤ 1000000000) : PCall Tryz.prog E0 87 [.str s, .str [c]] (· = strs (splF s c)) := by
  intro w U vs hU hE hEb hA
  obtain ⟨_, m, hm⟩ := hE
  simp only [PRepL, PRep] at hA
  obtain ⟨v, r, rfl, rfl, v2, r2, rfl, rfl, rfl⟩ := hA
  refine (Any.strings_Split Tryz.laySplit splInfo ⟨s.toArray⟩ ⟨#[c]⟩ m w (by rw [ba_size]; omega) hm (Nat.le_refl 1)).mono ?_
  rintro e w' ⟨rfl, rfl⟩
  have hl := Lib.splitB_all ⟨#[c]⟩ (Nat.le_refl 1) 0 _ (⟨s.toArray⟩ : ByteArray) rfl
  refine ⟨_, _, rfl, rfl, ?_, ⟨rfl, rfl, rfl, by simp, fun k hk _ => Lib.alloc_old w _ k hk⟩⟩
  have hln : (List.map (fun x => [PV.str x]) (splF s c)).length = Lib.countB ⟨s.toArray⟩ ⟨#[c]⟩ + 1 := by simp [splF, hl]
  refine ⟨some ⟨w.heap.size, 0, none⟩, Lib.countB ⟨s.toArray⟩ ⟨#[c]⟩ + 1, by rw [hln], by rw [hln]; exact Nat.le_refl _, fun _ => ⟨w.heap.size, 0, rfl, by simp, fun h => by have := hU _ h; omega, ?_⟩⟩
  · refine repE_strs' _ 0 fun i x hx => ?_
    rw [Lib.cell_of_heap (heap_alloc_new w _)]
    simp [hx]
end Go.Proofs.YthfpehmbellmcaaGreatDoor

/- Sets of bytes, cuts and splits of strings. -/
namespace Go.Proofs.YthfpehmbellmcaaGreatDoor
open Go.RowKit
set_option linter.unusedVariables false
set_option linter.unusedSimpArgs false
set_option linter.defProp false

/- paperchase/chaseref1.made -/
def ir_chaseref1_made : IC :=
  (.seq (.reg [⟨some 4, .mov (.c (.bool false)), none⟩])
    (.seq (.reg [⟨some 5, .mov (.t 0), none⟩,
      ⟨some 6, .mov (.t 1), none⟩,
      ⟨some 7, .call 42 [.t 5, .t 6], none⟩,
      ⟨some 8, .bin .eql (.t 7) (.c (.str [])), none⟩,
      ⟨some 4, .mov (.t 8), none⟩])
    .ret))
def rs_chaseref1_made : List IRes := [.t 4]
theorem ck_chaseref1_made : chkF Tryz.prog Tryz.f154 ir_chaseref1_made rs_chaseref1_made 9 = true := by kernel_rfl


def madeF (s of : List UInt8) : Bool := decide (Lib.trimS s of = [])
theorem dropW_nil {p : UInt8 → Bool} : ∀ {l : List UInt8}, l.dropWhile p = [] ↔ l.all p = true
  | [] => by simp
  | x :: r => by
    simp only [List.dropWhile, List.all_cons]
    cases h : p x
    · simp
    · simpa using dropW_nil (l := r)
theorem madeF_all (s of : List UInt8) : madeF s of = s.all (fun c => of.contains c) := by
  rw [Bool.eq_iff_iff, madeF, decide_eq_true_iff, Lib.trimS, Lib.trimLeftS, Lib.trimRightS, dropW_nil]
  constructor
  · intro h
    have h2 : ∀ l : List UInt8, (l.dropWhile fun c => of.contains c).all (fun c => of.contains c) = true → l.all (fun c => of.contains c) = true := by
      intro l
      induction l with
      | nil => simp
      | cons x r ih =>
        simp only [List.dropWhile]
        cases hx : of.contains x
        · intro h; exact h
        · intro h; simp only [List.all_cons, hx, Bool.true_and]; exact ih h
    have := h2 s.reverse (by simpa [List.all_reverse] using h)
    simpa [List.all_reverse] using this
  · intro h
    have : (s.reverse.dropWhile fun c => of.contains c) = [] := dropW_nil.2 (by simpa [List.all_reverse] using h)
    rw [this]
    simp
section
variable {E : Envt}
def asc (l : List UInt8) : Bool := l.all fun b => decide (b.toNat < 128)
theorem asc_at {l : List UInt8} (h : asc l = true) : ∀ (j : Nat) b, (⟨l.toArray⟩ : ByteArray).data.toList[j]? = some b → b.toNat < 128 :=
  fun _ b hb => of_decide_eq_true (List.all_eq_true.1 h b (List.mem_of_getElem? (by simpa using hb)))
theorem TrimSet_ok (s cs : List UInt8) (hs : s.length ≤ 1000000000) (hcs : cs.length ≤ 1000000) (h2 : asc cs = true) : PCall Tryz.prog E 42 [.str s, .str cs] (· = .str (Lib.trimS s cs)) :=
  pcall_flat rfl rfl fun w _ => (Any.strings_Trim_laid Tryz.layTrim (by kernel_rfl) ⟨s.toArray⟩ ⟨cs.toArray⟩ w (by rw [ba_size]; omega) (by rw [ba_size]; omega) (asc_at h2)).mono fun e w' h => ⟨h.1, grow_below h.2⟩
theorem made_ok (s of : List UInt8) (hs : s.length ≤ 1000000000) (ho : of.length ≤ 1000) (ha : asc of = true) : PCall Tryz.prog E 154 [.str s, .str of] (· = .bool (madeF s of)) := by
  refine pcallF mixed Tryz.func154 ck_chaseref1_made ?_
  simp only [a0, l0, OS.ao, List.map_cons, List.map_nil, List.length_cons, List.length_nil, List.cons_append, List.nil_append, Nat.reduceSub, Nat.reduceAdd, List.replicate_succ, List.replicate_zero, ir_chaseref1_made, rs_chaseref1_made, ZZ, YY, Ze, ite_true, ite_false, forall_const, reduceCtorEq, Nat.reduceAdd, Nat.reduceMul, Nat.reduceLeDiff, Nat.reduceLT, Nat.reduceEqDiff]
  refine use1 (TrimSet_ok s of hs (by omega) ha) rfl (.inl rfl) ?_
  simp only [ZZ, YY, Ze, ite_true, ite_false, forall_const, reduceCtorEq, Nat.reduceAdd, Nat.reduceMul, Nat.reduceLeDiff, Nat.reduceLT, Nat.reduceEqDiff]
  rfl

end
end Go.Proofs.YthfpehmbellmcaaGreatDoor

/- Sets as maps. -/
namespace Go.Proofs.YthfpehmbellmcaaGreatDoor
set_option linter.unusedVariables false
set_option linter.unusedSimpArgs false
set_option linter.defProp false

theorem mpF_mpS : ∀ (kv : List (List UInt8 × PV)) (s t : List UInt8) (v : PV), mpF (mpS kv s v) t = if s = t then some v else mpF kv t
  | [], s, t, v => by simp [mpS, mpF]
  | p :: r, s, t, v => by
    simp only [mpS]
    split
    · rename_i h
      by_cases hs : s = t
      · simp [mpF, hs]
      · simp [mpF, hs, h]
    · rename_i h
      simp only [mpF, mpF_mpS r s t v]
      by_cases hp : p.1 = t
      · have : ¬ s = t := fun e => h (hp.trans e.symm)
        simp [hp, this]
      · simp [hp]
/-- A map that is a set. -/
def setOf (kv : List (List UInt8 × PV)) (W : List (List UInt8)) : Prop := ∀ w, mpD kv w (.bool false) = .bool (decide (w ∈ W))
theorem setOf_nil : setOf [] [] := fun w => by simp [mpD, mpF]
theorem setOf_put {kv : List (List UInt8 × PV)} {W : List (List UInt8)} (h : setOf kv W) (s : List UInt8) : setOf (mpS kv s (.bool true)) (W ++ [s]) := fun w => by
  have h := h w
  unfold mpD at h ⊢
  rw [mpF_mpS]
  by_cases hs : s = w
  · simp [hs]
  · have hw : ¬ w = s := fun e => hs e.symm
    rw [if_neg hs, h]
    simp [hw]
end Go.Proofs.YthfpehmbellmcaaGreatDoor

/- Pieces of strings between bytes, in plain Lean. -/
namespace Go.Proofs.YthfpehmbellmcaaGreatDoor
open Go.RowKit
set_option linter.unusedVariables false
set_option linter.unusedSimpArgs false
set_option linter.defProp false

/-- The pieces of a string between bytes c. -/
def sp (c : UInt8) : List UInt8 → List (List UInt8)
  | [] => [[]]
  | x :: s => if x = c then [] :: sp c s else (x :: (sp c s).headD []) :: (sp c s).tail
theorem sp_ne (c : UInt8) (s : List UInt8) : sp c s ≠ [] := by
  cases s with
  | nil => simp [sp]
  | cons x s => unfold sp; split <;> simp
theorem split_miss {s : List UInt8} {c : UInt8} (h : Lib.index s [c] = -1) : Lib.split s [c] = [s] := by
  unfold Lib.split
  rw [Lib.count_miss h]
  rfl
theorem split_hit {s : List UInt8} {c : UInt8} {i : Nat} (h : Lib.index s [c] = i) : Lib.split s [c] = s.take i :: Lib.split (s.drop (i + 1)) [c] := by
  unfold Lib.split
  rw [Lib.count_hit (by simp) h, Nat.add_comm, Lib.splitK, if_neg (by rw [h]; simp), h]
  simp
theorem split_sp (c : UInt8) : ∀ s : List UInt8, Lib.split s [c] = sp c s := by
  intro s
  induction s with
  | nil => rw [split_miss (by rfl)]; rfl
  | cons x s ih =>
    by_cases hx : x = c
    · subst hx
      have h0 : Lib.index (x :: s) [x] = ((0 : Nat) : Int) := by rw [Lib.index_one]; simp [Lib.indexByte]
      rw [split_hit h0, sp, if_pos rfl, ← ih]
      simp
    · have hi : Lib.index (x :: s) [c] = if Lib.index s [c] = -1 then -1 else Lib.index s [c] + 1 := by
        rw [Lib.index_one, Lib.index_one, Lib.indexByte]
        simp [hx]
      rw [sp, if_neg hx, ← ih]
      by_cases hm : Lib.index s [c] = -1
      · rw [if_pos hm] at hi
        rw [split_miss hi, split_miss hm]
        rfl
      · rw [if_neg hm] at hi
        have hge := Lib.indexByte_ge s c
        rw [← Lib.index_one] at hge
        obtain ⟨i, hi2⟩ : ∃ i : Nat, Lib.index s [c] = i := ⟨(Lib.index s [c]).toNat, by omega⟩
        rw [hi2] at hi
        rw [split_hit (i := i + 1) (by rw [hi]; simp), split_hit hi2]
        simp
theorem splF_sp (s : List UInt8) (c : UInt8) : splF s c = sp c s := by
  rw [← split_sp]
  unfold splF Lib.split
  rw [Lib.splitB_data]
/-- What pieces weigh: their bytes, and one more for each. -/
def wgt : List (List UInt8) → Nat
  | [] => 0
  | x :: r => x.length + 1 + wgt r
theorem wgt_app (a b : List (List UInt8)) : wgt (a ++ b) = wgt a + wgt b := by
  induction a with
  | nil => simp [wgt]
  | cons x a ih => simp only [List.cons_append, wgt, ih]; omega
theorem wgt_filter (p : List UInt8 → Bool) (a : List (List UInt8)) : wgt (a.filter p) ≤ wgt a := by
  induction a with
  | nil => simp [wgt]
  | cons x a ih =>
    rw [List.filter_cons]
    split
    · simp only [wgt]; omega
    · simp only [wgt]; omega
theorem wgt_len (a : List (List UInt8)) : a.length ≤ wgt a := by
  induction a with
  | nil => simp
  | cons x a ih => simp only [wgt, List.length_cons]; omega
theorem sp_wgt (c : UInt8) : ∀ s : List UInt8, wgt (sp c s) = s.length + 1 := by
  intro s
  induction s with
  | nil => simp [sp, wgt]
  | cons y s ih =>
    rw [sp]
    split
    · simp only [wgt, ih, List.length_cons, List.length_nil]; omega
    · cases h : sp c s with
      | nil => exact absurd h (sp_ne c s)
      | cons z r =>
        rw [h] at ih
        simp only [wgt, List.headD_cons, List.tail_cons, List.length_cons] at ih ⊢
        omega
end Go.Proofs.YthfpehmbellmcaaGreatDoor

/- Tokens of strings, on both sides. -/
namespace Go.Proofs.YthfpehmbellmcaaGreatDoor
open Go.RowKit
set_option linter.unusedVariables false
set_option linter.unusedSimpArgs false
set_option linter.defProp false

theorem splF_wgt (s : List UInt8) (c : UInt8) : wgt (splF s c) = s.length + 1 := by rw [splF_sp, sp_wgt]
theorem wgt_stepS : ∀ (l : List (List UInt8)) (k : Nat), k < l.length → wgt (l.take (k + 1)) = wgt (l.take k) + (l.getD k []).length + 1
  | [], k, h => by simp at h
  | x :: r, 0, h => by simp [wgt]
  | x :: r, k + 1, h => by
    have := wgt_stepS r k (by simpa using h)
    simp only [List.take_succ_cons, wgt, List.getD_cons_succ] at this ⊢
    omega
end Go.Proofs.YthfpehmbellmcaaGreatDoor
