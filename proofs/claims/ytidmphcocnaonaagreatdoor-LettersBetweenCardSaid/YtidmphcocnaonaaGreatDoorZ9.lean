
/- Own texts, put together: N6 N3 W4 W5 W6 N4 N7 N8. -/
import Derived.Test.YtidmphcocnaonaaGreatDoorZ6
import Derived.Test.YtidmphcocnaonaaGreatDoorZ5
import Derived.Test.YtidmphcocnaonaaGreatDoorZ4
import Derived.Test.YtidmphcocnaonaaGreatDoorZ8
import Derived.Test.YtidmphcocnaonaaGreatDoorZ3
import Derived.Test.YtidmphcocnaonaaGreatDoorLaySort
import Derived.Test.YtidmphcocnaonaaGreatDoorLayCompact
import Derived.Lib.OwnBridge
import Derived.WalkKit
import Derived.Test.YtidmphcocnaonaaGreatDoorZ7
/- What is wrong with a body. -/
namespace Go.Proofs.YtidmphcocnaonaaGreatDoor
open Go.RowKit
set_option linter.unusedVariables false
set_option linter.unusedSimpArgs false
set_option linter.defProp false

/- paperchase/thread.checkBody -/
def ir_thread_checkBody : IC :=
  (.seq (.reg [⟨some 2, .mov (.c (.int .i64 0)), none⟩])
    (.seq (.reg [⟨some 3, .mov (.t 0), none⟩,
      ⟨some 4, .sln (.t 3), none⟩,
      ⟨some 5, .bin .gtr (.t 4) (.c (.int .i64 20000)), none⟩,
      ⟨some 6, .call 69 [.t 5, .c (.int .i64 2)], none⟩,
      ⟨some 7, .mov (.t 0), none⟩,
      ⟨some 8, .call 125 [.t 7], none⟩,
      ⟨some 9, .not (.t 8), none⟩,
      ⟨some 10, .call 69 [.t 9, .c (.int .i64 3)], none⟩,
      ⟨some 11, .bsl 1 [.t 6, .t 10], none⟩,
      ⟨some 12, .call 66 [.t 11], none⟩,
      ⟨some 2, .mov (.t 12), none⟩])
    .ret))
def rs_thread_checkBody : List IRes := [.t 2]
theorem ck_thread_checkBody : chkF Tryz.prog Tryz.f194 ir_thread_checkBody rs_thread_checkBody 13 = true := by kernel_rfl

theorem checkBody_ok (s : List UInt8) (hs : s.length ≤ 1000000000) : PCall Tryz.prog E0 194 [.str s] (· = int (bodyE s)) := by
  refine pcallF mixed Tryz.func194 ck_thread_checkBody ?_
  simp only [a0, l0, OS.ao, List.map_cons, List.map_nil, List.length_cons, List.length_nil, List.cons_append, List.nil_append, Nat.reduceSub, Nat.reduceAdd, List.replicate_succ, List.replicate_zero, ir_thread_checkBody, rs_thread_checkBody, ZZ, YY, Ze, ite_true, ite_false, forall_const, reduceCtorEq, Nat.reduceAdd, Nat.reduceMul, Nat.reduceLeDiff, Nat.reduceLT, Nat.reduceEqDiff]
  refine use1 (When_ok _ 2) rfl (.inl rfl) ?_
  simp only [ZZ, YY, Ze, ite_true, ite_false, forall_const, reduceCtorEq, Nat.reduceAdd, Nat.reduceMul, Nat.reduceLeDiff, Nat.reduceLT, Nat.reduceEqDiff]
  refine use1 (Text_ok s hs) rfl (.inl rfl) ?_
  simp only [ZZ, YY, Ze, ite_true, ite_false, forall_const, reduceCtorEq, Nat.reduceAdd, Nat.reduceMul, Nat.reduceLeDiff, Nat.reduceLT, Nat.reduceEqDiff]
  refine use1 (When_ok _ 3) rfl (.inl rfl) ?_
  simp only [ZZ, YY, Ze, ite_true, ite_false, forall_const, reduceCtorEq, Nat.reduceAdd, Nat.reduceMul, Nat.reduceLeDiff, Nat.reduceLT, Nat.reduceEqDiff]
  refine use1 (First_ok [largeE s, whenE (!textE s) 3] (by simp)) rfl (.inl rfl) ?_
  simp only [ZZ, YY, Ze, ite_true, ite_false, forall_const, reduceCtorEq, Nat.reduceAdd, Nat.reduceMul, Nat.reduceLeDiff, Nat.reduceLT, Nat.reduceEqDiff]
  unfold bodyE largeE whenE
  by_cases h1 : 20000 < s.length
  · simp [firstE, h1, show (20000 : Int) < s.length by omega]
  · by_cases h2 : textE s = true
    · simp [firstE, h1, h2, show ¬ (20000 : Int) < s.length by omega]
    · simp [firstE, h1, h2, show ¬ (20000 : Int) < s.length by omega]
end Go.Proofs.YtidmphcocnaonaaGreatDoor

/- slices.Index and Contains at strings. -/
namespace Go.Proofs.YtidmphcocnaonaaGreatDoor
open Go.RowKit
set_option linter.unusedVariables false
set_option linter.unusedSimpArgs false
set_option linter.defProp false

/- slices.Index[[]string,string] -/
def ir_slices_Index_string_string_L0 : IC :=
  (.seq (.reg [⟨some 9, .bin .lss (.t 8) (.t 7), none⟩])
    (.seq (.cond (.t 9) .skip (.exit 0))
    (.seq (.block 1 (.seq (.reg [⟨some 10, .mov (.t 8), none⟩,
      ⟨some 5, .mov (.t 10), none⟩])
    (.seq (.reg [⟨some 11, .mov (.t 1), none⟩,
      ⟨some 12, .mov (.t 0), none⟩,
      ⟨some 13, .mov (.t 5), none⟩,
      ⟨some 14, .ixa 1 (.t 12) (.t 13), none⟩,
      ⟨some 15, .ld 1 false (.t 14), none⟩,
      ⟨some 16, .bin .eql (.t 11) (.t 15), none⟩])
    (.cond (.t 16) (.seq (.reg [⟨some 17, .mov (.t 5), none⟩,
      ⟨some 4, .mov (.t 17), none⟩])
    .ret) .skip))))
    (.reg [⟨some 18, .bin .add (.t 8) (.c (.int .i64 1)), none⟩,
      ⟨some 8, .mov (.t 18), none⟩]))))
def ir_slices_Index_string_string : IC :=
  (.seq (.reg [⟨some 4, .mov (.c (.int .i64 0)), none⟩])
    (.seq (.seq (.reg [⟨some 6, .mov (.t 0), none⟩,
      ⟨some 7, .len (.t 6), none⟩,
      ⟨some 8, .mov (.c (.int .i64 0)), none⟩])
    (.block 0 (.loop ir_slices_Index_string_string_L0)))
    (.seq (.reg [⟨some 4, .mov (.c (.int .i64 (-1))), none⟩])
    .ret)))
def rs_slices_Index_string_string : List IRes := [.t 4]
theorem ck_slices_Index_string_string : chkF Tryz.prog Tryz.f94 ir_slices_Index_string_string rs_slices_Index_string_string 19 = true := by kernel_rfl

/- slices.Contains[[]string,string] -/
def ir_slices_Contains_string_string : IC :=
  (.seq (.reg [⟨some 4, .mov (.c (.bool false)), none⟩])
    (.seq (.reg [⟨some 5, .mov (.t 0), none⟩,
      ⟨some 6, .mov (.t 1), none⟩,
      ⟨some 7, .call 94 [.t 5, .t 6], none⟩,
      ⟨some 8, .bin .geq (.t 7) (.c (.int .i64 0)), none⟩,
      ⟨some 4, .mov (.t 8), none⟩])
    .ret))
def rs_slices_Contains_string_string : List IRes := [.t 4]
theorem ck_slices_Contains_string_string : chkF Tryz.prog Tryz.f42 ir_slices_Contains_string_string rs_slices_Contains_string_string 9 = true := by kernel_rfl

def idxS (l : List (List UInt8)) (x : List UInt8) (k : Nat) : Int := if h : k < l.length then (if x = l[k] then k else idxS l x (k + 1)) else -1
termination_by l.length - k
theorem IndexS_ok (l : List (List UInt8)) (x : List UInt8) (hl : l.length ≤ 1000000000) : PCall Tryz.prog E0 94 [.sl 1 (strE l), .str x] (· = int (idxS l x 0)) := by
  refine pcallF mixed Tryz.func94 ck_slices_Index_string_string ?_
  simp only [a0, l0, OS.ao, List.map_cons, List.map_nil, List.length_cons, List.length_nil, List.cons_append, List.nil_append, Nat.reduceSub, Nat.reduceAdd, List.replicate_succ, List.replicate_zero, ir_slices_Index_string_string, rs_slices_Index_string_string, ZZ, YY, Ze, ite_true, ite_false, forall_const, reduceCtorEq, Nat.reduceAdd, Nat.reduceMul, Nat.reduceLeDiff, Nat.reduceLT, Nat.reduceEqDiff]
  simp only [ZZ, YY, Ze, ite_true, ite_false, forall_const, reduceCtorEq, Nat.reduceAdd, Nat.reduceMul, Nat.reduceLeDiff, Nat.reduceLT, Nat.reduceEqDiff, strE_len]
  refine loop_intro (fun n fr L => ∃ (k : Nat), k ≤ l.length ∧ n = l.length - k ∧ (idxS l x 0 = idxS l x k) ∧ fr = [.p (.sl 1 (strE l)), .p (.str x), .any, .any, .any, .any, .any, .p (int (l.length : Nat)), .p (int (k : Nat)), .any, .any, .any, .any, .any, .any, .any, .any, .any, .any] ∧ L = []) (l.length) [.p (.sl 1 (strE l)), .p (.str x), .any, .any, .any, .any, .any, .p (int (l.length : Nat)), .p (int (0 : Nat)), .any, .any, .any, .any, .any, .any, .any, .any, .any, .any] [] (by simp only [ZZ, YY, Ze, ite_true, ite_false, forall_const, reduceCtorEq, Nat.reduceAdd, Nat.reduceMul, Nat.reduceLeDiff, Nat.reduceLT, Nat.reduceEqDiff, strE_len]; try trivial) (by (simp only [ZZ, YY, Ze, ite_true, ite_false, forall_const, reduceCtorEq, Nat.reduceAdd, Nat.reduceMul, Nat.reduceLeDiff, Nat.reduceLT, Nat.reduceEqDiff]; try trivial)) ⟨0, by omega, by omega, rfl, rfl, rfl⟩ ?_
  rintro n fr L ⟨k, hk, rfl, hf, rfl, rfl⟩
  simp only [ir_slices_Index_string_string_L0, ZZ, YY, Ze, ite_true, ite_false, forall_const, reduceCtorEq, Nat.reduceAdd, Nat.reduceMul, Nat.reduceLeDiff, Nat.reduceLT, Nat.reduceEqDiff]
  refine br ?_ ?_
  · intro h
    have hlt : k < l.length := by have := of_decide_eq_true h; omega
    have hg := strE_get (List.getElem?_eq_getElem hlt)
    simp only [ZZ, YY, Ze, ite_true, ite_false, forall_const, reduceCtorEq, Nat.reduceAdd, Nat.reduceMul, Nat.reduceLeDiff, Nat.reduceLT, Nat.reduceEqDiff, hg, strE_len]
    ((repeat' (with_reducible apply And.intro)) <;> try ((first | first | assumption | trivial | exact (fun hq => by rw [hq]; rfl) | exact i64_of (by omega) (by omega) | omega | (simp; done) | (simp; omega) | (intro hsc; have hs0 := hsc; (try have hsd := of_decide_eq_true hsc); (try simp only [Bool.not_eq_true', Bool.or_eq_false_iff, Bool.and_eq_true, Bool.or_eq_true, decide_eq_true_eq, decide_eq_false_iff_not] at hsc); (repeat' (with_reducible apply And.intro)) <;> (first | assumption | trivial | exact (fun hq => by rw [hq]; rfl) | exact i64_of (by omega) (by omega) | omega | (simp; done) | (simp; omega) | (intro hse; simp [hse, hs0]; done) | (intro hse; simp only [hse, hs0, Bool.true_and, Bool.and_true, Bool.not_false, Bool.not_true, Bool.and_self]; done))))))
    refine br ?_ ?_
    · intro h2
      have h2 : x = l[k] := of_decide_eq_true h2
      simp only [ZZ, YY, Ze, ite_true, ite_false, forall_const, reduceCtorEq, Nat.reduceAdd, Nat.reduceMul, Nat.reduceLeDiff, Nat.reduceLT, Nat.reduceEqDiff]
      rw [hf, idxS, dif_pos hlt, if_pos h2]
    · intro h2
      have h2 : ¬ x = l[k] := of_decide_eq_false h2
      simp only [ZZ, YY, Ze, ite_true, ite_false, forall_const, reduceCtorEq, Nat.reduceAdd, Nat.reduceMul, Nat.reduceLeDiff, Nat.reduceLT, Nat.reduceEqDiff]
      ((repeat' (with_reducible apply And.intro)) <;> try ((first | first | assumption | trivial | exact (fun hq => by rw [hq]; rfl) | exact i64_of (by omega) (by omega) | omega | (simp; done) | (simp; omega) | (intro hsc; have hs0 := hsc; (try have hsd := of_decide_eq_true hsc); (try simp only [Bool.not_eq_true', Bool.or_eq_false_iff, Bool.and_eq_true, Bool.or_eq_true, decide_eq_true_eq, decide_eq_false_iff_not] at hsc); (repeat' (with_reducible apply And.intro)) <;> (first | assumption | trivial | exact (fun hq => by rw [hq]; rfl) | exact i64_of (by omega) (by omega) | omega | (simp; done) | (simp; omega) | (intro hse; simp [hse, hs0]; done) | (intro hse; simp only [hse, hs0, Bool.true_and, Bool.and_true, Bool.not_false, Bool.not_true, Bool.and_self]; done))))))
      refine end_round (l.length - (k + 1)) [.p (.sl 1 (strE l)), .p (.str x), .any, .any, .any, .any, .any, .p (int (l.length : Nat)), .p (int ((k + 1) : Nat)), .any, .any, .any, .any, .any, .any, .any, .any, .any, .any] [] (by omega) (by (simp only [ZZ, YY, Ze, ite_true, ite_false, forall_const, reduceCtorEq, Nat.reduceAdd, Nat.reduceMul, Nat.reduceLeDiff, Nat.reduceLT, Nat.reduceEqDiff]; try trivial)) (by (simp only [ZZ, YY, Ze, ite_true, ite_false, forall_const, reduceCtorEq, Nat.reduceAdd, Nat.reduceMul, Nat.reduceLeDiff, Nat.reduceLT, Nat.reduceEqDiff]; try trivial)) ⟨k + 1, by omega, rfl, by rw [hf, idxS, dif_pos hlt, if_neg h2], rfl, rfl⟩
  · intro h
    have hge : ¬ k < l.length := by have := of_decide_eq_false h; omega
    simp only [ZZ, YY, Ze, ite_true, ite_false, forall_const, reduceCtorEq, Nat.reduceAdd, Nat.reduceMul, Nat.reduceLeDiff, Nat.reduceLT, Nat.reduceEqDiff]
    rw [hf, idxS, dif_neg hge]
theorem idxS_mem (l : List (List UInt8)) (x : List UInt8) : ∀ (n k : Nat), l.length - k ≤ n → (0 ≤ idxS l x k ↔ x ∈ l.drop k) := by
  intro n
  induction n with
  | zero =>
    intro k hk
    rw [idxS, dif_neg (by omega), List.drop_eq_nil_of_le (by omega)]
    simp
  | succ n ih =>
    intro k hk
    rw [idxS]
    split
    · rename_i h
      rw [List.drop_eq_getElem_cons h, List.mem_cons]
      split
      · rename_i e; simp [e]
      · rename_i e
        rw [ih (k + 1) (by omega)]
        simp [e]
    · rename_i h
      rw [List.drop_eq_nil_of_le (by omega)]
      simp
theorem ContainsS_ok (l : List (List UInt8)) (x : List UInt8) (hl : l.length ≤ 1000000000) : PCall Tryz.prog E0 42 [.sl 1 (strE l), .str x] (· = .bool (decide (x ∈ l))) := by
  refine pcallF mixed Tryz.func42 ck_slices_Contains_string_string ?_
  simp only [a0, l0, OS.ao, List.map_cons, List.map_nil, List.length_cons, List.length_nil, List.cons_append, List.nil_append, Nat.reduceSub, Nat.reduceAdd, List.replicate_succ, List.replicate_zero, ir_slices_Contains_string_string, rs_slices_Contains_string_string, ZZ, YY, Ze, ite_true, ite_false, forall_const, reduceCtorEq, Nat.reduceAdd, Nat.reduceMul, Nat.reduceLeDiff, Nat.reduceLT, Nat.reduceEqDiff]
  refine use1 (IndexS_ok l x hl) rfl (.inl rfl) ?_
  simp only [ZZ, YY, Ze, ite_true, ite_false, forall_const, reduceCtorEq, Nat.reduceAdd, Nat.reduceMul, Nat.reduceLeDiff, Nat.reduceLT, Nat.reduceEqDiff]
  have := idxS_mem l x _ 0 (Nat.le_refl _)
  rw [List.drop_zero] at this
  simp only [this]
end Go.Proofs.YtidmphcocnaonaaGreatDoor

/- A letter is checked: the program's way. -/
namespace Go.Proofs.YtidmphcocnaonaaGreatDoor
open Go.RowKit
set_option linter.unusedVariables false
set_option linter.unusedSimpArgs false
set_option linter.defProp false

/- paperchase/thread.Check -/
def ir_thread_Check_L1 : IC :=
  (.seq (.reg [⟨some 72, .bin .lss (.t 71) (.t 70), none⟩])
    (.seq (.cond (.t 72) .skip (.exit 3))
    (.seq (.block 4 (.seq (.reg [⟨some 73, .mov (.t 71), none⟩,
      ⟨some 74, .ixa 1 (.t 69) (.t 71), none⟩,
      ⟨some 75, .ld 1 false (.t 74), none⟩,
      ⟨some 7, .mov (.t 73), none⟩,
      ⟨some 8, .mov (.t 75), none⟩])
    (.seq (.drg [⟨some 76, .mov (.t 8), none⟩,
      ⟨some 77, .pcall 0 192 [.t 76], none⟩,
      ⟨some 78, .not (.t 77), none⟩,
      ⟨some 79, .pcall 1 69 [.t 78, .c (.int .i64 3)], none⟩,
      ⟨some 80, .fla 6 (.t 1), none⟩,
      ⟨some 81, .ld 1 false (.t 80), none⟩,
      ⟨some 82, .mov (.t 7), none⟩,
      ⟨some 83, .vsl 1 (.t 81) none (some (.t 82)), none⟩,
      ⟨some 84, .mov (.t 8), none⟩,
      ⟨some 85, .pcall 2 42 [.t 83, .t 84], none⟩,
      ⟨some 86, .pcall 3 69 [.t 85, .c (.int .i64 6)], none⟩,
      ⟨some 87, .mov (.t 8), none⟩,
      ⟨some 88, .fla 0 (.t 1), none⟩,
      ⟨some 89, .ld 1 false (.t 88), none⟩,
      ⟨some 90, .bin .eql (.t 87) (.t 89), none⟩,
      ⟨some 91, .pcall 4 69 [.t 90, .c (.int .i64 14)], none⟩,
      ⟨some 92, .bsl 1 [.t 79, .t 86, .t 91], none⟩,
      ⟨some 93, .pcall 5 66 [.t 92], none⟩,
      ⟨some 9, .mov (.t 93), none⟩])
    (.seq (.reg [⟨some 94, .mov (.t 9), none⟩,
      ⟨some 95, .bin .neq (.t 94) (.c (.int .i64 0)), none⟩])
    (.cond (.t 95) (.seq (.reg [⟨some 96, .mov (.t 9), none⟩,
      ⟨some 2, .mov (.t 96), none⟩])
    .ret) .skip)))))
    (.reg [⟨some 97, .bin .add (.t 71) (.c (.int .i64 1)), none⟩,
      ⟨some 71, .mov (.t 97), none⟩]))))
def ir_thread_Check_L0 : IC :=
  (.seq (.reg [⟨some 43, .bin .lss (.t 42) (.t 41), none⟩])
    (.seq (.cond (.t 43) .skip (.exit 1))
    (.seq (.block 2 (.seq (.reg [⟨some 44, .ixa 2 (.t 40) (.t 42), none⟩,
      ⟨some 45, .ld 2 true (.t 44), none⟩,
      ⟨some 5, .alc 71 [.str [], .str []], none⟩,
      ⟨none, .st 2 (.t 5) (.t 45), none⟩])
    (.seq (.seq (.drg [⟨some 46, .ld 2 true (.t 5), none⟩,
      ⟨some 47, .pcall 0 193 [.t 46], none⟩,
      ⟨some 48, .not (.t 47), none⟩,
      ⟨some 49, .pcall 1 69 [.t 48, .c (.int .i64 3)], none⟩,
      ⟨some 50, .mov (.t 3), none⟩,
      ⟨some 51, .fla 1 (.t 5), none⟩,
      ⟨some 52, .ld 1 false (.t 51), none⟩,
      ⟨some 53, .mpl false (.bool false) (.t 50) (.t 52), none⟩,
      ⟨some 54, .pcall 2 69 [.t 53, .c (.int .i64 6)], none⟩,
      ⟨some 55, .bsl 1 [.t 49, .t 54], none⟩,
      ⟨some 56, .pcall 3 66 [.t 55], none⟩,
      ⟨some 6, .mov (.t 56), none⟩])
    (.seq (.reg [⟨some 57, .mov (.t 6), none⟩,
      ⟨some 58, .bin .neq (.t 57) (.c (.int .i64 0)), none⟩])
    (.cond (.t 58) (.seq (.reg [⟨some 59, .mov (.t 6), none⟩,
      ⟨some 2, .mov (.t 59), none⟩])
    .ret) .skip)))
    (.reg [⟨some 60, .mov (.t 3), none⟩,
      ⟨some 61, .fla 1 (.t 5), none⟩,
      ⟨some 62, .ld 1 false (.t 61), none⟩,
      ⟨none, .mpu (.t 60) (.t 62) (.c (.bool true)), none⟩]))))
    (.reg [⟨some 63, .bin .add (.t 42) (.c (.int .i64 1)), none⟩,
      ⟨some 42, .mov (.t 63), none⟩]))))
def ir_thread_Check : IC :=
  (.seq (.reg [⟨some 1, .box 74 (.t 0), none⟩,
      ⟨some 2, .mov (.c (.int .i64 0)), none⟩])
    (.seq (.block 0 (.seq (.reg [⟨some 11, .fla 0 (.t 1), none⟩,
      ⟨some 12, .ld 1 false (.t 11), none⟩,
      ⟨some 13, .call 192 [.t 12], none⟩,
      ⟨some 14, .not (.t 13), none⟩,
      ⟨some 10, .mov (.t 14), none⟩])
    (.cond (.t 10) (.seq (.reg [⟨some 2, .mov (.c (.int .i64 3)), none⟩])
    .ret) (.seq (.reg [⟨some 16, .fla 1 (.t 1), none⟩,
      ⟨some 17, .ld 1 false (.t 16), none⟩,
      ⟨some 18, .call 92 [.t 17], none⟩,
      ⟨some 19, .not (.t 18), none⟩,
      ⟨some 15, .mov (.t 19), none⟩])
    (.cond (.t 15) (.seq (.reg [⟨some 2, .mov (.c (.int .i64 1)), none⟩])
    .ret) (.seq (.reg [⟨some 21, .fla 2 (.t 1), none⟩,
      ⟨some 22, .ld 2 true (.t 21), none⟩,
      ⟨some 23, .call 193 [.t 22], none⟩,
      ⟨some 24, .not (.t 23), none⟩,
      ⟨some 20, .mov (.t 24), none⟩])
    (.cond (.t 20) (.seq (.reg [⟨some 2, .mov (.c (.int .i64 3)), none⟩])
    .ret) (.seq (.reg [⟨some 26, .fla 4 (.t 1), none⟩,
      ⟨some 27, .ld 1 false (.t 26), none⟩,
      ⟨some 28, .len (.t 27), none⟩,
      ⟨some 29, .fla 5 (.t 1), none⟩,
      ⟨some 30, .ld 1 false (.t 29), none⟩,
      ⟨some 31, .len (.t 30), none⟩,
      ⟨some 32, .bin .add (.t 28) (.t 31), none⟩,
      ⟨some 33, .bin .gtr (.t 32) (.c (.int .i64 100)), none⟩,
      ⟨some 25, .mov (.t 33), none⟩])
    (.cond (.t 25) (.seq (.reg [⟨some 2, .mov (.c (.int .i64 2)), none⟩])
    .ret) .skip)))))))))
    (.seq (.reg [⟨some 34, .mkm 9 4, none⟩,
      ⟨some 3, .mov (.t 34), none⟩])
    (.seq (.seq (.reg [⟨some 35, .fla 4 (.t 1), none⟩,
      ⟨some 36, .ld 1 false (.t 35), none⟩,
      ⟨some 37, .fla 5 (.t 1), none⟩,
      ⟨some 38, .ld 1 false (.t 37), none⟩,
      ⟨some 39, .bsl 1 [.t 36, .t 38], none⟩,
      ⟨some 40, .call 117 [.t 39], none⟩,
      ⟨some 41, .len (.t 40), none⟩,
      ⟨some 42, .mov (.c (.int .i64 0)), none⟩])
    (.block 1 (.loop ir_thread_Check_L0)))
    (.seq (.seq (.reg [⟨some 64, .fla 6 (.t 1), none⟩,
      ⟨some 65, .ld 1 false (.t 64), none⟩,
      ⟨some 66, .len (.t 65), none⟩,
      ⟨some 67, .bin .gtr (.t 66) (.c (.int .i64 50)), none⟩])
    (.cond (.t 67) (.seq (.reg [⟨some 2, .mov (.c (.int .i64 2)), none⟩])
    .ret) .skip))
    (.seq (.seq (.reg [⟨some 68, .fla 6 (.t 1), none⟩,
      ⟨some 69, .ld 1 false (.t 68), none⟩,
      ⟨some 70, .len (.t 69), none⟩,
      ⟨some 71, .mov (.c (.int .i64 0)), none⟩])
    (.block 3 (.loop ir_thread_Check_L1)))
    (.seq (.drg [⟨some 98, .fla 7 (.t 1), none⟩,
      ⟨some 99, .ld 1 false (.t 98), none⟩,
      ⟨some 100, .sln (.t 99), none⟩,
      ⟨some 101, .bin .gtr (.t 100) (.c (.int .i64 200)), none⟩,
      ⟨some 102, .mov (.t 101), none⟩,
      ⟨some 103, .fla 7 (.t 1), (some (102, false))⟩,
      ⟨some 104, .ld 1 false (.t 103), (some (102, false))⟩,
      ⟨some 105, .pcall 0 148 [.t 104], (some (102, false))⟩,
      ⟨some 106, .not (.t 105), (some (102, false))⟩,
      ⟨some 107, .pick (.t 102) (.c (.bool true)) (.t 106), none⟩,
      ⟨some 108, .pcall 1 69 [.t 107, .c (.int .i64 3)], none⟩,
      ⟨some 109, .fla 8 (.t 1), none⟩,
      ⟨some 110, .ld 1 false (.t 109), none⟩,
      ⟨some 111, .pcall 2 194 [.t 110], none⟩,
      ⟨some 112, .bsl 1 [.t 108, .t 111], none⟩,
      ⟨some 113, .pcall 3 66 [.t 112], none⟩,
      ⟨some 2, .mov (.t 113), none⟩])
    .ret)))))))
def rs_thread_Check : List IRes := [.t 2]
theorem ck_thread_Check : chkF Tryz.prog Tryz.f112 ir_thread_Check rs_thread_Check 114 = true := by kernel_rfl

abbrev tMail : Nat := 74
theorem cat2 (a b : List AdT) : [a, b].flatten.map adC = adrE (a ++ b) := by simp [adrE]
theorem strE_take (l : List (List UInt8)) (k : Nat) : (strE l).take k = strE (l.take k) := by simp [strE, List.map_take]
theorem TCheck_ok (m : Ltr) (hm : LtB m) : PCall Tryz.prog E0 112 [.agg (ltV m)] (· = int (letF m)) := by
  obtain ⟨b1, b2, b3, b4, b5, b6, b7, b8, b9, b10, b11⟩ := hm
  refine pcallF mixed Tryz.func112 ck_thread_Check ?_
  simp only [a0, l0, OS.ao, List.map_cons, List.map_nil, List.length_cons, List.length_nil, List.cons_append, List.nil_append, Nat.reduceSub, Nat.reduceAdd, List.replicate_succ, List.replicate_zero, ir_thread_Check, rs_thread_Check, ZZ, YY, Ze, ite_true, ite_false, forall_const, reduceCtorEq, Nat.reduceAdd, Nat.reduceMul, Nat.reduceLeDiff, Nat.reduceLT, Nat.reduceEqDiff]
  simp only [ltV, ZZ, YY, Ze, ite_true, ite_false, forall_const, reduceCtorEq, Nat.reduceAdd, Nat.reduceMul, Nat.reduceLeDiff, Nat.reduceLT, Nat.reduceEqDiff]
  refine use1 (isId_ok m.id (by omega)) rfl (.inl rfl) ?_
  simp only [ZZ, YY, Ze, ite_true, ite_false, forall_const, reduceCtorEq, Nat.reduceAdd, Nat.reduceMul, Nat.reduceLeDiff, Nat.reduceLT, Nat.reduceEqDiff]
  refine br ?_ ?_
  · intro h
    have h1 : idB m.id = false := by simpa using h
    simp only [ZZ, YY, Ze, ite_true, ite_false, forall_const, reduceCtorEq, Nat.reduceAdd, Nat.reduceMul, Nat.reduceLeDiff, Nat.reduceLT, Nat.reduceEqDiff]
    rw [letF, if_pos h1]
  intro h
  have h1 : ¬ idB m.id = false := by simpa using h
  simp only [ZZ, YY, Ze, ite_true, ite_false, forall_const, reduceCtorEq, Nat.reduceAdd, Nat.reduceMul, Nat.reduceLeDiff, Nat.reduceLT, Nat.reduceEqDiff]
  refine use1 (Moment_ok m.at_) rfl (.inl rfl) ?_
  simp only [ZZ, YY, Ze, ite_true, ite_false, forall_const, reduceCtorEq, Nat.reduceAdd, Nat.reduceMul, Nat.reduceLeDiff, Nat.reduceLT, Nat.reduceEqDiff]
  refine br ?_ ?_
  · intro h
    have h2 : inE m.at_ 0 5761439 = false := by simpa using h
    simp only [ZZ, YY, Ze, ite_true, ite_false, forall_const, reduceCtorEq, Nat.reduceAdd, Nat.reduceMul, Nat.reduceLeDiff, Nat.reduceLT, Nat.reduceEqDiff]
    rw [letF, if_neg h1, if_pos h2]
  intro h
  have h2 : ¬ inE m.at_ 0 5761439 = false := by simpa using h
  simp only [ZZ, YY, Ze, ite_true, ite_false, forall_const, reduceCtorEq, Nat.reduceAdd, Nat.reduceMul, Nat.reduceLeDiff, Nat.reduceLT, Nat.reduceEqDiff]
  refine use1 (right_ok m.fr.1 m.fr.2 (by omega) (by omega)) rfl (.inl rfl) ?_
  simp only [ZZ, YY, Ze, ite_true, ite_false, forall_const, reduceCtorEq, Nat.reduceAdd, Nat.reduceMul, Nat.reduceLeDiff, Nat.reduceLT, Nat.reduceEqDiff]
  refine br ?_ ?_
  · intro h
    have h3 : adB m.fr = false := by unfold adB; rwa [Bool.not_eq_true'] at h
    simp only [ZZ, YY, Ze, ite_true, ite_false, forall_const, reduceCtorEq, Nat.reduceAdd, Nat.reduceMul, Nat.reduceLeDiff, Nat.reduceLT, Nat.reduceEqDiff]
    rw [letF, if_neg h1, if_neg h2, if_pos h3]
  intro h
  have h3 : ¬ adB m.fr = false := by unfold adB; rw [Bool.not_eq_false'] at h; rw [h]; decide
  simp only [ZZ, YY, Ze, ite_true, ite_false, forall_const, reduceCtorEq, Nat.reduceAdd, Nat.reduceMul, Nat.reduceLeDiff, Nat.reduceLT, Nat.reduceEqDiff, adrE_len]
  ((repeat' (with_reducible apply And.intro)) <;> try ((first | first | assumption | trivial | exact (fun hq => by rw [hq]; rfl) | exact i64_of (by omega) (by omega) | omega | (simp; done) | (simp; omega) | (intro hsc; have hs0 := hsc; (try have hsd := of_decide_eq_true hsc); (try simp only [Bool.not_eq_true', Bool.or_eq_false_iff, Bool.and_eq_true, Bool.or_eq_true, decide_eq_true_eq, decide_eq_false_iff_not] at hsc); (repeat' (with_reducible apply And.intro)) <;> (first | assumption | trivial | exact (fun hq => by rw [hq]; rfl) | exact i64_of (by omega) (by omega) | omega | (simp; done) | (simp; omega) | (intro hse; simp [hse, hs0]; done) | (intro hse; simp only [hse, hs0, Bool.true_and, Bool.and_true, Bool.not_false, Bool.not_true, Bool.and_self]; done))))))
  refine br ?_ ?_
  · intro h
    have h4 := of_decide_eq_true h
    simp only [ZZ, YY, Ze, ite_true, ite_false, forall_const, reduceCtorEq, Nat.reduceAdd, Nat.reduceMul, Nat.reduceLeDiff, Nat.reduceLT, Nat.reduceEqDiff]
    rw [letF, if_neg h1, if_neg h2, if_neg h3, if_pos h4]
  intro h
  have h4 := of_decide_eq_false h
  have hL : letF m = firstE [adsErr (m.tos ++ m.ccs), tailF m] := by rw [letF, if_neg h1, if_neg h2, if_neg h3, if_neg h4]
  rw [hL]
  clear hL h
  simp only [ZZ, YY, Ze, ite_true, ite_false, forall_const, reduceCtorEq, Nat.reduceAdd, Nat.reduceMul, Nat.reduceLeDiff, Nat.reduceLT, Nat.reduceEqDiff]
  refine useF (ConcatA_ok [m.tos, m.ccs] (by simp) (by simp [lenSA]; omega)) rfl rfl ?_
  rintro es rfl
  rw [cat2]
  have hb : ∀ a ∈ m.tos ++ m.ccs, a.1.length ≤ 1000000 ∧ a.2.length ≤ 1000000 := fun a ha => (List.mem_append.1 ha).elim (b5 a) (b7 a)
  have hAl : (m.tos ++ m.ccs).length ≤ 2000000 := by simp; omega
  generalize m.tos ++ m.ccs = A at *
  simp only [ZZ, YY, Ze, ite_true, ite_false, forall_const, reduceCtorEq, Nat.reduceAdd, Nat.reduceMul, Nat.reduceLeDiff, Nat.reduceLT, Nat.reduceEqDiff, adrE_len]
  rw [adsErr]
  have hget := fun {k : Nat} (h : k < A.length) => firstE_drop _ k _ (tab_getI (adF1 A) h)
  generalize hG : (List.range A.length).map (adF1 A) = G at *
  have hGl : G.length = A.length := by rw [← hG]; simp
  refine loop_intro (fun n fr L => ∃ (k : Nat) (kv : List (List UInt8 × PV)), k ≤ A.length ∧ n = A.length - k ∧ (firstE G = firstE (G.drop k)) ∧ (setOf kv ((A.take k).map (·.2))) ∧ fr = [.any, .adr (.l 1) 0, .any, .mp (.l 34), .any, .any, .any, .any, .any, .any, .any, .any, .any, .any, .any, .any, .any, .any, .any, .any, .any, .any, .any, .any, .any, .any, .any, .any, .any, .any, .any, .any, .any, .any, .any, .any, .any, .any, .any, .any, .row (.l 40), .p (int (A.length : Nat)), .p (int (k : Nat)), .any, .any, .any, .any, .any, .any, .any, .any, .any, .any, .any, .any, .any, .any, .any, .any, .any, .any, .any, .any, .any, .any, .any, .any, .any, .any, .any, .any, .any, .any, .any, .any, .any, .any, .any, .any, .any, .any, .any, .any, .any, .any, .any, .any, .any, .any, .any, .any, .any, .any, .any, .any, .any, .any, .any, .any, .any, .any, .any, .any, .any, .any, .any, .any, .any, .any, .any, .any, .any, .any, .any] ∧ L = [(.l 1, .box [.p (.str m.id), .p (int m.at_), .p (.str m.fr.1), .p (.str m.fr.2), .p (.sl 2 (adrE m.tos)), .p (.sl 2 (adrE m.ccs)), .p (.sl 1 (strE m.refs)), .p (.str m.sub), .p (.str m.body)] tMail), (.l 34, .map kv 9 4), (.l 40, .row (adrE A) tAdr 2 true)]) (A.length) [.any, .adr (.l 1) 0, .any, .mp (.l 34), .any, .any, .any, .any, .any, .any, .any, .any, .any, .any, .any, .any, .any, .any, .any, .any, .any, .any, .any, .any, .any, .any, .any, .any, .any, .any, .any, .any, .any, .any, .any, .any, .any, .any, .any, .any, .row (.l 40), .p (int (A.length : Nat)), .p (int (0 : Nat)), .any, .any, .any, .any, .any, .any, .any, .any, .any, .any, .any, .any, .any, .any, .any, .any, .any, .any, .any, .any, .any, .any, .any, .any, .any, .any, .any, .any, .any, .any, .any, .any, .any, .any, .any, .any, .any, .any, .any, .any, .any, .any, .any, .any, .any, .any, .any, .any, .any, .any, .any, .any, .any, .any, .any, .any, .any, .any, .any, .any, .any, .any, .any, .any, .any, .any, .any, .any, .any, .any, .any] [(.l 1, .box [.p (.str m.id), .p (int m.at_), .p (.str m.fr.1), .p (.str m.fr.2), .p (.sl 2 (adrE m.tos)), .p (.sl 2 (adrE m.ccs)), .p (.sl 1 (strE m.refs)), .p (.str m.sub), .p (.str m.body)] tMail), (.l 34, .map [] 9 4), (.l 40, .row (adrE A) tAdr 2 true)] (by simp only [ZZ, YY, Ze, ite_true, ite_false, forall_const, reduceCtorEq, Nat.reduceAdd, Nat.reduceMul, Nat.reduceLeDiff, Nat.reduceLT, Nat.reduceEqDiff, adrE_len]; try trivial) (by (simp only [ZZ, YY, Ze, ite_true, ite_false, forall_const, reduceCtorEq, Nat.reduceAdd, Nat.reduceMul, Nat.reduceLeDiff, Nat.reduceLT, Nat.reduceEqDiff]; try trivial)) ⟨0, [], by omega, by omega, by simp, setOf_nil, rfl, rfl⟩ ?_
  rintro n fr L ⟨k, kv, hk, rfl, hf, hkv, rfl, rfl⟩
  simp only [ir_thread_Check_L0, ZZ, YY, Ze, ite_true, ite_false, forall_const, reduceCtorEq, Nat.reduceAdd, Nat.reduceMul, Nat.reduceLeDiff, Nat.reduceLT, Nat.reduceEqDiff]
  refine br ?_ ?_
  · intro h
    have hlt : k < A.length := by have := of_decide_eq_true h; omega
    obtain ⟨x, hx⟩ : ∃ x, A[k]? = some x := ⟨_, List.getElem?_eq_getElem hlt⟩
    have hg := adrE_get hx
    have hxd : A.getD k ([], []) = x := by simp [List.getD, hx]
    have hbx := hb x (List.mem_of_getElem? hx)
    have hd := hget hlt
    have hsn : mpD kv x.2 (.bool false) = .bool ((A.take k).any (fun p => decide (p.2 = x.2))) := by rw [hkv x.2, any_mem]
    have he : firstE [whenE (!(nameB x.1 && mailF x.2)) 3, whenE ((A.take k).any (fun p => decide (p.2 = x.2))) 6] = adF1 A k := by rw [adF1, hxd]; rfl
    simp only [ZZ, YY, Ze, ite_true, ite_false, forall_const, reduceCtorEq, Nat.reduceAdd, Nat.reduceMul, Nat.reduceLeDiff, Nat.reduceLT, Nat.reduceEqDiff, hg, adrE_len]
    ((repeat' (with_reducible apply And.intro)) <;> try ((first | first | assumption | trivial | exact (fun hq => by rw [hq]; rfl) | exact i64_of (by omega) (by omega) | omega | (simp; done) | (simp; omega) | (intro hsc; have hs0 := hsc; (try have hsd := of_decide_eq_true hsc); (try simp only [Bool.not_eq_true', Bool.or_eq_false_iff, Bool.and_eq_true, Bool.or_eq_true, decide_eq_true_eq, decide_eq_false_iff_not] at hsc); (repeat' (with_reducible apply And.intro)) <;> (first | assumption | trivial | exact (fun hq => by rw [hq]; rfl) | exact i64_of (by omega) (by omega) | omega | (simp; done) | (simp; omega) | (intro hse; simp [hse, hs0]; done) | (intro hse; simp only [hse, hs0, Bool.true_and, Bool.and_true, Bool.not_false, Bool.not_true, Bool.and_self]; done))))))
    refine drg4 (x1 := .bool (nameB x.1 && mailF x.2)) (x2 := int (whenE (!(nameB x.1 && mailF x.2)) 3)) (x3 := int (whenE ((A.take k).any (fun p => decide (p.2 = x.2))) 6)) (x4 := int (adF1 A k)) ?_
    simp only [ZZ, YY, Ze, ite_true, ite_false, forall_const, reduceCtorEq, Nat.reduceAdd, Nat.reduceMul, Nat.reduceLeDiff, Nat.reduceLT, Nat.reduceEqDiff, hsn]
    ((repeat' (with_reducible apply And.intro)) <;> try (first | exact usep (right_ok x.1 x.2 (by omega) (by omega)) rfl (.inl rfl) | exact usep (When_ok _ _) rfl (.inl rfl) | (rw [← he]; exact usep (First_ok [_, _] (by simp)) rfl (.inl rfl)) | (first | first | assumption | trivial | exact (fun hq => by rw [hq]; rfl) | exact i64_of (by omega) (by omega) | omega | (simp; done) | (simp; omega) | (intro hsc; have hs0 := hsc; (try have hsd := of_decide_eq_true hsc); (try simp only [Bool.not_eq_true', Bool.or_eq_false_iff, Bool.and_eq_true, Bool.or_eq_true, decide_eq_true_eq, decide_eq_false_iff_not] at hsc); (repeat' (with_reducible apply And.intro)) <;> (first | assumption | trivial | exact (fun hq => by rw [hq]; rfl) | exact i64_of (by omega) (by omega) | omega | (simp; done) | (simp; omega) | (intro hse; simp [hse, hs0]; done) | (intro hse; simp only [hse, hs0, Bool.true_and, Bool.and_true, Bool.not_false, Bool.not_true, Bool.and_self]; done))))))
    refine br ?_ ?_
    · intro h7
      have : ¬ adF1 A k = 0 := by simpa using h7
      simp only [ZZ, YY, Ze, ite_true, ite_false, forall_const, reduceCtorEq, Nat.reduceAdd, Nat.reduceMul, Nat.reduceLeDiff, Nat.reduceLT, Nat.reduceEqDiff]
      rw [firstE_cons, hf, hd, if_neg this, if_neg this]
    intro h7
    have : adF1 A k = 0 := by simpa using h7
    simp only [ZZ, YY, Ze, ite_true, ite_false, forall_const, reduceCtorEq, Nat.reduceAdd, Nat.reduceMul, Nat.reduceLeDiff, Nat.reduceLT, Nat.reduceEqDiff]
    ((repeat' (with_reducible apply And.intro)) <;> try ((first | first | assumption | trivial | exact (fun hq => by rw [hq]; rfl) | exact i64_of (by omega) (by omega) | omega | (simp; done) | (simp; omega) | (intro hsc; have hs0 := hsc; (try have hsd := of_decide_eq_true hsc); (try simp only [Bool.not_eq_true', Bool.or_eq_false_iff, Bool.and_eq_true, Bool.or_eq_true, decide_eq_true_eq, decide_eq_false_iff_not] at hsc); (repeat' (with_reducible apply And.intro)) <;> (first | assumption | trivial | exact (fun hq => by rw [hq]; rfl) | exact i64_of (by omega) (by omega) | omega | (simp; done) | (simp; omega) | (intro hse; simp [hse, hs0]; done) | (intro hse; simp only [hse, hs0, Bool.true_and, Bool.and_true, Bool.not_false, Bool.not_true, Bool.and_self]; done))))))
    refine end_round (A.length - (k + 1)) [.any, .adr (.l 1) 0, .any, .mp (.l 34), .any, .any, .any, .any, .any, .any, .any, .any, .any, .any, .any, .any, .any, .any, .any, .any, .any, .any, .any, .any, .any, .any, .any, .any, .any, .any, .any, .any, .any, .any, .any, .any, .any, .any, .any, .any, .row (.l 40), .p (int (A.length : Nat)), .p (int ((k + 1) : Nat)), .any, .any, .any, .any, .any, .any, .any, .any, .any, .any, .any, .any, .any, .any, .any, .any, .any, .any, .any, .any, .any, .any, .any, .any, .any, .any, .any, .any, .any, .any, .any, .any, .any, .any, .any, .any, .any, .any, .any, .any, .any, .any, .any, .any, .any, .any, .any, .any, .any, .any, .any, .any, .any, .any, .any, .any, .any, .any, .any, .any, .any, .any, .any, .any, .any, .any, .any, .any, .any, .any, .any] [(.l 1, .box [.p (.str m.id), .p (int m.at_), .p (.str m.fr.1), .p (.str m.fr.2), .p (.sl 2 (adrE m.tos)), .p (.sl 2 (adrE m.ccs)), .p (.sl 1 (strE m.refs)), .p (.str m.sub), .p (.str m.body)] tMail), (.l 34, .map (mpS kv x.2 (.bool true)) 9 4), (.l 40, .row (adrE A) tAdr 2 true)] (by omega) (by (simp only [ZZ, YY, Ze, ite_true, ite_false, forall_const, reduceCtorEq, Nat.reduceAdd, Nat.reduceMul, Nat.reduceLeDiff, Nat.reduceLT, Nat.reduceEqDiff]; try trivial)) (by (simp only [ZZ, YY, Ze, ite_true, ite_false, forall_const, reduceCtorEq, Nat.reduceAdd, Nat.reduceMul, Nat.reduceLeDiff, Nat.reduceLT, Nat.reduceEqDiff]; try trivial)) ⟨k + 1, mpS kv x.2 (.bool true), by omega, rfl, by rw [hf, hd, if_pos this], by rw [map_take_succ _ hx]; exact setOf_put hkv x.2, rfl, rfl⟩
  intro h
  have hge : A.length ≤ k := by have := of_decide_eq_false h; omega
  rw [show firstE [firstE G, tailF m] = tailF m from by rw [firstE_cons, hf, List.drop_eq_nil_of_le (by omega)]; rw [firstE_nil, if_pos rfl, firstE_cons, firstE_nil]; split <;> rename_i h <;> simp [h]]
  simp only [ZZ, YY, Ze, ite_true, ite_false, forall_const, reduceCtorEq, Nat.reduceAdd, Nat.reduceMul, Nat.reduceLeDiff, Nat.reduceLT, Nat.reduceEqDiff, strE_len]
  refine br ?_ ?_
  · intro h
    have h5 := of_decide_eq_true h
    simp only [ZZ, YY, Ze, ite_true, ite_false, forall_const, reduceCtorEq, Nat.reduceAdd, Nat.reduceMul, Nat.reduceLeDiff, Nat.reduceLT, Nat.reduceEqDiff]
    rw [tailF, if_pos h5]
  intro h
  have h5 := of_decide_eq_false h
  rw [tailF, if_neg h5]
  clear h hf hkv hget hG hGl
  simp only [ZZ, YY, Ze, ite_true, ite_false, forall_const, reduceCtorEq, Nat.reduceAdd, Nat.reduceMul, Nat.reduceLeDiff, Nat.reduceLT, Nat.reduceEqDiff, strE_len]
  rw [refsErr]
  have hget := fun {k : Nat} (h : k < m.refs.length) => firstE_drop _ k _ (tab_getI (refF1 m.id m.refs) h)
  generalize hG : (List.range m.refs.length).map (refF1 m.id m.refs) = R at *
  have hGl : R.length = m.refs.length := by rw [← hG]; simp
  refine loop_intro (fun n fr L => ∃ (j : Nat), j ≤ m.refs.length ∧ n = m.refs.length - j ∧ (firstE R = firstE (R.drop j)) ∧ fr = [.any, .adr (.l 1) 0, .any, .any, .any, .any, .any, .any, .any, .any, .any, .any, .any, .any, .any, .any, .any, .any, .any, .any, .any, .any, .any, .any, .any, .any, .any, .any, .any, .any, .any, .any, .any, .any, .any, .any, .any, .any, .any, .any, .any, .any, .any, .any, .any, .any, .any, .any, .any, .any, .any, .any, .any, .any, .any, .any, .any, .any, .any, .any, .any, .any, .any, .any, .any, .any, .any, .any, .any, .p (.sl 1 (strE m.refs)), .p (int (m.refs.length : Nat)), .p (int (j : Nat)), .any, .any, .any, .any, .any, .any, .any, .any, .any, .any, .any, .any, .any, .any, .any, .any, .any, .any, .any, .any, .any, .any, .any, .any, .any, .any, .any, .any, .any, .any, .any, .any, .any, .any, .any, .any, .any, .any, .any, .any, .any, .any] ∧ L = [(.l 1, .box [.p (.str m.id), .p (int m.at_), .p (.str m.fr.1), .p (.str m.fr.2), .p (.sl 2 (adrE m.tos)), .p (.sl 2 (adrE m.ccs)), .p (.sl 1 (strE m.refs)), .p (.str m.sub), .p (.str m.body)] tMail)]) (m.refs.length) [.any, .adr (.l 1) 0, .any, .any, .any, .any, .any, .any, .any, .any, .any, .any, .any, .any, .any, .any, .any, .any, .any, .any, .any, .any, .any, .any, .any, .any, .any, .any, .any, .any, .any, .any, .any, .any, .any, .any, .any, .any, .any, .any, .any, .any, .any, .any, .any, .any, .any, .any, .any, .any, .any, .any, .any, .any, .any, .any, .any, .any, .any, .any, .any, .any, .any, .any, .any, .any, .any, .any, .any, .p (.sl 1 (strE m.refs)), .p (int (m.refs.length : Nat)), .p (int (0 : Nat)), .any, .any, .any, .any, .any, .any, .any, .any, .any, .any, .any, .any, .any, .any, .any, .any, .any, .any, .any, .any, .any, .any, .any, .any, .any, .any, .any, .any, .any, .any, .any, .any, .any, .any, .any, .any, .any, .any, .any, .any, .any, .any] [(.l 1, .box [.p (.str m.id), .p (int m.at_), .p (.str m.fr.1), .p (.str m.fr.2), .p (.sl 2 (adrE m.tos)), .p (.sl 2 (adrE m.ccs)), .p (.sl 1 (strE m.refs)), .p (.str m.sub), .p (.str m.body)] tMail)] (by simp only [ZZ, YY, Ze, ite_true, ite_false, forall_const, reduceCtorEq, Nat.reduceAdd, Nat.reduceMul, Nat.reduceLeDiff, Nat.reduceLT, Nat.reduceEqDiff, strE_len]; try trivial) (by (simp only [ZZ, YY, Ze, ite_true, ite_false, forall_const, reduceCtorEq, Nat.reduceAdd, Nat.reduceMul, Nat.reduceLeDiff, Nat.reduceLT, Nat.reduceEqDiff]; try trivial)) ⟨0, by omega, by omega, by simp, rfl, rfl⟩ ?_
  rintro n fr L ⟨j, hj, rfl, hf, rfl, rfl⟩
  simp only [ir_thread_Check_L1, ZZ, YY, Ze, ite_true, ite_false, forall_const, reduceCtorEq, Nat.reduceAdd, Nat.reduceMul, Nat.reduceLeDiff, Nat.reduceLT, Nat.reduceEqDiff]
  refine br ?_ ?_
  · intro h
    have hlt : j < m.refs.length := by have := of_decide_eq_true h; omega
    obtain ⟨x, hx⟩ : ∃ x, m.refs[j]? = some x := ⟨_, List.getElem?_eq_getElem hlt⟩
    have hg := strE_get hx
    have hxd : m.refs.getD j [] = x := by simp [List.getD, hx]
    have hbx := b9 x (List.mem_of_getElem? hx)
    have hd := hget hlt
    have htk := strE_take m.refs j
    have he : firstE [whenE (!idB x) 3, whenE (decide (x ∈ m.refs.take j)) 6, whenE (decide (x = m.id)) 14] = refF1 m.id m.refs j := by rw [refF1, hxd]
    simp only [ZZ, YY, Ze, ite_true, ite_false, forall_const, reduceCtorEq, Nat.reduceAdd, Nat.reduceMul, Nat.reduceLeDiff, Nat.reduceLT, Nat.reduceEqDiff, hg, strE_len]
    ((repeat' (with_reducible apply And.intro)) <;> try ((first | first | assumption | trivial | exact (fun hq => by rw [hq]; rfl) | exact i64_of (by omega) (by omega) | omega | (simp; done) | (simp; omega) | (intro hsc; have hs0 := hsc; (try have hsd := of_decide_eq_true hsc); (try simp only [Bool.not_eq_true', Bool.or_eq_false_iff, Bool.and_eq_true, Bool.or_eq_true, decide_eq_true_eq, decide_eq_false_iff_not] at hsc); (repeat' (with_reducible apply And.intro)) <;> (first | assumption | trivial | exact (fun hq => by rw [hq]; rfl) | exact i64_of (by omega) (by omega) | omega | (simp; done) | (simp; omega) | (intro hse; simp [hse, hs0]; done) | (intro hse; simp only [hse, hs0, Bool.true_and, Bool.and_true, Bool.not_false, Bool.not_true, Bool.and_self]; done))))))
    refine drg6 (x1 := .bool (idB x)) (x2 := int (whenE (!idB x) 3)) (x3 := .bool (decide (x ∈ m.refs.take j))) (x4 := int (whenE (decide (x ∈ m.refs.take j)) 6)) (x5 := int (whenE (decide (x = m.id)) 14)) (x6 := int (refF1 m.id m.refs j)) ?_
    simp only [ZZ, YY, Ze, ite_true, ite_false, forall_const, reduceCtorEq, Nat.reduceAdd, Nat.reduceMul, Nat.reduceLeDiff, Nat.reduceLT, Nat.reduceEqDiff, htk, strE_len]
    ((repeat' (with_reducible apply And.intro)) <;> try (first | exact usep (isId_ok x (by omega)) rfl (.inl rfl) | exact usep (When_ok _ _) rfl (.inl rfl) | exact usep (ContainsS_ok _ x (by rw [List.length_take]; omega)) rfl (.inl rfl) | (rw [← he]; exact usep (First_ok [_, _, _] (by simp)) rfl (.inl rfl)) | (first | first | assumption | trivial | exact (fun hq => by rw [hq]; rfl) | exact i64_of (by omega) (by omega) | omega | (simp; done) | (simp; omega) | (intro hsc; have hs0 := hsc; (try have hsd := of_decide_eq_true hsc); (try simp only [Bool.not_eq_true', Bool.or_eq_false_iff, Bool.and_eq_true, Bool.or_eq_true, decide_eq_true_eq, decide_eq_false_iff_not] at hsc); (repeat' (with_reducible apply And.intro)) <;> (first | assumption | trivial | exact (fun hq => by rw [hq]; rfl) | exact i64_of (by omega) (by omega) | omega | (simp; done) | (simp; omega) | (intro hse; simp [hse, hs0]; done) | (intro hse; simp only [hse, hs0, Bool.true_and, Bool.and_true, Bool.not_false, Bool.not_true, Bool.and_self]; done))))))
    refine br ?_ ?_
    · intro h7
      have : ¬ refF1 m.id m.refs j = 0 := by simpa using h7
      simp only [ZZ, YY, Ze, ite_true, ite_false, forall_const, reduceCtorEq, Nat.reduceAdd, Nat.reduceMul, Nat.reduceLeDiff, Nat.reduceLT, Nat.reduceEqDiff]
      rw [firstE_cons, hf, hd, if_neg this, if_neg this]
    intro h7
    have : refF1 m.id m.refs j = 0 := by simpa using h7
    simp only [ZZ, YY, Ze, ite_true, ite_false, forall_const, reduceCtorEq, Nat.reduceAdd, Nat.reduceMul, Nat.reduceLeDiff, Nat.reduceLT, Nat.reduceEqDiff]
    ((repeat' (with_reducible apply And.intro)) <;> try ((first | first | assumption | trivial | exact (fun hq => by rw [hq]; rfl) | exact i64_of (by omega) (by omega) | omega | (simp; done) | (simp; omega) | (intro hsc; have hs0 := hsc; (try have hsd := of_decide_eq_true hsc); (try simp only [Bool.not_eq_true', Bool.or_eq_false_iff, Bool.and_eq_true, Bool.or_eq_true, decide_eq_true_eq, decide_eq_false_iff_not] at hsc); (repeat' (with_reducible apply And.intro)) <;> (first | assumption | trivial | exact (fun hq => by rw [hq]; rfl) | exact i64_of (by omega) (by omega) | omega | (simp; done) | (simp; omega) | (intro hse; simp [hse, hs0]; done) | (intro hse; simp only [hse, hs0, Bool.true_and, Bool.and_true, Bool.not_false, Bool.not_true, Bool.and_self]; done))))))
    refine end_round (m.refs.length - (j + 1)) [.any, .adr (.l 1) 0, .any, .any, .any, .any, .any, .any, .any, .any, .any, .any, .any, .any, .any, .any, .any, .any, .any, .any, .any, .any, .any, .any, .any, .any, .any, .any, .any, .any, .any, .any, .any, .any, .any, .any, .any, .any, .any, .any, .any, .any, .any, .any, .any, .any, .any, .any, .any, .any, .any, .any, .any, .any, .any, .any, .any, .any, .any, .any, .any, .any, .any, .any, .any, .any, .any, .any, .any, .p (.sl 1 (strE m.refs)), .p (int (m.refs.length : Nat)), .p (int ((j + 1) : Nat)), .any, .any, .any, .any, .any, .any, .any, .any, .any, .any, .any, .any, .any, .any, .any, .any, .any, .any, .any, .any, .any, .any, .any, .any, .any, .any, .any, .any, .any, .any, .any, .any, .any, .any, .any, .any, .any, .any, .any, .any, .any, .any] [(.l 1, .box [.p (.str m.id), .p (int m.at_), .p (.str m.fr.1), .p (.str m.fr.2), .p (.sl 2 (adrE m.tos)), .p (.sl 2 (adrE m.ccs)), .p (.sl 1 (strE m.refs)), .p (.str m.sub), .p (.str m.body)] tMail)] (by omega) (by (simp only [ZZ, YY, Ze, ite_true, ite_false, forall_const, reduceCtorEq, Nat.reduceAdd, Nat.reduceMul, Nat.reduceLeDiff, Nat.reduceLT, Nat.reduceEqDiff]; try trivial)) (by (simp only [ZZ, YY, Ze, ite_true, ite_false, forall_const, reduceCtorEq, Nat.reduceAdd, Nat.reduceMul, Nat.reduceLeDiff, Nat.reduceLT, Nat.reduceEqDiff]; try trivial)) ⟨j + 1, by omega, rfl, by rw [hf, hd, if_pos this], rfl, rfl⟩
  intro h
  have hge : m.refs.length ≤ j := by have := of_decide_eq_false h; omega
  have hfin : firstE [firstE R, subErr m.sub, bodyE m.body] = firstE [subErr m.sub, bodyE m.body] := by rw [firstE_cons, hf, List.drop_eq_nil_of_le (by omega)]; rfl
  rw [hfin]
  simp only [ZZ, YY, Ze, ite_true, ite_false, forall_const, reduceCtorEq, Nat.reduceAdd, Nat.reduceMul, Nat.reduceLeDiff, Nat.reduceLT, Nat.reduceEqDiff]
  refine drg4 (x1 := .bool (plainB m.sub)) (x2 := int (subErr m.sub)) (x3 := int (bodyE m.body)) (x4 := int (firstE [subErr m.sub, bodyE m.body])) ?_
  simp only [ZZ, YY, Ze, ite_true, ite_false, forall_const, reduceCtorEq, Nat.reduceAdd, Nat.reduceMul, Nat.reduceLeDiff, Nat.reduceLT, Nat.reduceEqDiff]
  refine ⟨fun h => ⟨h, usep (Plain_ok m.sub (by omega)) rfl (.inl rfl)⟩, fun h => by rw [h]; rfl, usep (When_ok _ _) rfl (.inl rfl), usep (checkBody_ok m.body (by omega)) rfl (.inl rfl), usep (First_ok [_, _] (by simp)) rfl (.inl rfl)⟩
end Go.Proofs.YtidmphcocnaonaaGreatDoor

/- A letter is checked: the reference's way. -/
namespace Go.Proofs.YtidmphcocnaonaaGreatDoor
open Go.RowKit
set_option linter.unusedVariables false
set_option linter.unusedSimpArgs false
set_option linter.defProp false

/- paperchase/chaseref1.LetterFault -/
def ir_chaseref1_LetterFault_L1 : IC :=
  (.seq (.reg [⟨some 62, .bin .lss (.t 61) (.t 60), none⟩])
    (.seq (.cond (.t 62) .skip (.exit 3))
    (.seq (.block 4 (.seq (.reg [⟨some 63, .mov (.t 61), none⟩,
      ⟨some 64, .ixa 1 (.t 59) (.t 61), none⟩,
      ⟨some 65, .ld 1 false (.t 64), none⟩,
      ⟨some 6, .mov (.t 63), none⟩,
      ⟨some 7, .mov (.t 65), none⟩])
    (.block 5 (.seq (.reg [⟨some 67, .mov (.t 7), none⟩,
      ⟨some 68, .call 187 [.t 67], none⟩,
      ⟨some 69, .not (.t 68), none⟩,
      ⟨some 66, .mov (.t 69), none⟩])
    (.cond (.t 66) (.seq (.reg [⟨some 2, .mov (.c (.int .i64 3)), none⟩])
    .ret) (.seq (.reg [⟨some 71, .fla 6 (.t 1), none⟩,
      ⟨some 72, .ld 1 false (.t 71), none⟩,
      ⟨some 73, .mov (.t 6), none⟩,
      ⟨some 74, .vsl 1 (.t 72) none (some (.t 73)), none⟩,
      ⟨some 75, .mov (.t 7), none⟩,
      ⟨some 76, .call 42 [.t 74, .t 75], none⟩,
      ⟨some 70, .mov (.t 76), none⟩])
    (.cond (.t 70) (.seq (.reg [⟨some 2, .mov (.c (.int .i64 6)), none⟩])
    .ret) (.seq (.reg [⟨some 78, .mov (.t 7), none⟩,
      ⟨some 79, .fla 0 (.t 1), none⟩,
      ⟨some 80, .ld 1 false (.t 79), none⟩,
      ⟨some 81, .bin .eql (.t 78) (.t 80), none⟩,
      ⟨some 77, .mov (.t 81), none⟩])
    (.cond (.t 77) (.seq (.reg [⟨some 2, .mov (.c (.int .i64 14)), none⟩])
    .ret) .skip)))))))))
    (.reg [⟨some 82, .bin .add (.t 61) (.c (.int .i64 1)), none⟩,
      ⟨some 61, .mov (.t 82), none⟩]))))
def ir_chaseref1_LetterFault_L0 : IC :=
  (.seq (.reg [⟨some 41, .bin .lss (.t 40) (.t 39), none⟩])
    (.seq (.cond (.t 41) .skip (.exit 1))
    (.seq (.block 2 (.seq (.reg [⟨some 42, .mov (.t 40), none⟩,
      ⟨some 43, .ixa 2 (.t 38) (.t 40), none⟩,
      ⟨some 44, .ld 2 true (.t 43), none⟩,
      ⟨some 5, .alc 71 [.str [], .str []], none⟩,
      ⟨some 4, .mov (.t 42), none⟩,
      ⟨none, .st 2 (.t 5) (.t 44), none⟩])
    (.seq (.seq (.reg [⟨some 45, .ld 2 true (.t 5), none⟩,
      ⟨some 46, .call 188 [.t 45], none⟩,
      ⟨some 47, .not (.t 46), none⟩])
    (.cond (.t 47) (.seq (.reg [⟨some 2, .mov (.c (.int .i64 3)), none⟩])
    .ret) .skip))
    (.seq (.reg [⟨some 48, .mov (.t 3), none⟩,
      ⟨some 49, .mov (.t 4), none⟩,
      ⟨none, .fz (.t 48), none⟩,
      ⟨some 50, .vsl 2 (.t 48) none (some (.t 49)), none⟩,
      ⟨some 51, .mkf 190 [.t 5], none⟩,
      ⟨some 52, .call 189 [.t 50, .t 51], none⟩])
    (.cond (.t 52) (.seq (.reg [⟨some 2, .mov (.c (.int .i64 6)), none⟩])
    .ret) .skip)))))
    (.reg [⟨some 53, .bin .add (.t 40) (.c (.int .i64 1)), none⟩,
      ⟨some 40, .mov (.t 53), none⟩]))))
def ir_chaseref1_LetterFault : IC :=
  (.seq (.reg [⟨some 1, .box 74 (.t 0), none⟩,
      ⟨some 2, .mov (.c (.int .i64 0)), none⟩])
    (.seq (.block 0 (.seq (.reg [⟨some 9, .fla 0 (.t 1), none⟩,
      ⟨some 10, .ld 1 false (.t 9), none⟩,
      ⟨some 11, .call 187 [.t 10], none⟩,
      ⟨some 12, .not (.t 11), none⟩,
      ⟨some 8, .mov (.t 12), none⟩])
    (.cond (.t 8) (.seq (.reg [⟨some 2, .mov (.c (.int .i64 3)), none⟩])
    .ret) (.seq (.reg [⟨some 14, .fla 1 (.t 1), none⟩,
      ⟨some 15, .ld 1 false (.t 14), none⟩,
      ⟨some 16, .call 32 [.t 15], none⟩,
      ⟨some 17, .not (.t 16), none⟩,
      ⟨some 13, .mov (.t 17), none⟩])
    (.cond (.t 13) (.seq (.reg [⟨some 2, .mov (.c (.int .i64 1)), none⟩])
    .ret) (.seq (.reg [⟨some 19, .fla 2 (.t 1), none⟩,
      ⟨some 20, .ld 2 true (.t 19), none⟩,
      ⟨some 21, .call 188 [.t 20], none⟩,
      ⟨some 22, .not (.t 21), none⟩,
      ⟨some 18, .mov (.t 22), none⟩])
    (.cond (.t 18) (.seq (.reg [⟨some 2, .mov (.c (.int .i64 3)), none⟩])
    .ret) (.seq (.reg [⟨some 24, .fla 4 (.t 1), none⟩,
      ⟨some 25, .ld 1 false (.t 24), none⟩,
      ⟨some 26, .len (.t 25), none⟩,
      ⟨some 27, .fla 5 (.t 1), none⟩,
      ⟨some 28, .ld 1 false (.t 27), none⟩,
      ⟨some 29, .len (.t 28), none⟩,
      ⟨some 30, .bin .add (.t 26) (.t 29), none⟩,
      ⟨some 31, .bin .gtr (.t 30) (.c (.int .i64 100)), none⟩,
      ⟨some 23, .mov (.t 31), none⟩])
    (.cond (.t 23) (.seq (.reg [⟨some 2, .mov (.c (.int .i64 2)), none⟩])
    .ret) .skip)))))))))
    (.seq (.reg [⟨some 32, .fla 4 (.t 1), none⟩,
      ⟨some 33, .ld 1 false (.t 32), none⟩,
      ⟨some 34, .fla 5 (.t 1), none⟩,
      ⟨some 35, .ld 1 false (.t 34), none⟩,
      ⟨some 36, .bsl 1 [.t 33, .t 35], none⟩,
      ⟨some 37, .call 117 [.t 36], none⟩,
      ⟨some 3, .mov (.t 37), none⟩])
    (.seq (.seq (.reg [⟨some 38, .mov (.t 3), none⟩,
      ⟨some 39, .len (.t 38), none⟩,
      ⟨some 40, .mov (.c (.int .i64 0)), none⟩])
    (.block 1 (.loop ir_chaseref1_LetterFault_L0)))
    (.seq (.seq (.reg [⟨some 54, .fla 6 (.t 1), none⟩,
      ⟨some 55, .ld 1 false (.t 54), none⟩,
      ⟨some 56, .len (.t 55), none⟩,
      ⟨some 57, .bin .gtr (.t 56) (.c (.int .i64 50)), none⟩])
    (.cond (.t 57) (.seq (.reg [⟨some 2, .mov (.c (.int .i64 2)), none⟩])
    .ret) .skip))
    (.seq (.seq (.reg [⟨some 58, .fla 6 (.t 1), none⟩,
      ⟨some 59, .ld 1 false (.t 58), none⟩,
      ⟨some 60, .len (.t 59), none⟩,
      ⟨some 61, .mov (.c (.int .i64 0)), none⟩])
    (.block 3 (.loop ir_chaseref1_LetterFault_L1)))
    (.seq (.block 6 (.seq (.reg [⟨some 84, .fla 7 (.t 1), none⟩,
      ⟨some 85, .ld 1 false (.t 84), none⟩,
      ⟨some 86, .call 73 [.t 85], none⟩,
      ⟨some 87, .not (.t 86), none⟩,
      ⟨some 88, .mov (.t 87), none⟩,
      ⟨some 89, .fla 7 (.t 1), (some (88, false))⟩,
      ⟨some 90, .ld 1 false (.t 89), (some (88, false))⟩,
      ⟨some 91, .sln (.t 90), (some (88, false))⟩,
      ⟨some 92, .bin .gtr (.t 91) (.c (.int .i64 200)), (some (88, false))⟩,
      ⟨some 93, .pick (.t 88) (.c (.bool true)) (.t 92), none⟩,
      ⟨some 83, .mov (.t 93), none⟩])
    (.cond (.t 83) (.seq (.reg [⟨some 2, .mov (.c (.int .i64 3)), none⟩])
    .ret) .skip)))
    (.seq (.reg [⟨some 94, .fla 8 (.t 1), none⟩,
      ⟨some 95, .ld 1 false (.t 94), none⟩,
      ⟨some 96, .call 10 [.t 95], none⟩,
      ⟨some 2, .mov (.t 96), none⟩])
    .ret))))))))
def rs_chaseref1_LetterFault : List IRes := [.t 2]
theorem ck_chaseref1_LetterFault : chkF Tryz.prog Tryz.f109 ir_chaseref1_LetterFault rs_chaseref1_LetterFault 97 = true := by kernel_rfl
/- paperchase/chaseref1.LetterFault$1 -/
def ir_chaseref1_LetterFault_1 : IC :=
  (.seq (.reg [⟨some 2, .box 71 (.t 0), none⟩,
      ⟨some 3, .mov (.c (.bool false)), none⟩])
    (.seq (.reg [⟨some 4, .fla 1 (.t 2), none⟩,
      ⟨some 5, .ld 1 false (.t 4), none⟩,
      ⟨some 6, .fla 1 (.t 1), none⟩,
      ⟨some 7, .ld 1 false (.t 6), none⟩,
      ⟨some 8, .bin .eql (.t 5) (.t 7), none⟩,
      ⟨some 3, .mov (.t 8), none⟩])
    .ret))
def rs_chaseref1_LetterFault_1 : List IRes := [.t 3]
theorem ck_chaseref1_LetterFault_1 : chkF Tryz.prog Tryz.f190 ir_chaseref1_LetterFault_1 rs_chaseref1_LetterFault_1 9 = true := by kernel_rfl

theorem LetterFault1_ok {E : Envt} (x y : AdT) : PCall Tryz.prog E 190 [.agg (adC x), .ptr (adC y)] (· = .bool (decide (x.2 = y.2))) := by
  simp only [adC]
  refine pcallF mixed Tryz.func190 ck_chaseref1_LetterFault_1 ?_
  simp only [a0, l0, OS.ao, List.map_cons, List.map_nil, List.length_cons, List.length_nil, List.cons_append, List.nil_append, Nat.reduceSub, Nat.reduceAdd, List.replicate_succ, List.replicate_zero, ir_chaseref1_LetterFault_1, rs_chaseref1_LetterFault_1, ZZ, YY, Ze, ite_true, ite_false, forall_const, reduceCtorEq, Nat.reduceAdd, Nat.reduceMul, Nat.reduceLeDiff, Nat.reduceLT, Nat.reduceEqDiff]
theorem adrE_take (l : List AdT) (k : Nat) : (adrE l).take k = adrE (l.take k) := by simp [adrE, List.map_take]
theorem LetterFault_ok (m : Ltr) (hm : LtB m) : PCall Tryz.prog E0 109 [.agg (ltV m)] (· = int (letF m)) := by
  obtain ⟨b1, b2, b3, b4, b5, b6, b7, b8, b9, b10, b11⟩ := hm
  refine pcallF mixed Tryz.func109 ck_chaseref1_LetterFault ?_
  simp only [a0, l0, OS.ao, List.map_cons, List.map_nil, List.length_cons, List.length_nil, List.cons_append, List.nil_append, Nat.reduceSub, Nat.reduceAdd, List.replicate_succ, List.replicate_zero, ir_chaseref1_LetterFault, rs_chaseref1_LetterFault, ZZ, YY, Ze, ite_true, ite_false, forall_const, reduceCtorEq, Nat.reduceAdd, Nat.reduceMul, Nat.reduceLeDiff, Nat.reduceLT, Nat.reduceEqDiff]
  simp only [ltV, ZZ, YY, Ze, ite_true, ite_false, forall_const, reduceCtorEq, Nat.reduceAdd, Nat.reduceMul, Nat.reduceLeDiff, Nat.reduceLT, Nat.reduceEqDiff]
  refine use1 (messageIdR_ok m.id (by omega)) rfl (.inl rfl) ?_
  simp only [ZZ, YY, Ze, ite_true, ite_false, forall_const, reduceCtorEq, Nat.reduceAdd, Nat.reduceMul, Nat.reduceLeDiff, Nat.reduceLT, Nat.reduceEqDiff]
  refine br ?_ ?_
  · intro h
    have h1 : idB m.id = false := by simpa using h
    simp only [ZZ, YY, Ze, ite_true, ite_false, forall_const, reduceCtorEq, Nat.reduceAdd, Nat.reduceMul, Nat.reduceLeDiff, Nat.reduceLT, Nat.reduceEqDiff]
    rw [letF, if_pos h1]
  intro h
  have h1 : ¬ idB m.id = false := by simpa using h
  simp only [ZZ, YY, Ze, ite_true, ite_false, forall_const, reduceCtorEq, Nat.reduceAdd, Nat.reduceMul, Nat.reduceLeDiff, Nat.reduceLT, Nat.reduceEqDiff]
  refine use1 (MomentR_ok m.at_) rfl (.inl rfl) ?_
  simp only [ZZ, YY, Ze, ite_true, ite_false, forall_const, reduceCtorEq, Nat.reduceAdd, Nat.reduceMul, Nat.reduceLeDiff, Nat.reduceLT, Nat.reduceEqDiff]
  refine br ?_ ?_
  · intro h
    have h2 : inE m.at_ 0 5761439 = false := by simpa using h
    simp only [ZZ, YY, Ze, ite_true, ite_false, forall_const, reduceCtorEq, Nat.reduceAdd, Nat.reduceMul, Nat.reduceLeDiff, Nat.reduceLT, Nat.reduceEqDiff]
    rw [letF, if_neg h1, if_pos h2]
  intro h
  have h2 : ¬ inE m.at_ 0 5761439 = false := by simpa using h
  simp only [ZZ, YY, Ze, ite_true, ite_false, forall_const, reduceCtorEq, Nat.reduceAdd, Nat.reduceMul, Nat.reduceLeDiff, Nat.reduceLT, Nat.reduceEqDiff]
  refine use1 (AddressRight_ok m.fr.1 m.fr.2 (by omega) (by omega)) rfl (.inl rfl) ?_
  simp only [ZZ, YY, Ze, ite_true, ite_false, forall_const, reduceCtorEq, Nat.reduceAdd, Nat.reduceMul, Nat.reduceLeDiff, Nat.reduceLT, Nat.reduceEqDiff]
  refine br ?_ ?_
  · intro h
    have h3 : adB m.fr = false := by unfold adB; rwa [Bool.not_eq_true'] at h
    simp only [ZZ, YY, Ze, ite_true, ite_false, forall_const, reduceCtorEq, Nat.reduceAdd, Nat.reduceMul, Nat.reduceLeDiff, Nat.reduceLT, Nat.reduceEqDiff]
    rw [letF, if_neg h1, if_neg h2, if_pos h3]
  intro h
  have h3 : ¬ adB m.fr = false := by unfold adB; rw [Bool.not_eq_false'] at h; rw [h]; decide
  simp only [ZZ, YY, Ze, ite_true, ite_false, forall_const, reduceCtorEq, Nat.reduceAdd, Nat.reduceMul, Nat.reduceLeDiff, Nat.reduceLT, Nat.reduceEqDiff, adrE_len]
  ((repeat' (with_reducible apply And.intro)) <;> try ((first | first | assumption | trivial | exact (fun hq => by rw [hq]; rfl) | exact i64_of (by omega) (by omega) | omega | (simp; done) | (simp; omega) | (intro hsc; have hs0 := hsc; (try have hsd := of_decide_eq_true hsc); (try simp only [Bool.not_eq_true', Bool.or_eq_false_iff, Bool.and_eq_true, Bool.or_eq_true, decide_eq_true_eq, decide_eq_false_iff_not] at hsc); (repeat' (with_reducible apply And.intro)) <;> (first | assumption | trivial | exact (fun hq => by rw [hq]; rfl) | exact i64_of (by omega) (by omega) | omega | (simp; done) | (simp; omega) | (intro hse; simp [hse, hs0]; done) | (intro hse; simp only [hse, hs0, Bool.true_and, Bool.and_true, Bool.not_false, Bool.not_true, Bool.and_self]; done))))))
  refine br ?_ ?_
  · intro h
    have h4 := of_decide_eq_true h
    simp only [ZZ, YY, Ze, ite_true, ite_false, forall_const, reduceCtorEq, Nat.reduceAdd, Nat.reduceMul, Nat.reduceLeDiff, Nat.reduceLT, Nat.reduceEqDiff]
    rw [letF, if_neg h1, if_neg h2, if_neg h3, if_pos h4]
  intro h
  have h4 := of_decide_eq_false h
  have hL : letF m = firstE [adsErr (m.tos ++ m.ccs), tailF m] := by rw [letF, if_neg h1, if_neg h2, if_neg h3, if_neg h4]
  rw [hL]
  clear hL h
  simp only [ZZ, YY, Ze, ite_true, ite_false, forall_const, reduceCtorEq, Nat.reduceAdd, Nat.reduceMul, Nat.reduceLeDiff, Nat.reduceLT, Nat.reduceEqDiff]
  refine useF (ConcatA_ok [m.tos, m.ccs] (by simp) (by simp [lenSA]; omega)) rfl rfl ?_
  rintro es rfl
  rw [cat2]
  have hb : ∀ a ∈ m.tos ++ m.ccs, a.1.length ≤ 1000000 ∧ a.2.length ≤ 1000000 := fun a ha => (List.mem_append.1 ha).elim (b5 a) (b7 a)
  have hAl : (m.tos ++ m.ccs).length ≤ 2000000 := by simp; omega
  generalize m.tos ++ m.ccs = A at *
  simp only [ZZ, YY, Ze, ite_true, ite_false, forall_const, reduceCtorEq, Nat.reduceAdd, Nat.reduceMul, Nat.reduceLeDiff, Nat.reduceLT, Nat.reduceEqDiff, adrE_len]
  rw [adsErr]
  have hget := fun {k : Nat} (h : k < A.length) => firstE_drop _ k _ (tab_getI (adF1 A) h)
  generalize hG : (List.range A.length).map (adF1 A) = G at *
  have hGl : G.length = A.length := by rw [← hG]; simp
  refine loop_re (fun n fr L => ∃ (k : Nat), k ≤ A.length ∧ n = A.length - k ∧ (firstE G = firstE (G.drop k)) ∧ fr = [.any, .adr (.l 1) 0, .any, .p (.sl 2 (adrE A)), .any, .any, .any, .any, .any, .any, .any, .any, .any, .any, .any, .any, .any, .any, .any, .any, .any, .any, .any, .any, .any, .any, .any, .any, .any, .any, .any, .any, .any, .any, .any, .any, .any, .any, .p (.sl 2 (adrE A)), .p (int (A.length : Nat)), .p (int (k : Nat)), .any, .any, .any, .any, .any, .any, .any, .any, .any, .any, .any, .any, .any, .any, .any, .any, .any, .any, .any, .any, .any, .any, .any, .any, .any, .any, .any, .any, .any, .any, .any, .any, .any, .any, .any, .any, .any, .any, .any, .any, .any, .any, .any, .any, .any, .any, .any, .any, .any, .any, .any, .any, .any, .any, .any, .any] ∧ L = [(.l 1, .box [.p (.str m.id), .p (int m.at_), .p (.str m.fr.1), .p (.str m.fr.2), .p (.sl 2 (adrE m.tos)), .p (.sl 2 (adrE m.ccs)), .p (.sl 1 (strE m.refs)), .p (.str m.sub), .p (.str m.body)] tMail)]) (A.length) [.any, .adr (.l 1) 0, .any, .p (.sl 2 (adrE A)), .any, .any, .any, .any, .any, .any, .any, .any, .any, .any, .any, .any, .any, .any, .any, .any, .any, .any, .any, .any, .any, .any, .any, .any, .any, .any, .any, .any, .any, .any, .any, .any, .any, .any, .p (.sl 2 (adrE A)), .p (int (A.length : Nat)), .p (int (0 : Nat)), .any, .any, .any, .any, .any, .any, .any, .any, .any, .any, .any, .any, .any, .any, .any, .any, .any, .any, .any, .any, .any, .any, .any, .any, .any, .any, .any, .any, .any, .any, .any, .any, .any, .any, .any, .any, .any, .any, .any, .any, .any, .any, .any, .any, .any, .any, .any, .any, .any, .any, .any, .any, .any, .any, .any, .any] [(.l 1, .box [.p (.str m.id), .p (int m.at_), .p (.str m.fr.1), .p (.str m.fr.2), .p (.sl 2 (adrE m.tos)), .p (.sl 2 (adrE m.ccs)), .p (.sl 1 (strE m.refs)), .p (.str m.sub), .p (.str m.body)] tMail)] (ReOk.trans (re_row (k := .l 37) rfl) (by simp only [ZZ, YY, Ze, ite_true, ite_false, forall_const, reduceCtorEq, Nat.reduceAdd, Nat.reduceMul, Nat.reduceLeDiff, Nat.reduceLT, Nat.reduceEqDiff]; exact re_weak (by (simp only [ZZ, YY, Ze, ite_true, ite_false, forall_const, reduceCtorEq, Nat.reduceAdd, Nat.reduceMul, Nat.reduceLeDiff, Nat.reduceLT, Nat.reduceEqDiff]; try trivial)) (by simp only [ZZ, YY, Ze, ite_true, ite_false, forall_const, reduceCtorEq, Nat.reduceAdd, Nat.reduceMul, Nat.reduceLeDiff, Nat.reduceLT, Nat.reduceEqDiff]))) ⟨0, by omega, by omega, by simp, rfl, rfl⟩ ?_
  rintro n fr L ⟨k, hk, rfl, hf, rfl, rfl⟩
  simp only [ir_chaseref1_LetterFault_L0, ZZ, YY, Ze, ite_true, ite_false, forall_const, reduceCtorEq, Nat.reduceAdd, Nat.reduceMul, Nat.reduceLeDiff, Nat.reduceLT, Nat.reduceEqDiff]
  refine br ?_ ?_
  · intro h
    have hlt : k < A.length := by have := of_decide_eq_true h; omega
    obtain ⟨x, hx⟩ : ∃ x, A[k]? = some x := ⟨_, List.getElem?_eq_getElem hlt⟩
    have hg := adrE_get hx
    have hxd : A.getD k ([], []) = x := by simp [List.getD, hx]
    have hbx := hb x (List.mem_of_getElem? hx)
    have hd := hget hlt
    have htk := adrE_take A k
    have he : adF1 A k = firstE [whenE (!(nameB x.1 && mailF x.2)) 3, whenE ((A.take k).any (fun p => decide (p.2 = x.2))) 6] := by rw [adF1, hxd]; rfl
    simp only [ZZ, YY, Ze, ite_true, ite_false, forall_const, reduceCtorEq, Nat.reduceAdd, Nat.reduceMul, Nat.reduceLeDiff, Nat.reduceLT, Nat.reduceEqDiff, hg, adrE_len]
    ((repeat' (with_reducible apply And.intro)) <;> try ((first | first | assumption | trivial | exact (fun hq => by rw [hq]; rfl) | exact i64_of (by omega) (by omega) | omega | (simp; done) | (simp; omega) | (intro hsc; have hs0 := hsc; (try have hsd := of_decide_eq_true hsc); (try simp only [Bool.not_eq_true', Bool.or_eq_false_iff, Bool.and_eq_true, Bool.or_eq_true, decide_eq_true_eq, decide_eq_false_iff_not] at hsc); (repeat' (with_reducible apply And.intro)) <;> (first | assumption | trivial | exact (fun hq => by rw [hq]; rfl) | exact i64_of (by omega) (by omega) | omega | (simp; done) | (simp; omega) | (intro hse; simp [hse, hs0]; done) | (intro hse; simp only [hse, hs0, Bool.true_and, Bool.and_true, Bool.not_false, Bool.not_true, Bool.and_self]; done))))))
    refine use1 (AddressRight_ok x.1 x.2 (by omega) (by omega)) rfl (.inl rfl) ?_
    simp only [ZZ, YY, Ze, ite_true, ite_false, forall_const, reduceCtorEq, Nat.reduceAdd, Nat.reduceMul, Nat.reduceLeDiff, Nat.reduceLT, Nat.reduceEqDiff]
    refine br ?_ ?_
    · intro h7
      have hk : adF1 A k = 3 := by rw [he, h7]; rfl
      simp only [ZZ, YY, Ze, ite_true, ite_false, forall_const, reduceCtorEq, Nat.reduceAdd, Nat.reduceMul, Nat.reduceLeDiff, Nat.reduceLT, Nat.reduceEqDiff]
      rw [firstE_cons, hf, hd, hk]
      rfl
    intro h7
    simp only [ZZ, YY, Ze, ite_true, ite_false, forall_const, reduceCtorEq, Nat.reduceAdd, Nat.reduceMul, Nat.reduceLeDiff, Nat.reduceLT, Nat.reduceEqDiff, adrE_len, htk]
    ((repeat' (with_reducible apply And.intro)) <;> try ((first | first | assumption | trivial | exact (fun hq => by rw [hq]; rfl) | exact i64_of (by omega) (by omega) | omega | (simp; done) | (simp; omega) | (intro hsc; have hs0 := hsc; (try have hsd := of_decide_eq_true hsc); (try simp only [Bool.not_eq_true', Bool.or_eq_false_iff, Bool.and_eq_true, Bool.or_eq_true, decide_eq_true_eq, decide_eq_false_iff_not] at hsc); (repeat' (with_reducible apply And.intro)) <;> (first | assumption | trivial | exact (fun hq => by rw [hq]; rfl) | exact i64_of (by omega) (by omega) | omega | (simp; done) | (simp; omega) | (intro hse; simp [hse, hs0]; done) | (intro hse; simp only [hse, hs0, Bool.true_and, Bool.and_true, Bool.not_false, Bool.not_true, Bool.and_self]; done))))))
    refine use1 (ContainsFuncA_ok (A.take k) 190 [.ptr (adC x)] (fun p => decide (p.2 = x.2)) (by simp; omega) (fun _ => by kernel_rfl) rfl (fun y _ => LetterFault1_ok y x) (fun _ => rfl) (fun _ => rfl)) rfl (.inr rfl) ?_
    simp only [ZZ, YY, Ze, ite_true, ite_false, forall_const, reduceCtorEq, Nat.reduceAdd, Nat.reduceMul, Nat.reduceLeDiff, Nat.reduceLT, Nat.reduceEqDiff]
    refine br ?_ ?_
    · intro ho
      have hk : adF1 A k = 6 := by rw [he, h7, ho]; rfl
      simp only [ZZ, YY, Ze, ite_true, ite_false, forall_const, reduceCtorEq, Nat.reduceAdd, Nat.reduceMul, Nat.reduceLeDiff, Nat.reduceLT, Nat.reduceEqDiff]
      rw [firstE_cons, hf, hd, hk]
      rfl
    intro ho
    have hk : adF1 A k = 0 := by rw [he, h7, ho]; rfl
    simp only [ZZ, YY, Ze, ite_true, ite_false, forall_const, reduceCtorEq, Nat.reduceAdd, Nat.reduceMul, Nat.reduceLeDiff, Nat.reduceLT, Nat.reduceEqDiff]
    ((repeat' (with_reducible apply And.intro)) <;> try ((first | first | assumption | trivial | exact (fun hq => by rw [hq]; rfl) | exact i64_of (by omega) (by omega) | omega | (simp; done) | (simp; omega) | (intro hsc; have hs0 := hsc; (try have hsd := of_decide_eq_true hsc); (try simp only [Bool.not_eq_true', Bool.or_eq_false_iff, Bool.and_eq_true, Bool.or_eq_true, decide_eq_true_eq, decide_eq_false_iff_not] at hsc); (repeat' (with_reducible apply And.intro)) <;> (first | assumption | trivial | exact (fun hq => by rw [hq]; rfl) | exact i64_of (by omega) (by omega) | omega | (simp; done) | (simp; omega) | (intro hse; simp [hse, hs0]; done) | (intro hse; simp only [hse, hs0, Bool.true_and, Bool.and_true, Bool.not_false, Bool.not_true, Bool.and_self]; done))))))
    refine end_round (A.length - (k + 1)) [.any, .adr (.l 1) 0, .any, .p (.sl 2 (adrE A)), .any, .any, .any, .any, .any, .any, .any, .any, .any, .any, .any, .any, .any, .any, .any, .any, .any, .any, .any, .any, .any, .any, .any, .any, .any, .any, .any, .any, .any, .any, .any, .any, .any, .any, .p (.sl 2 (adrE A)), .p (int (A.length : Nat)), .p (int ((k + 1) : Nat)), .any, .any, .any, .any, .any, .any, .any, .any, .any, .any, .any, .any, .any, .any, .any, .any, .any, .any, .any, .any, .any, .any, .any, .any, .any, .any, .any, .any, .any, .any, .any, .any, .any, .any, .any, .any, .any, .any, .any, .any, .any, .any, .any, .any, .any, .any, .any, .any, .any, .any, .any, .any, .any, .any, .any, .any] [(.l 1, .box [.p (.str m.id), .p (int m.at_), .p (.str m.fr.1), .p (.str m.fr.2), .p (.sl 2 (adrE m.tos)), .p (.sl 2 (adrE m.ccs)), .p (.sl 1 (strE m.refs)), .p (.str m.sub), .p (.str m.body)] tMail)] (by omega) (by (simp only [ZZ, YY, Ze, ite_true, ite_false, forall_const, reduceCtorEq, Nat.reduceAdd, Nat.reduceMul, Nat.reduceLeDiff, Nat.reduceLT, Nat.reduceEqDiff]; try trivial)) (by (simp only [ZZ, YY, Ze, ite_true, ite_false, forall_const, reduceCtorEq, Nat.reduceAdd, Nat.reduceMul, Nat.reduceLeDiff, Nat.reduceLT, Nat.reduceEqDiff]; try trivial)) ⟨k + 1, by omega, rfl, by rw [hf, hd, if_pos hk], rfl, rfl⟩
  intro h
  have hge : A.length ≤ k := by have := of_decide_eq_false h; omega
  rw [show firstE [firstE G, tailF m] = tailF m from by rw [firstE_cons, hf, List.drop_eq_nil_of_le (by omega)]; rw [firstE_nil, if_pos rfl, firstE_cons, firstE_nil]; split <;> rename_i h <;> simp [h]]
  simp only [ZZ, YY, Ze, ite_true, ite_false, forall_const, reduceCtorEq, Nat.reduceAdd, Nat.reduceMul, Nat.reduceLeDiff, Nat.reduceLT, Nat.reduceEqDiff, strE_len]
  refine br ?_ ?_
  · intro h
    have h5 := of_decide_eq_true h
    simp only [ZZ, YY, Ze, ite_true, ite_false, forall_const, reduceCtorEq, Nat.reduceAdd, Nat.reduceMul, Nat.reduceLeDiff, Nat.reduceLT, Nat.reduceEqDiff]
    rw [tailF, if_pos h5]
  intro h
  have h5 := of_decide_eq_false h
  rw [tailF, if_neg h5]
  clear h hf hget hG hGl
  simp only [ZZ, YY, Ze, ite_true, ite_false, forall_const, reduceCtorEq, Nat.reduceAdd, Nat.reduceMul, Nat.reduceLeDiff, Nat.reduceLT, Nat.reduceEqDiff, strE_len]
  rw [refsErr]
  have hget := fun {k : Nat} (h : k < m.refs.length) => firstE_drop _ k _ (tab_getI (refF1 m.id m.refs) h)
  generalize hG : (List.range m.refs.length).map (refF1 m.id m.refs) = R at *
  have hGl : R.length = m.refs.length := by rw [← hG]; simp
  refine loop_intro (fun n fr L => ∃ (j : Nat), j ≤ m.refs.length ∧ n = m.refs.length - j ∧ (firstE R = firstE (R.drop j)) ∧ fr = [.any, .adr (.l 1) 0, .any, .any, .any, .any, .any, .any, .any, .any, .any, .any, .any, .any, .any, .any, .any, .any, .any, .any, .any, .any, .any, .any, .any, .any, .any, .any, .any, .any, .any, .any, .any, .any, .any, .any, .any, .any, .any, .any, .any, .any, .any, .any, .any, .any, .any, .any, .any, .any, .any, .any, .any, .any, .any, .any, .any, .any, .any, .p (.sl 1 (strE m.refs)), .p (int (m.refs.length : Nat)), .p (int (j : Nat)), .any, .any, .any, .any, .any, .any, .any, .any, .any, .any, .any, .any, .any, .any, .any, .any, .any, .any, .any, .any, .any, .any, .any, .any, .any, .any, .any, .any, .any, .any, .any, .any, .any, .any, .any] ∧ L = [(.l 1, .box [.p (.str m.id), .p (int m.at_), .p (.str m.fr.1), .p (.str m.fr.2), .p (.sl 2 (adrE m.tos)), .p (.sl 2 (adrE m.ccs)), .p (.sl 1 (strE m.refs)), .p (.str m.sub), .p (.str m.body)] tMail)]) (m.refs.length) [.any, .adr (.l 1) 0, .any, .any, .any, .any, .any, .any, .any, .any, .any, .any, .any, .any, .any, .any, .any, .any, .any, .any, .any, .any, .any, .any, .any, .any, .any, .any, .any, .any, .any, .any, .any, .any, .any, .any, .any, .any, .any, .any, .any, .any, .any, .any, .any, .any, .any, .any, .any, .any, .any, .any, .any, .any, .any, .any, .any, .any, .any, .p (.sl 1 (strE m.refs)), .p (int (m.refs.length : Nat)), .p (int (0 : Nat)), .any, .any, .any, .any, .any, .any, .any, .any, .any, .any, .any, .any, .any, .any, .any, .any, .any, .any, .any, .any, .any, .any, .any, .any, .any, .any, .any, .any, .any, .any, .any, .any, .any, .any, .any] [(.l 1, .box [.p (.str m.id), .p (int m.at_), .p (.str m.fr.1), .p (.str m.fr.2), .p (.sl 2 (adrE m.tos)), .p (.sl 2 (adrE m.ccs)), .p (.sl 1 (strE m.refs)), .p (.str m.sub), .p (.str m.body)] tMail)] (by simp only [ZZ, YY, Ze, ite_true, ite_false, forall_const, reduceCtorEq, Nat.reduceAdd, Nat.reduceMul, Nat.reduceLeDiff, Nat.reduceLT, Nat.reduceEqDiff, strE_len]; try trivial) (by (simp only [ZZ, YY, Ze, ite_true, ite_false, forall_const, reduceCtorEq, Nat.reduceAdd, Nat.reduceMul, Nat.reduceLeDiff, Nat.reduceLT, Nat.reduceEqDiff]; try trivial)) ⟨0, by omega, by omega, by simp, rfl, rfl⟩ ?_
  rintro n fr L ⟨j, hj, rfl, hf, rfl, rfl⟩
  simp only [ir_chaseref1_LetterFault_L1, ZZ, YY, Ze, ite_true, ite_false, forall_const, reduceCtorEq, Nat.reduceAdd, Nat.reduceMul, Nat.reduceLeDiff, Nat.reduceLT, Nat.reduceEqDiff]
  refine br ?_ ?_
  · intro h
    have hlt : j < m.refs.length := by have := of_decide_eq_true h; omega
    obtain ⟨x, hx⟩ : ∃ x, m.refs[j]? = some x := ⟨_, List.getElem?_eq_getElem hlt⟩
    have hg := strE_get hx
    have hxd : m.refs.getD j [] = x := by simp [List.getD, hx]
    have hbx := b9 x (List.mem_of_getElem? hx)
    have hd := hget hlt
    have htk := strE_take m.refs j
    have he : refF1 m.id m.refs j = firstE [whenE (!idB x) 3, whenE (decide (x ∈ m.refs.take j)) 6, whenE (decide (x = m.id)) 14] := by rw [refF1, hxd]
    simp only [ZZ, YY, Ze, ite_true, ite_false, forall_const, reduceCtorEq, Nat.reduceAdd, Nat.reduceMul, Nat.reduceLeDiff, Nat.reduceLT, Nat.reduceEqDiff, hg, strE_len]
    ((repeat' (with_reducible apply And.intro)) <;> try ((first | first | assumption | trivial | exact (fun hq => by rw [hq]; rfl) | exact i64_of (by omega) (by omega) | omega | (simp; done) | (simp; omega) | (intro hsc; have hs0 := hsc; (try have hsd := of_decide_eq_true hsc); (try simp only [Bool.not_eq_true', Bool.or_eq_false_iff, Bool.and_eq_true, Bool.or_eq_true, decide_eq_true_eq, decide_eq_false_iff_not] at hsc); (repeat' (with_reducible apply And.intro)) <;> (first | assumption | trivial | exact (fun hq => by rw [hq]; rfl) | exact i64_of (by omega) (by omega) | omega | (simp; done) | (simp; omega) | (intro hse; simp [hse, hs0]; done) | (intro hse; simp only [hse, hs0, Bool.true_and, Bool.and_true, Bool.not_false, Bool.not_true, Bool.and_self]; done))))))
    refine use1 (messageIdR_ok x (by omega)) rfl (.inl rfl) ?_
    simp only [ZZ, YY, Ze, ite_true, ite_false, forall_const, reduceCtorEq, Nat.reduceAdd, Nat.reduceMul, Nat.reduceLeDiff, Nat.reduceLT, Nat.reduceEqDiff]
    refine br ?_ ?_
    · intro h7
      have hk : refF1 m.id m.refs j = 3 := by rw [he, h7]; rfl
      simp only [ZZ, YY, Ze, ite_true, ite_false, forall_const, reduceCtorEq, Nat.reduceAdd, Nat.reduceMul, Nat.reduceLeDiff, Nat.reduceLT, Nat.reduceEqDiff]
      rw [firstE_cons, hf, hd, hk]
      rfl
    intro h7
    simp only [ZZ, YY, Ze, ite_true, ite_false, forall_const, reduceCtorEq, Nat.reduceAdd, Nat.reduceMul, Nat.reduceLeDiff, Nat.reduceLT, Nat.reduceEqDiff, htk, strE_len]
    ((repeat' (with_reducible apply And.intro)) <;> try ((first | first | assumption | trivial | exact (fun hq => by rw [hq]; rfl) | exact i64_of (by omega) (by omega) | omega | (simp; done) | (simp; omega) | (intro hsc; have hs0 := hsc; (try have hsd := of_decide_eq_true hsc); (try simp only [Bool.not_eq_true', Bool.or_eq_false_iff, Bool.and_eq_true, Bool.or_eq_true, decide_eq_true_eq, decide_eq_false_iff_not] at hsc); (repeat' (with_reducible apply And.intro)) <;> (first | assumption | trivial | exact (fun hq => by rw [hq]; rfl) | exact i64_of (by omega) (by omega) | omega | (simp; done) | (simp; omega) | (intro hse; simp [hse, hs0]; done) | (intro hse; simp only [hse, hs0, Bool.true_and, Bool.and_true, Bool.not_false, Bool.not_true, Bool.and_self]; done))))))
    refine use1 (ContainsS_ok _ x (by rw [List.length_take]; omega)) rfl (.inl rfl) ?_
    simp only [ZZ, YY, Ze, ite_true, ite_false, forall_const, reduceCtorEq, Nat.reduceAdd, Nat.reduceMul, Nat.reduceLeDiff, Nat.reduceLT, Nat.reduceEqDiff]
    refine br ?_ ?_
    · intro ho
      have hk : refF1 m.id m.refs j = 6 := by rw [he, h7, ho]; rfl
      simp only [ZZ, YY, Ze, ite_true, ite_false, forall_const, reduceCtorEq, Nat.reduceAdd, Nat.reduceMul, Nat.reduceLeDiff, Nat.reduceLT, Nat.reduceEqDiff]
      rw [firstE_cons, hf, hd, hk]
      rfl
    intro ho
    simp only [ZZ, YY, Ze, ite_true, ite_false, forall_const, reduceCtorEq, Nat.reduceAdd, Nat.reduceMul, Nat.reduceLeDiff, Nat.reduceLT, Nat.reduceEqDiff]
    refine br ?_ ?_
    · intro hq
      have hk : refF1 m.id m.refs j = 14 := by rw [he, h7, ho, hq]; rfl
      simp only [ZZ, YY, Ze, ite_true, ite_false, forall_const, reduceCtorEq, Nat.reduceAdd, Nat.reduceMul, Nat.reduceLeDiff, Nat.reduceLT, Nat.reduceEqDiff]
      rw [firstE_cons, hf, hd, hk]
      rfl
    intro hq
    have hk : refF1 m.id m.refs j = 0 := by rw [he, h7, ho, hq]; rfl
    simp only [ZZ, YY, Ze, ite_true, ite_false, forall_const, reduceCtorEq, Nat.reduceAdd, Nat.reduceMul, Nat.reduceLeDiff, Nat.reduceLT, Nat.reduceEqDiff]
    ((repeat' (with_reducible apply And.intro)) <;> try ((first | first | assumption | trivial | exact (fun hq => by rw [hq]; rfl) | exact i64_of (by omega) (by omega) | omega | (simp; done) | (simp; omega) | (intro hsc; have hs0 := hsc; (try have hsd := of_decide_eq_true hsc); (try simp only [Bool.not_eq_true', Bool.or_eq_false_iff, Bool.and_eq_true, Bool.or_eq_true, decide_eq_true_eq, decide_eq_false_iff_not] at hsc); (repeat' (with_reducible apply And.intro)) <;> (first | assumption | trivial | exact (fun hq => by rw [hq]; rfl) | exact i64_of (by omega) (by omega) | omega | (simp; done) | (simp; omega) | (intro hse; simp [hse, hs0]; done) | (intro hse; simp only [hse, hs0, Bool.true_and, Bool.and_true, Bool.not_false, Bool.not_true, Bool.and_self]; done))))))
    refine end_round (m.refs.length - (j + 1)) [.any, .adr (.l 1) 0, .any, .any, .any, .any, .any, .any, .any, .any, .any, .any, .any, .any, .any, .any, .any, .any, .any, .any, .any, .any, .any, .any, .any, .any, .any, .any, .any, .any, .any, .any, .any, .any, .any, .any, .any, .any, .any, .any, .any, .any, .any, .any, .any, .any, .any, .any, .any, .any, .any, .any, .any, .any, .any, .any, .any, .any, .any, .p (.sl 1 (strE m.refs)), .p (int (m.refs.length : Nat)), .p (int ((j + 1) : Nat)), .any, .any, .any, .any, .any, .any, .any, .any, .any, .any, .any, .any, .any, .any, .any, .any, .any, .any, .any, .any, .any, .any, .any, .any, .any, .any, .any, .any, .any, .any, .any, .any, .any, .any, .any] [(.l 1, .box [.p (.str m.id), .p (int m.at_), .p (.str m.fr.1), .p (.str m.fr.2), .p (.sl 2 (adrE m.tos)), .p (.sl 2 (adrE m.ccs)), .p (.sl 1 (strE m.refs)), .p (.str m.sub), .p (.str m.body)] tMail)] (by omega) (by (simp only [ZZ, YY, Ze, ite_true, ite_false, forall_const, reduceCtorEq, Nat.reduceAdd, Nat.reduceMul, Nat.reduceLeDiff, Nat.reduceLT, Nat.reduceEqDiff]; try trivial)) (by (simp only [ZZ, YY, Ze, ite_true, ite_false, forall_const, reduceCtorEq, Nat.reduceAdd, Nat.reduceMul, Nat.reduceLeDiff, Nat.reduceLT, Nat.reduceEqDiff]; try trivial)) ⟨j + 1, by omega, rfl, by rw [hf, hd, if_pos hk], rfl, rfl⟩
  intro h
  have hge : m.refs.length ≤ j := by have := of_decide_eq_false h; omega
  have hfin : firstE [firstE R, subErr m.sub, bodyE m.body] = firstE [subErr m.sub, bodyE m.body] := by rw [firstE_cons, hf, List.drop_eq_nil_of_le (by omega)]; rfl
  rw [hfin]
  simp only [ZZ, YY, Ze, ite_true, ite_false, forall_const, reduceCtorEq, Nat.reduceAdd, Nat.reduceMul, Nat.reduceLeDiff, Nat.reduceLT, Nat.reduceEqDiff]
  refine use1 (PlainOf_ok m.sub (by omega)) rfl (.inl rfl) ?_
  simp only [ZZ, YY, Ze, ite_true, ite_false, forall_const, reduceCtorEq, Nat.reduceAdd, Nat.reduceMul, Nat.reduceLeDiff, Nat.reduceLT, Nat.reduceEqDiff]
  refine ⟨fun h => by rw [h]; rfl, ?_⟩
  rw [Bool.or_comm]
  refine br ?_ ?_
  · intro h
    simp only [ZZ, YY, Ze, ite_true, ite_false, forall_const, reduceCtorEq, Nat.reduceAdd, Nat.reduceMul, Nat.reduceLeDiff, Nat.reduceLT, Nat.reduceEqDiff]
    rw [firstE_cons, subErr, whenE, if_pos h]
    rfl
  intro h
  have hs : subErr m.sub = 0 := by rw [subErr, whenE, if_neg (by rw [h]; decide)]
  simp only [ZZ, YY, Ze, ite_true, ite_false, forall_const, reduceCtorEq, Nat.reduceAdd, Nat.reduceMul, Nat.reduceLeDiff, Nat.reduceLT, Nat.reduceEqDiff]
  refine use1 (BodyFault_ok m.body (by omega)) rfl (.inl rfl) ?_
  simp only [ZZ, YY, Ze, ite_true, ite_false, forall_const, reduceCtorEq, Nat.reduceAdd, Nat.reduceMul, Nat.reduceLeDiff, Nat.reduceLT, Nat.reduceEqDiff]
  rw [firstE_cons, hs, if_pos rfl, firstE_cons, firstE_nil]
  split
  · rename_i h; rw [h]
  · rfl
end Go.Proofs.YtidmphcocnaonaaGreatDoor

/- Letters are checked: both sides. -/
namespace Go.Proofs.YtidmphcocnaonaaGreatDoor
open Go.RowKit
set_option linter.unusedVariables false
set_option linter.unusedSimpArgs false
set_option linter.defProp false

/- slices.IndexFunc[[]paperchase/api.Mail,paperchase/api.Mail] -/
def ir_slices_IndexFunc_api_Mail_api_Mail_L0 : IC :=
  (.seq (.reg [⟨some 9, .bin .lss (.t 8) (.t 7), none⟩])
    (.seq (.cond (.t 9) .skip (.exit 0))
    (.seq (.block 1 (.seq (.reg [⟨some 10, .mov (.t 8), none⟩,
      ⟨some 5, .mov (.t 10), none⟩])
    (.seq (.reg [⟨some 11, .mov (.t 1), none⟩,
      ⟨some 12, .mov (.t 0), none⟩,
      ⟨some 13, .mov (.t 5), none⟩,
      ⟨some 14, .ixa 9 (.t 12) (.t 13), none⟩,
      ⟨some 15, .ld 9 true (.t 14), none⟩,
      ⟨some 16, .callv (.t 11) [.t 15], none⟩])
    (.cond (.t 16) (.seq (.reg [⟨some 17, .mov (.t 5), none⟩,
      ⟨some 4, .mov (.t 17), none⟩])
    .ret) .skip))))
    (.reg [⟨some 18, .bin .add (.t 8) (.c (.int .i64 1)), none⟩,
      ⟨some 8, .mov (.t 18), none⟩]))))
def ir_slices_IndexFunc_api_Mail_api_Mail : IC :=
  (.seq (.reg [⟨some 4, .mov (.c (.int .i64 0)), none⟩])
    (.seq (.seq (.reg [⟨some 6, .mov (.t 0), none⟩,
      ⟨some 7, .len (.t 6), none⟩,
      ⟨some 8, .mov (.c (.int .i64 0)), none⟩])
    (.block 0 (.loop ir_slices_IndexFunc_api_Mail_api_Mail_L0)))
    (.seq (.reg [⟨some 4, .mov (.c (.int .i64 (-1))), none⟩])
    .ret)))
def rs_slices_IndexFunc_api_Mail_api_Mail : List IRes := [.t 4]
theorem ck_slices_IndexFunc_api_Mail_api_Mail : chkF Tryz.prog Tryz.f191 ir_slices_IndexFunc_api_Mail_api_Mail rs_slices_IndexFunc_api_Mail_api_Mail 19 = true := by kernel_rfl
/- slices.ContainsFunc[[]paperchase/api.Mail,paperchase/api.Mail] -/
def ir_slices_ContainsFunc_api_Mail_api_Mail : IC :=
  (.seq (.reg [⟨some 4, .mov (.c (.bool false)), none⟩])
    (.seq (.reg [⟨some 5, .mov (.t 0), none⟩,
      ⟨some 6, .mov (.t 1), none⟩,
      ⟨some 7, .call 191 [.t 5, .t 6], none⟩,
      ⟨some 8, .bin .geq (.t 7) (.c (.int .i64 0)), none⟩,
      ⟨some 4, .mov (.t 8), none⟩])
    .ret))
def rs_slices_ContainsFunc_api_Mail_api_Mail : List IRes := [.t 4]
theorem ck_slices_ContainsFunc_api_Mail_api_Mail : chkF Tryz.prog Tryz.f110 ir_slices_ContainsFunc_api_Mail_api_Mail rs_slices_ContainsFunc_api_Mail_api_Mail 9 = true := by kernel_rfl
/- paperchase/chaseref1.LettersFault$1 -/
def ir_chaseref1_LettersFault_1 : IC :=
  (.seq (.reg [⟨some 2, .box 74 (.t 0), none⟩,
      ⟨some 3, .mov (.c (.bool false)), none⟩])
    (.seq (.reg [⟨some 4, .fla 0 (.t 2), none⟩,
      ⟨some 5, .ld 1 false (.t 4), none⟩,
      ⟨some 6, .fla 0 (.t 1), none⟩,
      ⟨some 7, .ld 1 false (.t 6), none⟩,
      ⟨some 8, .bin .eql (.t 5) (.t 7), none⟩,
      ⟨some 3, .mov (.t 8), none⟩])
    .ret))
def rs_chaseref1_LettersFault_1 : List IRes := [.t 3]
theorem ck_chaseref1_LettersFault_1 : chkF Tryz.prog Tryz.f111 ir_chaseref1_LettersFault_1 rs_chaseref1_LettersFault_1 9 = true := by kernel_rfl
/- paperchase/thread.CheckMails -/
def ir_thread_CheckMails_L0 : IC :=
  (.seq (.reg [⟨some 15, .bin .lss (.t 14) (.t 13), none⟩])
    (.seq (.cond (.t 15) .skip (.exit 0))
    (.seq (.block 1 (.seq (.reg [⟨some 16, .ixa 9 (.t 12) (.t 14), none⟩,
      ⟨some 17, .ld 9 true (.t 16), none⟩,
      ⟨some 6, .alc 74 [.str [], .int .i64 0, .str [], .str [], .nl 2, .nl 2, .nl 1, .str [], .str []], none⟩,
      ⟨none, .st 9 (.t 6) (.t 17), none⟩])
    (.seq (.seq (.drg [⟨some 18, .ld 9 true (.t 6), none⟩,
      ⟨some 19, .pcall 0 112 [.t 18], none⟩,
      ⟨some 20, .mov (.t 3), none⟩,
      ⟨some 21, .fla 0 (.t 6), none⟩,
      ⟨some 22, .ld 1 false (.t 21), none⟩,
      ⟨some 23, .mpl false (.bool false) (.t 20) (.t 22), none⟩,
      ⟨some 24, .pcall 1 69 [.t 23, .c (.int .i64 6)], none⟩,
      ⟨some 25, .bsl 1 [.t 19, .t 24], none⟩,
      ⟨some 26, .pcall 2 66 [.t 25], none⟩,
      ⟨some 7, .mov (.t 26), none⟩])
    (.seq (.reg [⟨some 27, .mov (.t 7), none⟩,
      ⟨some 28, .bin .neq (.t 27) (.c (.int .i64 0)), none⟩])
    (.cond (.t 28) (.seq (.reg [⟨some 29, .mov (.t 7), none⟩,
      ⟨some 2, .mov (.t 29), none⟩])
    .ret) .skip)))
    (.seq (.reg [⟨some 30, .mov (.t 3), none⟩,
      ⟨some 31, .fla 0 (.t 6), none⟩,
      ⟨some 32, .ld 1 false (.t 31), none⟩,
      ⟨none, .mpu (.t 30) (.t 32) (.c (.bool true)), none⟩])
    (.reg [⟨some 33, .mov (.t 4), none⟩,
      ⟨some 34, .fla 8 (.t 6), none⟩,
      ⟨some 35, .ld 1 false (.t 34), none⟩,
      ⟨some 36, .sln (.t 35), none⟩,
      ⟨some 37, .bin .add (.t 33) (.t 36), none⟩,
      ⟨some 4, .mov (.t 37), none⟩])))))
    (.reg [⟨some 38, .bin .add (.t 14) (.c (.int .i64 1)), none⟩,
      ⟨some 14, .mov (.t 38), none⟩]))))
def ir_thread_CheckMails : IC :=
  (.seq (.reg [⟨some 2, .mov (.c (.int .i64 0)), none⟩])
    (.seq (.seq (.reg [⟨some 8, .mov (.t 0), none⟩,
      ⟨some 9, .len (.t 8), none⟩,
      ⟨some 10, .bin .gtr (.t 9) (.c (.int .i64 2000)), none⟩])
    (.cond (.t 10) (.seq (.reg [⟨some 2, .mov (.c (.int .i64 2)), none⟩])
    .ret) .skip))
    (.seq (.reg [⟨some 11, .mkm 9 4, none⟩,
      ⟨some 3, .mov (.t 11), none⟩])
    (.seq (.reg [⟨some 4, .mov (.c (.int .i64 0)), none⟩])
    (.seq (.seq (.reg [⟨some 12, .mov (.t 0), none⟩,
      ⟨some 13, .len (.t 12), none⟩,
      ⟨some 14, .mov (.c (.int .i64 0)), none⟩])
    (.block 0 (.loop ir_thread_CheckMails_L0)))
    (.seq (.reg [⟨some 39, .mov (.t 4), none⟩,
      ⟨some 40, .bin .gtr (.t 39) (.c (.int .i64 500000)), none⟩,
      ⟨some 41, .call 69 [.t 40, .c (.int .i64 2)], none⟩,
      ⟨some 2, .mov (.t 41), none⟩])
    .ret))))))
def rs_thread_CheckMails : List IRes := [.t 2]
theorem ck_thread_CheckMails : chkF Tryz.prog Tryz.f37 ir_thread_CheckMails rs_thread_CheckMails 42 = true := by kernel_rfl
/- paperchase/chaseref1.LettersFault -/
def ir_chaseref1_LettersFault_L1 : IC :=
  (.seq (.reg [⟨some 33, .bin .lss (.t 32) (.t 31), none⟩])
    (.seq (.cond (.t 33) .skip (.exit 2))
    (.seq (.block 3 (.seq (.reg [⟨some 34, .ixa 9 (.t 30) (.t 32), none⟩,
      ⟨some 35, .ld 9 true (.t 34), none⟩,
      ⟨some 8, .alc 74 [.str [], .int .i64 0, .str [], .str [], .nl 2, .nl 2, .nl 1, .str [], .str []], none⟩,
      ⟨none, .st 9 (.t 8) (.t 35), none⟩])
    (.reg [⟨some 36, .mov (.t 6), none⟩,
      ⟨some 37, .fla 8 (.t 8), none⟩,
      ⟨some 38, .ld 1 false (.t 37), none⟩,
      ⟨some 39, .sln (.t 38), none⟩,
      ⟨some 40, .bin .add (.t 36) (.t 39), none⟩,
      ⟨some 6, .mov (.t 40), none⟩])))
    (.reg [⟨some 41, .bin .add (.t 32) (.c (.int .i64 1)), none⟩,
      ⟨some 32, .mov (.t 41), none⟩]))))
def ir_chaseref1_LettersFault_L0 : IC :=
  (.seq (.reg [⟨some 15, .bin .lss (.t 14) (.t 13), none⟩])
    (.seq (.cond (.t 15) .skip (.exit 0))
    (.seq (.block 1 (.seq (.reg [⟨some 16, .mov (.t 14), none⟩,
      ⟨some 17, .ixa 9 (.t 12) (.t 14), none⟩,
      ⟨some 18, .ld 9 true (.t 17), none⟩,
      ⟨some 4, .alc 74 [.str [], .int .i64 0, .str [], .str [], .nl 2, .nl 2, .nl 1, .str [], .str []], none⟩,
      ⟨some 3, .mov (.t 16), none⟩,
      ⟨none, .st 9 (.t 4) (.t 18), none⟩])
    (.seq (.seq (.reg [⟨some 19, .ld 9 true (.t 4), none⟩,
      ⟨some 20, .call 109 [.t 19], none⟩,
      ⟨some 5, .mov (.t 20), none⟩])
    (.seq (.reg [⟨some 21, .mov (.t 5), none⟩,
      ⟨some 22, .bin .neq (.t 21) (.c (.int .i64 0)), none⟩])
    (.cond (.t 22) (.seq (.reg [⟨some 23, .mov (.t 5), none⟩,
      ⟨some 2, .mov (.t 23), none⟩])
    .ret) .skip)))
    (.seq (.reg [⟨some 24, .mov (.t 0), none⟩,
      ⟨some 25, .mov (.t 3), none⟩,
      ⟨some 26, .vsl 9 (.t 24) none (some (.t 25)), none⟩,
      ⟨some 27, .mkf 111 [.t 4], none⟩,
      ⟨some 28, .call 110 [.t 26, .t 27], none⟩])
    (.cond (.t 28) (.seq (.reg [⟨some 2, .mov (.c (.int .i64 6)), none⟩])
    .ret) .skip)))))
    (.reg [⟨some 29, .bin .add (.t 14) (.c (.int .i64 1)), none⟩,
      ⟨some 14, .mov (.t 29), none⟩]))))
def ir_chaseref1_LettersFault : IC :=
  (.seq (.reg [⟨some 2, .mov (.c (.int .i64 0)), none⟩])
    (.seq (.seq (.reg [⟨some 9, .mov (.t 0), none⟩,
      ⟨some 10, .len (.t 9), none⟩,
      ⟨some 11, .bin .gtr (.t 10) (.c (.int .i64 2000)), none⟩])
    (.cond (.t 11) (.seq (.reg [⟨some 2, .mov (.c (.int .i64 2)), none⟩])
    .ret) .skip))
    (.seq (.seq (.reg [⟨some 12, .mov (.t 0), none⟩,
      ⟨some 13, .len (.t 12), none⟩,
      ⟨some 14, .mov (.c (.int .i64 0)), none⟩])
    (.block 0 (.loop ir_chaseref1_LettersFault_L0)))
    (.seq (.reg [⟨some 6, .mov (.c (.int .i64 0)), none⟩])
    (.seq (.seq (.reg [⟨some 30, .mov (.t 0), none⟩,
      ⟨some 31, .len (.t 30), none⟩,
      ⟨some 32, .mov (.c (.int .i64 0)), none⟩])
    (.block 2 (.loop ir_chaseref1_LettersFault_L1)))
    (.seq (.seq (.reg [⟨some 42, .mov (.t 6), none⟩,
      ⟨some 43, .bin .gtr (.t 42) (.c (.int .i64 500000)), none⟩])
    (.cond (.t 43) (.seq (.reg [⟨some 2, .mov (.c (.int .i64 2)), none⟩])
    .ret) .skip))
    (.seq (.reg [⟨some 2, .mov (.c (.int .i64 0)), none⟩])
    .ret)))))))
def rs_chaseref1_LettersFault : List IRes := [.t 2]
theorem ck_chaseref1_LettersFault : chkF Tryz.prog Tryz.f36 ir_chaseref1_LettersFault rs_chaseref1_LettersFault 44 = true := by kernel_rfl

section
variable {E : Envt}
theorem IndexFuncM_ok (l : List Ltr) (f : FuncId) (ps : List PV) (q : Ltr → Bool) (hl : l.length ≤ 1000000000) (hfn : Unit → fnB Tryz.prog f = true) (hps : Zl [] (ps.map .p) = true) (hf : ∀ x ∈ l, PCall Tryz.prog E f (.agg (ltV x) :: ps) (· = .bool (q x))) (hn : ∀ x, Zbh [] (.p (.agg (ltV x)) :: ps.map .p) = some (.agg (ltV x) :: ps)) (hr : ∀ x, Zbj (.p (.agg (ltV x)) :: ps.map .p) = true) : PCall Tryz.prog E 191 [.sl 9 (ltE l), .clo f ps] (· = int (idxF q l)) := by
  refine pcallF mixed Tryz.func191 ck_slices_IndexFunc_api_Mail_api_Mail ?_
  simp only [a0, l0, OS.ao, List.map_cons, List.map_nil, List.length_cons, List.length_nil, List.cons_append, List.nil_append, Nat.reduceSub, Nat.reduceAdd, List.replicate_succ, List.replicate_zero, ir_slices_IndexFunc_api_Mail_api_Mail, rs_slices_IndexFunc_api_Mail_api_Mail, ZZ, YY, Ze, ite_true, ite_false, forall_const, reduceCtorEq, Nat.reduceAdd, Nat.reduceMul, Nat.reduceLeDiff, Nat.reduceLT, Nat.reduceEqDiff]
  simp only [ZZ, YY, Ze, ite_true, ite_false, forall_const, reduceCtorEq, Nat.reduceAdd, Nat.reduceMul, Nat.reduceLeDiff, Nat.reduceLT, Nat.reduceEqDiff, ltE_len]
  refine loop_intro (fun n fr L => ∃ (k : Nat), k ≤ l.length ∧ n = l.length - k ∧ (∀ x ∈ l.take k, q x = false) ∧ fr = [.p (.sl 9 (ltE l)), .p (.clo f ps), .any, .any, .any, .any, .any, .p (int (l.length : Nat)), .p (int (k : Nat)), .any, .any, .any, .any, .any, .any, .any, .any, .any, .any] ∧ L = []) (l.length) [.p (.sl 9 (ltE l)), .p (.clo f ps), .any, .any, .any, .any, .any, .p (int (l.length : Nat)), .p (int (0 : Nat)), .any, .any, .any, .any, .any, .any, .any, .any, .any, .any] [] (by simp only [ltE_len, ZZ, YY, Ze, ite_true, ite_false, forall_const, reduceCtorEq, Nat.reduceAdd, Nat.reduceMul, Nat.reduceLeDiff, Nat.reduceLT, Nat.reduceEqDiff]; try trivial) (by (simp only [ZZ, YY, Ze, ite_true, ite_false, forall_const, reduceCtorEq, Nat.reduceAdd, Nat.reduceMul, Nat.reduceLeDiff, Nat.reduceLT, Nat.reduceEqDiff]; try trivial)) ⟨0, by omega, by omega, by simp, rfl, rfl⟩ ?_
  rintro n fr L ⟨k, hk, rfl, hno, rfl, rfl⟩
  simp only [ir_slices_IndexFunc_api_Mail_api_Mail_L0, ZZ, YY, Ze, ite_true, ite_false, forall_const, reduceCtorEq, Nat.reduceAdd, Nat.reduceMul, Nat.reduceLeDiff, Nat.reduceLT, Nat.reduceEqDiff]
  refine br ?_ ?_
  · intro h
    have hlt : k < l.length := by have := of_decide_eq_true h; omega
    obtain ⟨x, hx⟩ : ∃ x, l[k]? = some x := ⟨_, List.getElem?_eq_getElem hlt⟩
    have hg := ltE_get hx
    simp only [ltV] at hg
    simp only [ZZ, YY, Ze, ite_true, ite_false, forall_const, reduceCtorEq, Nat.reduceAdd, Nat.reduceMul, Nat.reduceLeDiff, Nat.reduceLT, Nat.reduceEqDiff, hg, ltE_len, hfn ()]
    refine ⟨⟨by omega, by omega⟩, by omega, hps, ?_⟩
    refine use1 (hf x (List.mem_of_getElem? hx)) (hn x) (.inl (hr x)) ?_
    simp only [ZZ, YY, Ze, ite_true, ite_false, forall_const, reduceCtorEq, Nat.reduceAdd, Nat.reduceMul, Nat.reduceLeDiff, Nat.reduceLT, Nat.reduceEqDiff]
    refine br ?_ ?_
    · intro hq
      simp only [ZZ, YY, Ze, ite_true, ite_false, forall_const, reduceCtorEq, Nat.reduceAdd, Nat.reduceMul, Nat.reduceLeDiff, Nat.reduceLT, Nat.reduceEqDiff]
      rw [idxF_hit hx hq hno]
    · intro hq
      simp only [ZZ, YY, Ze, ite_true, ite_false, forall_const, reduceCtorEq, Nat.reduceAdd, Nat.reduceMul, Nat.reduceLeDiff, Nat.reduceLT, Nat.reduceEqDiff]
      ((repeat' (with_reducible apply And.intro)) <;> try ((first | first | assumption | trivial | exact (fun hq => by rw [hq]; rfl) | exact i64_of (by omega) (by omega) | omega | (simp; done) | (simp; omega) | (intro hsc; have hs0 := hsc; (try have hsd := of_decide_eq_true hsc); (try simp only [Bool.not_eq_true', Bool.or_eq_false_iff, Bool.and_eq_true, Bool.or_eq_true, decide_eq_true_eq, decide_eq_false_iff_not] at hsc); (repeat' (with_reducible apply And.intro)) <;> (first | assumption | trivial | exact (fun hq => by rw [hq]; rfl) | exact i64_of (by omega) (by omega) | omega | (simp; done) | (simp; omega) | (intro hse; simp [hse, hs0]; done) | (intro hse; simp only [hse, hs0, Bool.true_and, Bool.and_true, Bool.not_false, Bool.not_true, Bool.and_self]; done))))))
      refine end_round (l.length - (k + 1)) [.p (.sl 9 (ltE l)), .p (.clo f ps), .any, .any, .any, .any, .any, .p (int (l.length : Nat)), .p (int ((k + 1) : Nat)), .any, .any, .any, .any, .any, .any, .any, .any, .any, .any] [] (by omega) (by (simp only [ZZ, YY, Ze, ite_true, ite_false, forall_const, reduceCtorEq, Nat.reduceAdd, Nat.reduceMul, Nat.reduceLeDiff, Nat.reduceLT, Nat.reduceEqDiff]; try trivial)) (by (simp only [ZZ, YY, Ze, ite_true, ite_false, forall_const, reduceCtorEq, Nat.reduceAdd, Nat.reduceMul, Nat.reduceLeDiff, Nat.reduceLT, Nat.reduceEqDiff]; try trivial)) ⟨k + 1, by omega, rfl, by rw [List.take_succ_eq_append_getElem hlt]; intro y hy; rcases List.mem_append.1 hy with hy | hy; exact hno y hy; rw [List.mem_singleton] at hy; rw [hy, (List.getElem?_eq_some_iff.1 hx).2]; exact hq, rfl, rfl⟩
  · intro h
    have hge : l.length ≤ k := by have := of_decide_eq_false h; omega
    rw [List.take_of_length_le hge] at hno
    simp only [ZZ, YY, Ze, ite_true, ite_false, forall_const, reduceCtorEq, Nat.reduceAdd, Nat.reduceMul, Nat.reduceLeDiff, Nat.reduceLT, Nat.reduceEqDiff]
    rw [idxF_none hno]
theorem ContainsFuncM_ok (l : List Ltr) (f : FuncId) (ps : List PV) (q : Ltr → Bool) (hl : l.length ≤ 1000000000) (hfn : Unit → fnB Tryz.prog f = true) (hps : Zl [] (ps.map .p) = true) (hf : ∀ x ∈ l, PCall Tryz.prog E f (.agg (ltV x) :: ps) (· = .bool (q x))) (hn : ∀ x, Zbh [] (.p (.agg (ltV x)) :: ps.map .p) = some (.agg (ltV x) :: ps)) (hr : ∀ x, Zbj (.p (.agg (ltV x)) :: ps.map .p) = true) : PCall Tryz.prog E 110 [.sl 9 (ltE l), .clo f ps] (· = .bool (l.any q)) := by
  refine pcallF mixed Tryz.func110 ck_slices_ContainsFunc_api_Mail_api_Mail ?_
  simp only [a0, l0, OS.ao, List.map_cons, List.map_nil, List.length_cons, List.length_nil, List.cons_append, List.nil_append, Nat.reduceSub, Nat.reduceAdd, List.replicate_succ, List.replicate_zero, ir_slices_ContainsFunc_api_Mail_api_Mail, rs_slices_ContainsFunc_api_Mail_api_Mail, ZZ, YY, Ze, ite_true, ite_false, forall_const, reduceCtorEq, Nat.reduceAdd, Nat.reduceMul, Nat.reduceLeDiff, Nat.reduceLT, Nat.reduceEqDiff]
  refine use1 (IndexFuncM_ok l f ps q hl hfn hps hf hn hr) rfl (.inl rfl) ?_
  simp only [ZZ, YY, Ze, ite_true, ite_false, forall_const, reduceCtorEq, Nat.reduceAdd, Nat.reduceMul, Nat.reduceLeDiff, Nat.reduceLT, Nat.reduceEqDiff]
  rw [idxF_any]
theorem LettersFault1_ok (x y : Ltr) : PCall Tryz.prog E 111 [.agg (ltV x), .ptr (ltV y)] (· = .bool (decide (x.id = y.id))) := by
  simp only [ltV]
  refine pcallF mixed Tryz.func111 ck_chaseref1_LettersFault_1 ?_
  simp only [a0, l0, OS.ao, List.map_cons, List.map_nil, List.length_cons, List.length_nil, List.cons_append, List.nil_append, Nat.reduceSub, Nat.reduceAdd, List.replicate_succ, List.replicate_zero, ir_chaseref1_LettersFault_1, rs_chaseref1_LettersFault_1, ZZ, YY, Ze, ite_true, ite_false, forall_const, reduceCtorEq, Nat.reduceAdd, Nat.reduceMul, Nat.reduceLeDiff, Nat.reduceLT, Nat.reduceEqDiff]
end
def lt0 : Ltr := ⟨[], 0, ([], []), [], [], [], [], []⟩
theorem ltsF_eq (l : List Ltr) (h : ¬ 2000 < (l.length : Int)) : ltsF l = firstE [firstE ((List.range l.length).map (ltsF1 l lt0)), whenE (decide (500000 < (bodySum l : Int))) 2] := by rw [ltsF, if_neg h]; rfl
theorem ltE_take (l : List Ltr) (k : Nat) : (ltE l).take k = ltE (l.take k) := by simp [ltE, List.map_take]
theorem CheckMails_ok (l : List Ltr) (hb : ∀ m ∈ l, LtB m) : PCall Tryz.prog E0 37 [.sl 9 (ltE l)] (· = int (ltsF l)) := by
  refine pcallF mixed Tryz.func37 ck_thread_CheckMails ?_
  simp only [a0, l0, OS.ao, List.map_cons, List.map_nil, List.length_cons, List.length_nil, List.cons_append, List.nil_append, Nat.reduceSub, Nat.reduceAdd, List.replicate_succ, List.replicate_zero, ir_thread_CheckMails, rs_thread_CheckMails, ZZ, YY, Ze, ite_true, ite_false, forall_const, reduceCtorEq, Nat.reduceAdd, Nat.reduceMul, Nat.reduceLeDiff, Nat.reduceLT, Nat.reduceEqDiff]
  simp only [ZZ, YY, Ze, ite_true, ite_false, forall_const, reduceCtorEq, Nat.reduceAdd, Nat.reduceMul, Nat.reduceLeDiff, Nat.reduceLT, Nat.reduceEqDiff, ltE_len]
  refine br ?_ ?_
  · intro h
    have h1 := of_decide_eq_true h
    simp only [ZZ, YY, Ze, ite_true, ite_false, forall_const, reduceCtorEq, Nat.reduceAdd, Nat.reduceMul, Nat.reduceLeDiff, Nat.reduceLT, Nat.reduceEqDiff]
    rw [ltsF, if_pos h1]
  intro h
  have h1 := of_decide_eq_false h
  have hle : l.length ≤ 2000 := by omega
  rw [ltsF_eq l h1]
  clear h
  have hbs := bodySum_le l (fun m hm => (hb m hm).2.2.2.2.2.2.2.2.2.2)
  simp only [ZZ, YY, Ze, ite_true, ite_false, forall_const, reduceCtorEq, Nat.reduceAdd, Nat.reduceMul, Nat.reduceLeDiff, Nat.reduceLT, Nat.reduceEqDiff, ltE_len]
  have hget := fun {k : Nat} (h : k < l.length) => firstE_drop _ k _ (tab_getI (ltsF1 l lt0) h)
  generalize hG : (List.range l.length).map (ltsF1 l lt0) = G at *
  have hGl : G.length = l.length := by rw [← hG]; simp
  refine loop_intro (fun n fr L => ∃ (k : Nat) (kv : List (List UInt8 × PV)), k ≤ l.length ∧ n = l.length - k ∧ (firstE G = firstE (G.drop k)) ∧ (setOf kv ((l.take k).map (·.id))) ∧ fr = [.any, .any, .any, .mp (.l 11), .p (int (bodySum (l.take k) : Nat)), .any, .any, .any, .any, .any, .any, .any, .p (.sl 9 (ltE l)), .p (int (l.length : Nat)), .p (int (k : Nat)), .any, .any, .any, .any, .any, .any, .any, .any, .any, .any, .any, .any, .any, .any, .any, .any, .any, .any, .any, .any, .any, .any, .any, .any, .any, .any, .any] ∧ L = [(.l 11, .map kv 9 4)]) (l.length) [.any, .any, .any, .mp (.l 11), .p (int (bodySum (l.take 0) : Nat)), .any, .any, .any, .any, .any, .any, .any, .p (.sl 9 (ltE l)), .p (int (l.length : Nat)), .p (int (0 : Nat)), .any, .any, .any, .any, .any, .any, .any, .any, .any, .any, .any, .any, .any, .any, .any, .any, .any, .any, .any, .any, .any, .any, .any, .any, .any, .any, .any] [(.l 11, .map [] 9 4)] (by simp only [ZZ, YY, Ze, ite_true, ite_false, forall_const, reduceCtorEq, Nat.reduceAdd, Nat.reduceMul, Nat.reduceLeDiff, Nat.reduceLT, Nat.reduceEqDiff, ltE_len, List.take_zero]; try trivial) (by (simp only [ZZ, YY, Ze, ite_true, ite_false, forall_const, reduceCtorEq, Nat.reduceAdd, Nat.reduceMul, Nat.reduceLeDiff, Nat.reduceLT, Nat.reduceEqDiff]; try trivial)) ⟨0, [], by omega, by omega, by simp, setOf_nil, rfl, rfl⟩ ?_
  rintro n fr L ⟨k, kv, hk, rfl, hf, hkv, rfl, rfl⟩
  simp only [ir_thread_CheckMails_L0, ZZ, YY, Ze, ite_true, ite_false, forall_const, reduceCtorEq, Nat.reduceAdd, Nat.reduceMul, Nat.reduceLeDiff, Nat.reduceLT, Nat.reduceEqDiff]
  refine br ?_ ?_
  · intro h
    have hlt : k < l.length := by have := of_decide_eq_true h; omega
    obtain ⟨x, hx⟩ : ∃ x, l[k]? = some x := ⟨_, List.getElem?_eq_getElem hlt⟩
    have hg := ltE_get hx
    simp only [ltV] at hg
    have hxd : l.getD k lt0 = x := by simp [List.getD, hx]
    have hbx := hb x (List.mem_of_getElem? hx)
    have hd := hget hlt
    have hs0 := hbs k hk
    have hs1 := hbs (k + 1) hlt
    have hsx := bodySum_take hx
    have hsn : mpD kv x.id (.bool false) = .bool ((l.take k).any (fun p => decide (p.id = x.id))) := by rw [hkv x.id, any_mem]
    have he : firstE [letF x, whenE ((l.take k).any (fun p => decide (p.id = x.id))) 6] = ltsF1 l lt0 k := by rw [ltsF1, hxd]
    simp only [ZZ, YY, Ze, ite_true, ite_false, forall_const, reduceCtorEq, Nat.reduceAdd, Nat.reduceMul, Nat.reduceLeDiff, Nat.reduceLT, Nat.reduceEqDiff, hg, ltE_len]
    ((repeat' (with_reducible apply And.intro)) <;> try ((first | first | assumption | trivial | exact (fun hq => by rw [hq]; rfl) | exact i64_of (by omega) (by omega) | omega | (simp; done) | (simp; omega) | (intro hsc; have hs0 := hsc; (try have hsd := of_decide_eq_true hsc); (try simp only [Bool.not_eq_true', Bool.or_eq_false_iff, Bool.and_eq_true, Bool.or_eq_true, decide_eq_true_eq, decide_eq_false_iff_not] at hsc); (repeat' (with_reducible apply And.intro)) <;> (first | assumption | trivial | exact (fun hq => by rw [hq]; rfl) | exact i64_of (by omega) (by omega) | omega | (simp; done) | (simp; omega) | (intro hse; simp [hse, hs0]; done) | (intro hse; simp only [hse, hs0, Bool.true_and, Bool.and_true, Bool.not_false, Bool.not_true, Bool.and_self]; done))))))
    refine drg3 (x1 := int (letF x)) (x2 := int (whenE ((l.take k).any (fun p => decide (p.id = x.id))) 6)) (x3 := int (ltsF1 l lt0 k)) ?_
    simp only [ZZ, YY, Ze, ite_true, ite_false, forall_const, reduceCtorEq, Nat.reduceAdd, Nat.reduceMul, Nat.reduceLeDiff, Nat.reduceLT, Nat.reduceEqDiff, hsn]
    ((repeat' (with_reducible apply And.intro)) <;> try (first | exact usep (TCheck_ok x hbx) rfl (.inl rfl) | exact usep (When_ok _ _) rfl (.inl rfl) | (rw [← he]; exact usep (First_ok [_, _] (by simp)) rfl (.inl rfl)) | (first | first | assumption | trivial | exact (fun hq => by rw [hq]; rfl) | exact i64_of (by omega) (by omega) | omega | (simp; done) | (simp; omega) | (intro hsc; have hs0 := hsc; (try have hsd := of_decide_eq_true hsc); (try simp only [Bool.not_eq_true', Bool.or_eq_false_iff, Bool.and_eq_true, Bool.or_eq_true, decide_eq_true_eq, decide_eq_false_iff_not] at hsc); (repeat' (with_reducible apply And.intro)) <;> (first | assumption | trivial | exact (fun hq => by rw [hq]; rfl) | exact i64_of (by omega) (by omega) | omega | (simp; done) | (simp; omega) | (intro hse; simp [hse, hs0]; done) | (intro hse; simp only [hse, hs0, Bool.true_and, Bool.and_true, Bool.not_false, Bool.not_true, Bool.and_self]; done))))))
    refine br ?_ ?_
    · intro h7
      have : ¬ ltsF1 l lt0 k = 0 := by simpa using h7
      simp only [ZZ, YY, Ze, ite_true, ite_false, forall_const, reduceCtorEq, Nat.reduceAdd, Nat.reduceMul, Nat.reduceLeDiff, Nat.reduceLT, Nat.reduceEqDiff]
      rw [firstE_cons, hf, hd, if_neg this, if_neg this]
    intro h7
    have : ltsF1 l lt0 k = 0 := by simpa using h7
    simp only [ZZ, YY, Ze, ite_true, ite_false, forall_const, reduceCtorEq, Nat.reduceAdd, Nat.reduceMul, Nat.reduceLeDiff, Nat.reduceLT, Nat.reduceEqDiff]
    ((repeat' (with_reducible apply And.intro)) <;> try ((first | first | assumption | trivial | exact (fun hq => by rw [hq]; rfl) | exact i64_of (by omega) (by omega) | omega | (simp; done) | (simp; omega) | (intro hsc; have hs0 := hsc; (try have hsd := of_decide_eq_true hsc); (try simp only [Bool.not_eq_true', Bool.or_eq_false_iff, Bool.and_eq_true, Bool.or_eq_true, decide_eq_true_eq, decide_eq_false_iff_not] at hsc); (repeat' (with_reducible apply And.intro)) <;> (first | assumption | trivial | exact (fun hq => by rw [hq]; rfl) | exact i64_of (by omega) (by omega) | omega | (simp; done) | (simp; omega) | (intro hse; simp [hse, hs0]; done) | (intro hse; simp only [hse, hs0, Bool.true_and, Bool.and_true, Bool.not_false, Bool.not_true, Bool.and_self]; done))))))
    refine end_round (l.length - (k + 1)) [.any, .any, .any, .mp (.l 11), .p (int (bodySum (l.take (k + 1)) : Nat)), .any, .any, .any, .any, .any, .any, .any, .p (.sl 9 (ltE l)), .p (int (l.length : Nat)), .p (int ((k + 1) : Nat)), .any, .any, .any, .any, .any, .any, .any, .any, .any, .any, .any, .any, .any, .any, .any, .any, .any, .any, .any, .any, .any, .any, .any, .any, .any, .any, .any] [(.l 11, .map (mpS kv x.id (.bool true)) 9 4)] (by omega) (by simp only [hsx, Int.natCast_add, ZZ, YY, Ze, ite_true, ite_false, forall_const, reduceCtorEq, Nat.reduceAdd, Nat.reduceMul, Nat.reduceLeDiff, Nat.reduceLT, Nat.reduceEqDiff]; try trivial) (by (simp only [ZZ, YY, Ze, ite_true, ite_false, forall_const, reduceCtorEq, Nat.reduceAdd, Nat.reduceMul, Nat.reduceLeDiff, Nat.reduceLT, Nat.reduceEqDiff]; try trivial)) ⟨k + 1, mpS kv x.id (.bool true), by omega, rfl, by rw [hf, hd, if_pos this], by rw [map_take_succ _ hx]; exact setOf_put hkv x.id, rfl, rfl⟩
  intro h
  have hge : l.length ≤ k := by have := of_decide_eq_false h; omega
  have hkk : l.take k = l := List.take_of_length_le hge
  rw [firstE_cons, hf, List.drop_eq_nil_of_le (by omega), firstE_nil, if_pos rfl, firstE_cons, firstE_nil]
  simp only [ZZ, YY, Ze, ite_true, ite_false, forall_const, reduceCtorEq, Nat.reduceAdd, Nat.reduceMul, Nat.reduceLeDiff, Nat.reduceLT, Nat.reduceEqDiff, hkk]
  refine use1 (When_ok _ 2) rfl (.inl rfl) ?_
  simp only [ZZ, YY, Ze, ite_true, ite_false, forall_const, reduceCtorEq, Nat.reduceAdd, Nat.reduceMul, Nat.reduceLeDiff, Nat.reduceLT, Nat.reduceEqDiff]
  split
  · rename_i h; rw [h]
  · rfl
theorem LettersFault_ok (l : List Ltr) (hb : ∀ m ∈ l, LtB m) : PCall Tryz.prog E0 36 [.sl 9 (ltE l)] (· = int (ltsF l)) := by
  refine pcallF mixed Tryz.func36 ck_chaseref1_LettersFault ?_
  simp only [a0, l0, OS.ao, List.map_cons, List.map_nil, List.length_cons, List.length_nil, List.cons_append, List.nil_append, Nat.reduceSub, Nat.reduceAdd, List.replicate_succ, List.replicate_zero, ir_chaseref1_LettersFault, rs_chaseref1_LettersFault, ZZ, YY, Ze, ite_true, ite_false, forall_const, reduceCtorEq, Nat.reduceAdd, Nat.reduceMul, Nat.reduceLeDiff, Nat.reduceLT, Nat.reduceEqDiff]
  simp only [ZZ, YY, Ze, ite_true, ite_false, forall_const, reduceCtorEq, Nat.reduceAdd, Nat.reduceMul, Nat.reduceLeDiff, Nat.reduceLT, Nat.reduceEqDiff, ltE_len]
  refine br ?_ ?_
  · intro h
    have h1 := of_decide_eq_true h
    simp only [ZZ, YY, Ze, ite_true, ite_false, forall_const, reduceCtorEq, Nat.reduceAdd, Nat.reduceMul, Nat.reduceLeDiff, Nat.reduceLT, Nat.reduceEqDiff]
    rw [ltsF, if_pos h1]
  intro h
  have h1 := of_decide_eq_false h
  have hle : l.length ≤ 2000 := by omega
  rw [ltsF_eq l h1]
  clear h
  have hbs := bodySum_le l (fun m hm => (hb m hm).2.2.2.2.2.2.2.2.2.2)
  simp only [ZZ, YY, Ze, ite_true, ite_false, forall_const, reduceCtorEq, Nat.reduceAdd, Nat.reduceMul, Nat.reduceLeDiff, Nat.reduceLT, Nat.reduceEqDiff, ltE_len]
  have hget := fun {k : Nat} (h : k < l.length) => firstE_drop _ k _ (tab_getI (ltsF1 l lt0) h)
  generalize hG : (List.range l.length).map (ltsF1 l lt0) = G at *
  have hGl : G.length = l.length := by rw [← hG]; simp
  refine loop_intro (fun n fr L => ∃ (k : Nat), k ≤ l.length ∧ n = l.length - k ∧ (firstE G = firstE (G.drop k)) ∧ fr = [.p (.sl 9 (ltE l)), .any, .any, .any, .any, .any, .any, .any, .any, .any, .any, .any, .p (.sl 9 (ltE l)), .p (int (l.length : Nat)), .p (int (k : Nat)), .any, .any, .any, .any, .any, .any, .any, .any, .any, .any, .any, .any, .any, .any, .any, .any, .any, .any, .any, .any, .any, .any, .any, .any, .any, .any, .any, .any, .any] ∧ L = []) (l.length) [.p (.sl 9 (ltE l)), .any, .any, .any, .any, .any, .any, .any, .any, .any, .any, .any, .p (.sl 9 (ltE l)), .p (int (l.length : Nat)), .p (int (0 : Nat)), .any, .any, .any, .any, .any, .any, .any, .any, .any, .any, .any, .any, .any, .any, .any, .any, .any, .any, .any, .any, .any, .any, .any, .any, .any, .any, .any, .any, .any] [] (by simp only [ZZ, YY, Ze, ite_true, ite_false, forall_const, reduceCtorEq, Nat.reduceAdd, Nat.reduceMul, Nat.reduceLeDiff, Nat.reduceLT, Nat.reduceEqDiff, ltE_len]; try trivial) (by (simp only [ZZ, YY, Ze, ite_true, ite_false, forall_const, reduceCtorEq, Nat.reduceAdd, Nat.reduceMul, Nat.reduceLeDiff, Nat.reduceLT, Nat.reduceEqDiff]; try trivial)) ⟨0, by omega, by omega, by simp, rfl, rfl⟩ ?_
  rintro n fr L ⟨k, hk, rfl, hf, rfl, rfl⟩
  simp only [ir_chaseref1_LettersFault_L0, ZZ, YY, Ze, ite_true, ite_false, forall_const, reduceCtorEq, Nat.reduceAdd, Nat.reduceMul, Nat.reduceLeDiff, Nat.reduceLT, Nat.reduceEqDiff]
  refine br ?_ ?_
  · intro h
    have hlt : k < l.length := by have := of_decide_eq_true h; omega
    obtain ⟨x, hx⟩ : ∃ x, l[k]? = some x := ⟨_, List.getElem?_eq_getElem hlt⟩
    have hg := ltE_get hx
    simp only [ltV] at hg
    have hxd : l.getD k lt0 = x := by simp [List.getD, hx]
    have hbx := hb x (List.mem_of_getElem? hx)
    have hd := hget hlt
    have htk := ltE_take l k
    have he : ltsF1 l lt0 k = firstE [letF x, whenE ((l.take k).any (fun p => decide (p.id = x.id))) 6] := by rw [ltsF1, hxd]
    simp only [ZZ, YY, Ze, ite_true, ite_false, forall_const, reduceCtorEq, Nat.reduceAdd, Nat.reduceMul, Nat.reduceLeDiff, Nat.reduceLT, Nat.reduceEqDiff, hg, ltE_len]
    ((repeat' (with_reducible apply And.intro)) <;> try ((first | first | assumption | trivial | exact (fun hq => by rw [hq]; rfl) | exact i64_of (by omega) (by omega) | omega | (simp; done) | (simp; omega) | (intro hsc; have hs0 := hsc; (try have hsd := of_decide_eq_true hsc); (try simp only [Bool.not_eq_true', Bool.or_eq_false_iff, Bool.and_eq_true, Bool.or_eq_true, decide_eq_true_eq, decide_eq_false_iff_not] at hsc); (repeat' (with_reducible apply And.intro)) <;> (first | assumption | trivial | exact (fun hq => by rw [hq]; rfl) | exact i64_of (by omega) (by omega) | omega | (simp; done) | (simp; omega) | (intro hse; simp [hse, hs0]; done) | (intro hse; simp only [hse, hs0, Bool.true_and, Bool.and_true, Bool.not_false, Bool.not_true, Bool.and_self]; done))))))
    refine use1 (LetterFault_ok x hbx) rfl (.inl rfl) ?_
    simp only [ZZ, YY, Ze, ite_true, ite_false, forall_const, reduceCtorEq, Nat.reduceAdd, Nat.reduceMul, Nat.reduceLeDiff, Nat.reduceLT, Nat.reduceEqDiff]
    refine br ?_ ?_
    · intro h7
      have h7 : ¬ letF x = 0 := by simpa using h7
      have hk : ltsF1 l lt0 k = letF x := by rw [he, firstE_cons, if_neg h7]
      simp only [ZZ, YY, Ze, ite_true, ite_false, forall_const, reduceCtorEq, Nat.reduceAdd, Nat.reduceMul, Nat.reduceLeDiff, Nat.reduceLT, Nat.reduceEqDiff]
      rw [firstE_cons, hf, hd, hk, if_neg h7, if_neg h7]
    intro h7
    have h7 : letF x = 0 := by simpa using h7
    simp only [ZZ, YY, Ze, ite_true, ite_false, forall_const, reduceCtorEq, Nat.reduceAdd, Nat.reduceMul, Nat.reduceLeDiff, Nat.reduceLT, Nat.reduceEqDiff, ltE_len, htk]
    ((repeat' (with_reducible apply And.intro)) <;> try ((first | first | assumption | trivial | exact (fun hq => by rw [hq]; rfl) | exact i64_of (by omega) (by omega) | omega | (simp; done) | (simp; omega) | (intro hsc; have hs0 := hsc; (try have hsd := of_decide_eq_true hsc); (try simp only [Bool.not_eq_true', Bool.or_eq_false_iff, Bool.and_eq_true, Bool.or_eq_true, decide_eq_true_eq, decide_eq_false_iff_not] at hsc); (repeat' (with_reducible apply And.intro)) <;> (first | assumption | trivial | exact (fun hq => by rw [hq]; rfl) | exact i64_of (by omega) (by omega) | omega | (simp; done) | (simp; omega) | (intro hse; simp [hse, hs0]; done) | (intro hse; simp only [hse, hs0, Bool.true_and, Bool.and_true, Bool.not_false, Bool.not_true, Bool.and_self]; done))))))
    refine use1 (ContainsFuncM_ok (l.take k) 111 [.ptr (ltV x)] (fun p => decide (p.id = x.id)) (by simp; omega) (fun _ => by kernel_rfl) rfl (fun y _ => LettersFault1_ok y x) (fun _ => rfl) (fun _ => rfl)) rfl (.inr rfl) ?_
    simp only [ZZ, YY, Ze, ite_true, ite_false, forall_const, reduceCtorEq, Nat.reduceAdd, Nat.reduceMul, Nat.reduceLeDiff, Nat.reduceLT, Nat.reduceEqDiff]
    refine br ?_ ?_
    · intro ho
      have hk : ltsF1 l lt0 k = 6 := by rw [he, h7, ho]; rfl
      simp only [ZZ, YY, Ze, ite_true, ite_false, forall_const, reduceCtorEq, Nat.reduceAdd, Nat.reduceMul, Nat.reduceLeDiff, Nat.reduceLT, Nat.reduceEqDiff]
      rw [firstE_cons, hf, hd, hk]
      rfl
    intro ho
    have hk : ltsF1 l lt0 k = 0 := by rw [he, h7, ho]; rfl
    simp only [ZZ, YY, Ze, ite_true, ite_false, forall_const, reduceCtorEq, Nat.reduceAdd, Nat.reduceMul, Nat.reduceLeDiff, Nat.reduceLT, Nat.reduceEqDiff]
    ((repeat' (with_reducible apply And.intro)) <;> try ((first | first | assumption | trivial | exact (fun hq => by rw [hq]; rfl) | exact i64_of (by omega) (by omega) | omega | (simp; done) | (simp; omega) | (intro hsc; have hs0 := hsc; (try have hsd := of_decide_eq_true hsc); (try simp only [Bool.not_eq_true', Bool.or_eq_false_iff, Bool.and_eq_true, Bool.or_eq_true, decide_eq_true_eq, decide_eq_false_iff_not] at hsc); (repeat' (with_reducible apply And.intro)) <;> (first | assumption | trivial | exact (fun hq => by rw [hq]; rfl) | exact i64_of (by omega) (by omega) | omega | (simp; done) | (simp; omega) | (intro hse; simp [hse, hs0]; done) | (intro hse; simp only [hse, hs0, Bool.true_and, Bool.and_true, Bool.not_false, Bool.not_true, Bool.and_self]; done))))))
    refine end_round (l.length - (k + 1)) [.p (.sl 9 (ltE l)), .any, .any, .any, .any, .any, .any, .any, .any, .any, .any, .any, .p (.sl 9 (ltE l)), .p (int (l.length : Nat)), .p (int ((k + 1) : Nat)), .any, .any, .any, .any, .any, .any, .any, .any, .any, .any, .any, .any, .any, .any, .any, .any, .any, .any, .any, .any, .any, .any, .any, .any, .any, .any, .any, .any, .any] [] (by omega) (by (simp only [ZZ, YY, Ze, ite_true, ite_false, forall_const, reduceCtorEq, Nat.reduceAdd, Nat.reduceMul, Nat.reduceLeDiff, Nat.reduceLT, Nat.reduceEqDiff]; try trivial)) (by (simp only [ZZ, YY, Ze, ite_true, ite_false, forall_const, reduceCtorEq, Nat.reduceAdd, Nat.reduceMul, Nat.reduceLeDiff, Nat.reduceLT, Nat.reduceEqDiff]; try trivial)) ⟨k + 1, by omega, rfl, by rw [hf, hd, if_pos hk], rfl, rfl⟩
  intro h
  have hge : l.length ≤ k := by have := of_decide_eq_false h; omega
  rw [firstE_cons, hf, List.drop_eq_nil_of_le (by omega), firstE_nil, if_pos rfl, firstE_cons, firstE_nil]
  clear hf hget hG hGl
  simp only [ZZ, YY, Ze, ite_true, ite_false, forall_const, reduceCtorEq, Nat.reduceAdd, Nat.reduceMul, Nat.reduceLeDiff, Nat.reduceLT, Nat.reduceEqDiff, ltE_len]
  refine loop_intro (fun n fr L => ∃ (j : Nat), j ≤ l.length ∧ n = l.length - j ∧ fr = [.any, .any, .any, .any, .any, .any, .p (int (bodySum (l.take j) : Nat)), .any, .any, .any, .any, .any, .any, .any, .any, .any, .any, .any, .any, .any, .any, .any, .any, .any, .any, .any, .any, .any, .any, .any, .p (.sl 9 (ltE l)), .p (int (l.length : Nat)), .p (int (j : Nat)), .any, .any, .any, .any, .any, .any, .any, .any, .any, .any, .any] ∧ L = []) (l.length) [.any, .any, .any, .any, .any, .any, .p (int (bodySum (l.take 0) : Nat)), .any, .any, .any, .any, .any, .any, .any, .any, .any, .any, .any, .any, .any, .any, .any, .any, .any, .any, .any, .any, .any, .any, .any, .p (.sl 9 (ltE l)), .p (int (l.length : Nat)), .p (int (0 : Nat)), .any, .any, .any, .any, .any, .any, .any, .any, .any, .any, .any] [] (by simp only [ZZ, YY, Ze, ite_true, ite_false, forall_const, reduceCtorEq, Nat.reduceAdd, Nat.reduceMul, Nat.reduceLeDiff, Nat.reduceLT, Nat.reduceEqDiff, ltE_len, List.take_zero]; try trivial) (by (simp only [ZZ, YY, Ze, ite_true, ite_false, forall_const, reduceCtorEq, Nat.reduceAdd, Nat.reduceMul, Nat.reduceLeDiff, Nat.reduceLT, Nat.reduceEqDiff]; try trivial)) ⟨0, by omega, by omega, rfl, rfl⟩ ?_
  rintro n fr L ⟨j, hj, rfl, rfl, rfl⟩
  simp only [ir_chaseref1_LettersFault_L1, ZZ, YY, Ze, ite_true, ite_false, forall_const, reduceCtorEq, Nat.reduceAdd, Nat.reduceMul, Nat.reduceLeDiff, Nat.reduceLT, Nat.reduceEqDiff]
  refine br ?_ ?_
  · intro h
    have hlt : j < l.length := by have := of_decide_eq_true h; omega
    obtain ⟨x, hx⟩ : ∃ x, l[j]? = some x := ⟨_, List.getElem?_eq_getElem hlt⟩
    have hg := ltE_get hx
    simp only [ltV] at hg
    have hs0 := hbs j hj
    have hs1 := hbs (j + 1) hlt
    have hsx := bodySum_take hx
    simp only [ZZ, YY, Ze, ite_true, ite_false, forall_const, reduceCtorEq, Nat.reduceAdd, Nat.reduceMul, Nat.reduceLeDiff, Nat.reduceLT, Nat.reduceEqDiff, hg, ltE_len]
    ((repeat' (with_reducible apply And.intro)) <;> try ((first | first | assumption | trivial | exact (fun hq => by rw [hq]; rfl) | exact i64_of (by omega) (by omega) | omega | (simp; done) | (simp; omega) | (intro hsc; have hs0 := hsc; (try have hsd := of_decide_eq_true hsc); (try simp only [Bool.not_eq_true', Bool.or_eq_false_iff, Bool.and_eq_true, Bool.or_eq_true, decide_eq_true_eq, decide_eq_false_iff_not] at hsc); (repeat' (with_reducible apply And.intro)) <;> (first | assumption | trivial | exact (fun hq => by rw [hq]; rfl) | exact i64_of (by omega) (by omega) | omega | (simp; done) | (simp; omega) | (intro hse; simp [hse, hs0]; done) | (intro hse; simp only [hse, hs0, Bool.true_and, Bool.and_true, Bool.not_false, Bool.not_true, Bool.and_self]; done))))))
    refine end_round (l.length - (j + 1)) [.any, .any, .any, .any, .any, .any, .p (int (bodySum (l.take (j + 1)) : Nat)), .any, .any, .any, .any, .any, .any, .any, .any, .any, .any, .any, .any, .any, .any, .any, .any, .any, .any, .any, .any, .any, .any, .any, .p (.sl 9 (ltE l)), .p (int (l.length : Nat)), .p (int ((j + 1) : Nat)), .any, .any, .any, .any, .any, .any, .any, .any, .any, .any, .any] [] (by omega) (by simp only [hsx, Int.natCast_add, ZZ, YY, Ze, ite_true, ite_false, forall_const, reduceCtorEq, Nat.reduceAdd, Nat.reduceMul, Nat.reduceLeDiff, Nat.reduceLT, Nat.reduceEqDiff]; try trivial) (by (simp only [ZZ, YY, Ze, ite_true, ite_false, forall_const, reduceCtorEq, Nat.reduceAdd, Nat.reduceMul, Nat.reduceLeDiff, Nat.reduceLT, Nat.reduceEqDiff]; try trivial)) ⟨j + 1, by omega, rfl, rfl, rfl⟩
  intro h
  have hge : l.length ≤ j := by have := of_decide_eq_false h; omega
  have hkk : l.take j = l := List.take_of_length_le hge
  simp only [ZZ, YY, Ze, ite_true, ite_false, forall_const, reduceCtorEq, Nat.reduceAdd, Nat.reduceMul, Nat.reduceLeDiff, Nat.reduceLT, Nat.reduceEqDiff, hkk]
  refine br ?_ ?_
  · intro h
    have hw : whenE (decide (500000 < (bodySum l : Int))) 2 = 2 := by rw [whenE, if_pos h]
    rw [hw]
    simp only [ZZ, YY, Ze, ite_true, ite_false, forall_const, reduceCtorEq, Nat.reduceAdd, Nat.reduceMul, Nat.reduceLeDiff, Nat.reduceLT, Nat.reduceEqDiff]
    rfl
  · intro h
    have hw : whenE (decide (500000 < (bodySum l : Int))) 2 = 0 := by rw [whenE, if_neg (by rw [h]; decide)]
    rw [hw]
    simp only [ZZ, YY, Ze, ite_true, ite_false, forall_const, reduceCtorEq, Nat.reduceAdd, Nat.reduceMul, Nat.reduceLeDiff, Nat.reduceLT, Nat.reduceEqDiff]
end Go.Proofs.YtidmphcocnaonaaGreatDoor

/- The cells of strings; slices.Sort and slices.Compact of the strings that a call owns. -/
namespace Go.Proofs.YtidmphcocnaonaaGreatDoor
open Go.Shelf Go.RowKit Go.Lib Go.Sort
set_option linter.unusedVariables false
set_option linter.unusedSimpArgs false
set_option linter.defProp false

def sE (l : List UInt8) : Value := .string ⟨l.toArray⟩
theorem strE_vals {w : World} {U : Nat → Prop} : ∀ {l : List (List UInt8)} {vs : List Value}, PRepL w U (strE l).flatten vs ↔ vs = l.map sE
  | [], vs => by simp [strE, PRepL]
  | c :: r, vs => by
    have ih : ∀ vs, PRepL w U (strE r).flatten vs ↔ vs = r.map sE := fun vs => strE_vals
    simp only [strE, List.map_cons, List.flatten_cons, List.cons_append, List.nil_append, PRepL, PRep] at ih ⊢
    constructor
    · rintro ⟨v, r', rfl, rfl, h⟩
      rw [(ih r').1 h]
      rfl
    · rintro rfl
      exact ⟨_, _, rfl, rfl, (ih _).2 rfl⟩
theorem repE_sE {w : World} {U : Nat → Prop} {b : Nat} : ∀ (l : List (List UInt8)) (off : Nat), (∀ i u, (l.map sE)[i]? = some u → w.cell? ⟨b, off + i, none⟩ = some u) → PRepE w U b 1 off (strE l)
  | [], off, h => trivial
  | x :: r, off, h => by
    refine ⟨rfl, ⟨⟨.string ⟨x.toArray⟩, by simpa [sE] using h 0 _ rfl, rfl, rfl⟩, trivial⟩, repE_sE r (off + 1) fun i u hu => ?_⟩
    have := h (i + 1) u (by simpa using hu)
    rwa [show off + (i + 1) = off + 1 + i from by omega] at this
/-- The strings of an owned row are sorted in place. -/
theorem sortS_row {E : Envt} (et : Nat) (l : List (List UInt8)) (hl : l.length ≤ 1000000000000) : RCall Tryz.prog E 199 et 1 (strE l) [] (fun x es' => x = .tup [] ∧ es' = strE (l.mergeSort fun x y => decide (x ≤ y))) := by
  intro w U vs v0 hU hE hEb hA hB
  obtain ⟨hB1, us, hrow, h1, hrep, hz⟩ := hB
  simp only [PRepL] at hA
  subst hA
  rw [strE_vals] at hrep
  subst hrep
  rw [strE_len] at hrow
  have hml : (l.mergeSort fun x y => decide (x ≤ y)).length = l.length := List.length_mergeSort _
  rcases hrow.2 with ⟨rfl, hn⟩ | ⟨b, cap, cur, fz, rfl, hg, hn, hcap, hcs, htk, hfz⟩
  · have hl0 : l = [] := List.eq_nil_of_length_eq_zero hn
    subst hl0
    refine (AnyM.slices_Sort_string_none Tryz.laySort none 0 w).mono ?_
    rintro e w' ⟨rfl, rfl⟩
    exact ⟨_, .p (.tup []), .row et 1 [], rfl, ⟨_, _, rfl, rfl, rfl, by simp [strE]⟩, ⟨[], rfl, by simp [PRepL]⟩, Grow.refl _ _, ⟨[], ⟨by simp, .inl ⟨rfl, rfl⟩⟩, by simp, by simp [PRepL], by simp⟩⟩
  · have hf0 : fz = (0, 0) := by rcases hfz with h | h; exact h; exact absurd h.1 (by simp)
    subst hf0
    have hb : b < w.heap.size := by
      rcases Nat.lt_or_ge b w.heap.size with h | h
      · exact h
      · rw [Array.getElem?_eq_none h] at hg; cases hg
    simp only [Nat.mul_one] at htk hcs
    have hH : Holds encStr w b 0 l.toArray := by
      intro j hj
      have hj' : j < l.length := by simpa using hj
      have e1 : cur[j]? = some (encStr l.toArray[j]!) := by
        rw [← Array.getElem?_toList, ← List.getElem?_take_of_lt hj', htk, List.getElem?_map, List.getElem?_eq_getElem hj', getElem!_pos l.toArray j hj]
        rfl
      refine ⟨?_, ?_⟩
      · simp only [World.cell?, hg]
        simpa using e1
      · simp [World.frozen?, hg]
    refine (AnyM.slices_Sort_string Tryz.laySort b 0 cap l w hH hb (by omega)).mono ?_
    rintro e w' ⟨rfl, n, os, rfl⟩
    generalize (l.mergeSort fun x y => decide (x ≤ y)) = m at *
    have hblk : ∀ c, c ≠ b → c < w.heap.size → (grow (putRow encStr (Sort.ahead w n) b 0 m.toArray) os).heap[c]? = w.heap[c]? := by
      intro c hc hlt
      simp only [grow, putRow, mapBlock]
      rw [Array.getElem?_append_left (by simpa using hlt), Array.getElem?_modify, if_neg (fun e => hc e.symm)]
      rfl
    have hnew : (grow (putRow encStr (Sort.ahead w n) b 0 m.toArray) os).heap[b]? = some (.cells (putCells encStr 0 m.toArray cur) et (0, 0)) := by
      simp only [grow, putRow, mapBlock]
      rw [Array.getElem?_append_left (by simpa using hb), Array.getElem?_modify, if_pos rfl]
      show Option.map _ w.heap[b]? = _
      rw [hg]
      rfl
    have hGr : Grow w (grow (putRow encStr (Sort.ahead w n) b 0 m.toArray) os) (fun c => blk (.slice (some ⟨b, 0, none⟩) l.length cap) = some c) := by
      refine ⟨rfl, rfl, rfl, ?_, fun c hc hne => hblk c (fun e => hne (by rw [e]; rfl)) hc⟩
      simp [grow, putRow, mapBlock, Sort.ahead]
    refine ⟨_, .p (.tup []), .row et 1 (strE m), rfl, ⟨_, _, rfl, rfl, rfl, rfl⟩, ⟨[], rfl, by simp [PRepL]⟩, hGr, ?_⟩
    refine ⟨m.map sE, ⟨by rw [strE_len]; simp, .inr ⟨b, cap, _, (0, 0), by rw [strE_len, hml], hnew, by rw [strE_len, hml]; exact hn, hcap, by simp [putCells, hcs], ?_, .inl rfl⟩⟩, ?_, strE_vals.2 rfl, ?_⟩
    · rw [strE_len]
      apply List.ext_getElem?
      intro j
      by_cases hj : j < m.length
      · rw [List.getElem?_take_of_lt (by simpa using hj), Array.getElem?_toList]
        simp only [putCells, Array.getElem?_mapIdx]
        rw [Array.getElem?_eq_getElem (by omega), Option.map_some, if_pos ⟨Nat.zero_le _, by simpa using hj⟩, Nat.sub_zero, getElem!_pos _ j (by simpa using hj)]
        simp [hj, sE]
      · rw [List.getElem?_eq_none (by rw [List.length_take]; omega), List.getElem?_eq_none (by simp; omega)]
    · intro u hu
      obtain ⟨x, _, rfl⟩ := List.mem_map.1 hu
      rfl
    · intro x hx
      simp only [strE, List.mem_map] at hx
      obtain ⟨y, _, rfl⟩ := hx
      rfl
theorem compact_le (l : List (List UInt8)) : (Lib.compact l).length ≤ l.length := by
  unfold Lib.compact Lib.compactUpTo
  rw [List.length_map]
  exact Nat.le_trans (List.length_filter_le _ _) (by simp)
section
variable {E : Envt} {L : Objs} {k : Key} {fr : List AV} {d : Option Nat} {is : List IOper} {Y : List PV} {K : List AV → Objs → Prop}
/-- Runs of equal strings of an owned row are made one: what is left is plain, the row is gone. -/
theorem useComp (i : Nat) (l : List (List UInt8)) (hlen : l.length ≤ 1000000000) (hlk : Zas L k = some (.row (strE l) 9 1 true))
    (hk : awpOps Tryz.prog E Y is (Zg (fr.map (·.kill (.l i))) d (.p (.sl 1 (strE (Lib.compact l))))) (delO L k) K) : CallOp Tryz.prog E 200 [.row k] L d fr (contO Tryz.prog E Y is K) := by
  refine .inr (.inr ⟨i, ?_⟩)
  intro w X ι vs hs hX hE hEb hA
  simp only [ARepL, ARep] at hA
  obtain ⟨v1, r1, rfl, ⟨rfl, A, n, c, hv⟩, rfl⟩ := hA
  obtain ⟨us, u1, u2, u3, u4⟩ := hs.obj k _ hlk
  rw [strE_vals] at u3
  subst u3
  have hown := u1.owns
  rw [strE_len] at hown
  by_cases hne : ι k = .slice none 0 0
  · have hl0 : l = [] := by
      rcases hown.2 with ⟨_, h0⟩ | ⟨q, cap, cur, h1, _⟩
      · exact List.eq_nil_of_length_eq_zero h0
      · rw [hne] at h1; cases h1
    subst hl0
    rw [hne]
    refine (Any.slices_Compact_string_empty Tryz.layCompact none 0 w).mono ?_
    rintro e w' ⟨rfl, rfl⟩
    have hsub : ∀ j a, Zas (delO L k) j = some a → Zas L j = some a := by
      intro j a hj
      rw [look_delO] at hj
      by_cases e : j = k
      · rw [if_pos e] at hj; cases hj
      · rwa [if_neg e] at hj
    have hown3 : ∀ x, Own (delO L k) ι x → Own L ι x := fun x ⟨j, a, h1, h2⟩ => ⟨j, a, hsub j a h1, h2⟩
    have hkp : Keeps w' w' (fun x => Own L ι x ∨ X x) (fun x => Own (delO L k) ι x ∨ X x) := fun x hx hu => ⟨rfl, fun h => hu (h.imp (hown3 x) id)⟩
    refine ⟨_, .p (.sl 1 (strE (Lib.compact []))), delO L k, ι, rfl, hk, ?_, ⟨⟨?_, fun j j' a a' x h1 h2 h3 h4 => hs.inj j j' a a' x (hsub j a h1) (hsub j' a' h2) h3 h4⟩, Grow.refl _ _, fun x h => .inl (hown3 x h), fun j _ => rfl, fun j hj => ?_⟩⟩
    · show PRep w' _ (.sl 1 (strE (Lib.compact []))) _
      exact ⟨none, 0, rfl, by simp [strE, Lib.compact, Lib.compactUpTo], fun h => absurd rfl h⟩
    · intro j a h1
      exact ObjOk.mono hkp (fun x hx => rfl) (hs.obj j a (hsub j a h1))
    · obtain ⟨a, ha⟩ := Option.isSome_iff_exists.1 hj
      exact .inl (by rw [hsub j a ha]; rfl)
  obtain ⟨b, cap, hvb, _, hlt, hnc, hcm, _, hH⟩ := Lib.holds_of_ownsRow (enc := encStr) hown hne
  rw [hvb] at hown
  have hOb : Own L ι b := ⟨k, _, hlk, by rw [hvb]; rfl⟩
  have hcall := Any.slices_Compact_string Tryz.layCompact b 0 cap l w hH (by omega) (by simpa using hnc)
  rw [hvb]
  refine hcall.mono ?_
  rintro e w' ⟨rfl, q, rfl⟩
  have hle : (Lib.compact l).length ≤ l.length := compact_le l
  have hown2 := Lib.ownsRow_putRow (enc := encStr) (q := q) (k := (Lib.compact l).length) (ys := (Lib.compact l) ++ List.replicate (l.length - (Lib.compact l).length) []) hown (by simp; omega) hle
  rw [List.take_left' rfl] at hown2
  generalize hW : putRow encStr (Sort.ahead w q) b 0 ((Lib.compact l) ++ List.replicate (l.length - (Lib.compact l).length) []).toArray = w1 at hown2 ⊢
  have hG : Grow w w1 (fun x => x = b) := by
    rw [← hW]
    refine ⟨rfl, rfl, rfl, by simp [putRow, mapBlock, Sort.ahead], fun x hx hn => ?_⟩
    simp [putRow, mapBlock, Sort.ahead, Array.getElem?_modify, show b ≠ x from fun e => hn e.symm]
  have hsub : ∀ j a, Zas (delO L k) j = some a → j ≠ k ∧ Zas L j = some a := by
    intro j a hj
    rw [look_delO] at hj
    by_cases e : j = k
    · rw [if_pos e] at hj; cases hj
    · rw [if_neg e] at hj; exact ⟨e, hj⟩
  have hown3 : ∀ x, Own (delO L k) ι x → Own L ι x := fun x ⟨j, a, h1, h2⟩ => ⟨j, a, (hsub j a h1).2, h2⟩
  have hnb : ¬ (Own (delO L k) ι b ∨ X b) := by
    rintro (⟨j, a, h1, h2⟩ | h)
    · obtain ⟨e, h3⟩ := hsub j a h1
      exact e (hs.inj j k a _ b h3 hlk h2 (by rw [hvb]; rfl))
    · exact (hX b h).2 hOb
  have hgrow : Grow w w1 (Own L ι) := ⟨hG.os, hG.tape, hG.output, hG.size, fun x hx hn => hG.block x hx (fun e => hn (by rw [e]; exact hOb))⟩
  have hkp : Keeps w w1 (fun x => Own L ι x ∨ X x) (fun x => Own (delO L k) ι x ∨ X x) := fun x hx hu => ⟨hgrow.block x hx (fun h => hu (.inl h)), fun h => hu (h.imp (hown3 x) id)⟩
  refine ⟨_, .p (.sl 1 (strE (Lib.compact l))), delO L k, ι, rfl, hk, ?_, ⟨⟨?_, fun j j' a a' x h1 h2 h3 h4 => hs.inj j j' a a' x (hsub j a h1).2 (hsub j' a' h2).2 h3 h4⟩, hgrow, fun x h => .inl (hown3 x h), fun j _ => rfl, fun j hj => ?_⟩⟩
  · show PRep w1 _ (.sl 1 (strE _)) _
    refine ⟨some ⟨b, 0, none⟩, cap, by rw [strE_len], by rw [strE_len]; omega, fun _ => ⟨b, 0, rfl, Nat.lt_of_lt_of_le hlt hG.size, hnb, repE_sE _ 0 fun j u hu => ?_⟩⟩
    rw [Nat.zero_add]
    have := hown2.cells (g := b) rfl j u hu
    rw [show ({ block := b, off := 0 } : Addr).add j = ⟨b, j, none⟩ from by cases j <;> simp [Addr.add]] at this
    exact this
  · intro j a h1
    obtain ⟨e, h2⟩ := hsub j a h1
    refine ObjOk.mono hkp (fun x hx => hG.block x ((hs.obj j a h2).blk_lt hx) (fun ex => ?_)) (hs.obj j a h2)
    subst ex
    exact e (hs.inj j k a _ x h2 hlk hx (by rw [hvb]; rfl))
  · obtain ⟨a, ha⟩ := Option.isSome_iff_exists.1 hj
    exact .inl (by rw [(hsub j a ha).2]; rfl)
end
end Go.Proofs.YtidmphcocnaonaaGreatDoor

/- Strings that are sorted, each once. -/
namespace Go.Proofs.YtidmphcocnaonaaGreatDoor
open Go.RowKit
set_option linter.unusedVariables false
set_option linter.unusedSimpArgs false
set_option linter.defProp false

/- paperchase/chaseref1.sorted -/
def ir_chaseref1_sorted : IC :=
  (.seq (.reg [⟨some 2, .mov (.c (.nl 1)), none⟩])
    (.seq (.reg [⟨some 4, .mov (.t 0), none⟩,
      ⟨some 5, .call 50 [.t 4], none⟩,
      ⟨some 3, .mov (.t 5), none⟩])
    (.seq (.reg [⟨some 6, .mov (.t 3), none⟩,
      ⟨some 7, .call 199 [.t 6], none⟩])
    (.seq (.reg [⟨some 8, .mov (.t 3), none⟩,
      ⟨some 9, .call 200 [.t 8], none⟩,
      ⟨some 2, .mov (.t 9), none⟩])
    .ret))))
def rs_chaseref1_sorted : List IRes := [.t 2]
theorem ck_chaseref1_sorted : chkF Tryz.prog Tryz.f118 ir_chaseref1_sorted rs_chaseref1_sorted 10 = true := by kernel_rfl

def sortF (l : List (List UInt8)) : List (List UInt8) := Lib.compact (l.mergeSort fun x y => decide (x ≤ y))
theorem sorted_ok {E : Envt} (l : List (List UInt8)) (hl : l.length ≤ 1000000) : PCall Tryz.prog E 118 [.sl 1 (strE l)] (· = .sl 1 (strE (sortF l))) := by
  refine pcallF mixed Tryz.func118 ck_chaseref1_sorted ?_
  simp only [a0, l0, OS.ao, List.map_cons, List.map_nil, List.length_cons, List.length_nil, List.cons_append, List.nil_append, Nat.reduceSub, Nat.reduceAdd, List.replicate_succ, List.replicate_zero, ir_chaseref1_sorted, rs_chaseref1_sorted, ZZ, YY, Ze, ite_true, ite_false, forall_const, reduceCtorEq, Nat.reduceAdd, Nat.reduceMul, Nat.reduceLeDiff, Nat.reduceLT, Nat.reduceEqDiff]
  refine useF (CloneS_ok (strE l) (by rw [strE_len]; omega)) rfl rfl ?_
  rintro es rfl
  simp only [ZZ, YY, Ze, ite_true, ite_false, forall_const, reduceCtorEq, Nat.reduceAdd, Nat.reduceMul, Nat.reduceLeDiff, Nat.reduceLT, Nat.reduceEqDiff]
  refine useR (sortS_row tStr l (by omega)) rfl rfl rfl (by simp only [ZZ, YY, Ze, ite_true, ite_false, forall_const, reduceCtorEq, Nat.reduceAdd, Nat.reduceMul, Nat.reduceLeDiff, Nat.reduceLT, Nat.reduceEqDiff]) ?_
  rintro x es ⟨rfl, rfl⟩
  simp only [ZZ, YY, Ze, ite_true, ite_false, forall_const, reduceCtorEq, Nat.reduceAdd, Nat.reduceMul, Nat.reduceLeDiff, Nat.reduceLT, Nat.reduceEqDiff]
  refine useComp 1000 (l.mergeSort fun x y => decide (x ≤ y)) (by rw [List.length_mergeSort]; omega) rfl ?_
  simp only [ZZ, YY, Ze, ite_true, ite_false, forall_const, reduceCtorEq, Nat.reduceAdd, Nat.reduceMul, Nat.reduceLeDiff, Nat.reduceLT, Nat.reduceEqDiff]
  rfl
theorem cmp_memW (m : List (List UInt8)) (x : List UInt8) : x ∈ Lib.compact m ↔ x ∈ m := by
  unfold Lib.compact Lib.compactUpTo
  simp only [List.mem_map, List.mem_filter, List.mem_range]
  constructor
  · rintro ⟨j, ⟨hj, _⟩, rfl⟩
    rw [getElem!_pos m.toArray j (by simpa using hj)]
    simp
  · intro hx
    have hlt : m.findIdx (· == x) < m.length := List.findIdx_lt_length_of_exists ⟨x, hx, by simp⟩
    have hg : m[m.findIdx (· == x)] = x := by simpa using List.findIdx_getElem (w := hlt)
    refine ⟨m.findIdx (· == x), ⟨hlt, ?_⟩, ?_⟩
    · unfold Lib.keeps
      rw [decide_eq_true_iff, getElem!_pos m.toArray _ (by simpa using hlt), getElem!_pos m.toArray (m.findIdx (· == x) - 1) (by simp; omega)]
      simp only [List.getElem_toArray]
      rcases Nat.eq_zero_or_pos (m.findIdx (· == x)) with h0 | h0
      · exact .inl h0
      · refine .inr fun e => ?_
        have h1 := List.not_of_lt_findIdx (xs := m) (p := (· == x)) (i := m.findIdx (· == x) - 1) (by omega)
        rw [← e, hg] at h1
        simp at h1
    · rw [getElem!_pos m.toArray _ (by simpa using hlt)]
      simpa using hg
theorem sortF_memW (l : List (List UInt8)) (x : List UInt8) : x ∈ sortF l ↔ x ∈ l := by
  rw [sortF, cmp_memW]
  exact (List.mergeSort_perm l _).mem_iff
theorem sortF_leW (l : List (List UInt8)) : (sortF l).length ≤ l.length := by
  have := compact_le (l.mergeSort fun x y => decide (x ≤ y))
  rw [List.length_mergeSort] at this
  exact this
end Go.Proofs.YtidmphcocnaonaaGreatDoor

/- slices.Equal of ints. -/
namespace Go.Proofs.YtidmphcocnaonaaGreatDoor
set_option linter.unusedVariables false
set_option linter.unusedSimpArgs false
set_option linter.defProp false
/- slices.Equal[[]int,int] -/
def ir_slices_Equal_int_int_L0 : IC :=
  (.seq (.reg [⟨some 14, .bin .lss (.t 13) (.t 12), none⟩])
    (.seq (.cond (.t 14) .skip (.exit 0))
    (.seq (.block 1 (.seq (.reg [⟨some 15, .mov (.t 13), none⟩,
      ⟨some 5, .mov (.t 15), none⟩])
    (.seq (.drg [⟨some 16, .mov (.t 0), none⟩,
      ⟨some 17, .mov (.t 5), none⟩,
      ⟨some 18, .ixa 1 (.t 16) (.t 17), none⟩,
      ⟨some 19, .ld 1 false (.t 18), none⟩,
      ⟨some 20, .mov (.t 1), none⟩,
      ⟨some 21, .mov (.t 5), none⟩,
      ⟨some 22, .ixa 1 (.t 20) (.t 21), none⟩,
      ⟨some 23, .ld 1 false (.t 22), none⟩,
      ⟨some 24, .bin .neq (.t 19) (.t 23), none⟩])
    (.cond (.t 24) (.seq (.reg [⟨some 4, .mov (.c (.bool false)), none⟩])
    .ret) .skip))))
    (.reg [⟨some 25, .bin .add (.t 13) (.c (.int .i64 1)), none⟩,
      ⟨some 13, .mov (.t 25), none⟩]))))
def ir_slices_Equal_int_int : IC :=
  (.seq (.reg [⟨some 4, .mov (.c (.bool false)), none⟩])
    (.seq (.seq (.reg [⟨some 6, .mov (.t 0), none⟩,
      ⟨some 7, .len (.t 6), none⟩,
      ⟨some 8, .mov (.t 1), none⟩,
      ⟨some 9, .len (.t 8), none⟩,
      ⟨some 10, .bin .neq (.t 7) (.t 9), none⟩])
    (.cond (.t 10) (.seq (.reg [⟨some 4, .mov (.c (.bool false)), none⟩])
    .ret) .skip))
    (.seq (.seq (.reg [⟨some 11, .mov (.t 0), none⟩,
      ⟨some 12, .len (.t 11), none⟩,
      ⟨some 13, .mov (.c (.int .i64 0)), none⟩])
    (.block 0 (.loop ir_slices_Equal_int_int_L0)))
    (.seq (.reg [⟨some 4, .mov (.c (.bool true)), none⟩])
    .ret))))
def rs_slices_Equal_int_int : List IRes := [.t 4]
theorem ck_slices_Equal_int_int : chkF Tryz.prog Tryz.f43 ir_slices_Equal_int_int rs_slices_Equal_int_int 26 = true := by kernel_rfl

section
variable {E : Envt}
theorem EqualI_ok (l m : List Int) (hl : l.length ≤ 1000000000) : PCall Tryz.prog E 43 [ints l, ints m] (· = .bool (decide (l = m))) := by
  refine pcallF mixed Tryz.func43 ck_slices_Equal_int_int ?_
  simp only [a0, l0, OS.ao, List.map_cons, List.map_nil, List.length_cons, List.length_nil, List.cons_append, List.nil_append, Nat.reduceSub, Nat.reduceAdd, List.replicate_succ, List.replicate_zero, ir_slices_Equal_int_int, rs_slices_Equal_int_int, ZZ, YY, Ze, ite_true, ite_false, forall_const, reduceCtorEq, Nat.reduceAdd, Nat.reduceMul, Nat.reduceLeDiff, Nat.reduceLT, Nat.reduceEqDiff]
  simp only [ints, ZZ, YY, Ze, ite_true, ite_false, forall_const, reduceCtorEq, Nat.reduceAdd, Nat.reduceMul, Nat.reduceLeDiff, Nat.reduceLT, Nat.reduceEqDiff]
  have hln : (l.map fun x => [PV.int .i64 x]).length = l.length := by simp
  have hlm : (m.map fun x => [PV.int .i64 x]).length = m.length := by simp
  have hget : ∀ k x, l[k]? = some x → (l.map fun x => [PV.int .i64 x]).getD k [] = [.int .i64 x] := fun k p hp => getD_map hp
  have hgem : ∀ k x, m[k]? = some x → (m.map fun x => [PV.int .i64 x]).getD k [] = [.int .i64 x] := fun k p hp => getD_map hp
  generalize (l.map fun x => [PV.int .i64 x]) = es at *
  generalize (m.map fun x => [PV.int .i64 x]) = fs at *
  simp only [ZZ, YY, Ze, ite_true, ite_false, forall_const, reduceCtorEq, Nat.reduceAdd, Nat.reduceMul, Nat.reduceLeDiff, Nat.reduceLT, Nat.reduceEqDiff, hln, hlm]
  refine br ?_ ?_
  · intro h
    have : ¬ l = m := by rintro rfl; simp at h
    simp only [ZZ, YY, Ze, ite_true, ite_false, forall_const, reduceCtorEq, Nat.reduceAdd, Nat.reduceMul, Nat.reduceLeDiff, Nat.reduceLT, Nat.reduceEqDiff]
    simp [this]
  intro h
  have hlen : l.length = m.length := by have : (l.length : Int) = m.length := by simpa using h
                                        omega
  simp only [ZZ, YY, Ze, ite_true, ite_false, forall_const, reduceCtorEq, Nat.reduceAdd, Nat.reduceMul, Nat.reduceLeDiff, Nat.reduceLT, Nat.reduceEqDiff]
  refine loop_intro (fun n fr L => ∃ (k : Nat), k ≤ l.length ∧ n = l.length - k ∧ (l.take k = m.take k) ∧ fr = [.p (.sl 1 es), .p (.sl 1 fs), .any, .any, .any, .any, .any, .any, .any, .any, .any, .any, .p (int (l.length : Nat)), .p (int (k : Nat)), .any, .any, .any, .any, .any, .any, .any, .any, .any, .any, .any, .any] ∧ L = []) (l.length) [.p (.sl 1 es), .p (.sl 1 fs), .any, .any, .any, .any, .any, .any, .any, .any, .any, .any, .p (int (l.length : Nat)), .p (int (0 : Nat)), .any, .any, .any, .any, .any, .any, .any, .any, .any, .any, .any, .any] [] (by simp only [hln, ZZ, YY, Ze, ite_true, ite_false, forall_const, reduceCtorEq, Nat.reduceAdd, Nat.reduceMul, Nat.reduceLeDiff, Nat.reduceLT, Nat.reduceEqDiff]; try trivial) (by (simp only [ZZ, YY, Ze, ite_true, ite_false, forall_const, reduceCtorEq, Nat.reduceAdd, Nat.reduceMul, Nat.reduceLeDiff, Nat.reduceLT, Nat.reduceEqDiff]; try trivial)) ⟨0, by omega, by omega, by simp, rfl, rfl⟩ ?_
  rintro n fr L ⟨k, hk, rfl, hf, rfl, rfl⟩
  simp only [ir_slices_Equal_int_int_L0, ZZ, YY, Ze, ite_true, ite_false, forall_const, reduceCtorEq, Nat.reduceAdd, Nat.reduceMul, Nat.reduceLeDiff, Nat.reduceLT, Nat.reduceEqDiff]
  refine br ?_ ?_
  · intro h
    have hlt : k < l.length := by have := of_decide_eq_true h; omega
    obtain ⟨x, hx⟩ : ∃ x, l[k]? = some x := ⟨_, List.getElem?_eq_getElem hlt⟩
    obtain ⟨y, hy⟩ : ∃ y, m[k]? = some y := ⟨_, List.getElem?_eq_getElem (by omega)⟩
    have hg := hget k x hx
    have hg2 := hgem k y hy
    simp only [ZZ, YY, Ze, ite_true, ite_false, forall_const, reduceCtorEq, Nat.reduceAdd, Nat.reduceMul, Nat.reduceLeDiff, Nat.reduceLT, Nat.reduceEqDiff]
    refine drg0 ?_
    simp only [ZZ, YY, Ze, ite_true, ite_false, forall_const, reduceCtorEq, Nat.reduceAdd, Nat.reduceMul, Nat.reduceLeDiff, Nat.reduceLT, Nat.reduceEqDiff, hg, hg2, hln, hlm]
    ((repeat' (with_reducible apply And.intro)) <;> try ((first | first | assumption | trivial | exact (fun hq => by rw [hq]; rfl) | exact i64_of (by omega) (by omega) | omega | (simp; done) | (simp; omega) | (intro hsc; have hs0 := hsc; (try have hsd := of_decide_eq_true hsc); (try simp only [Bool.not_eq_true', Bool.or_eq_false_iff, Bool.and_eq_true, Bool.or_eq_true, decide_eq_true_eq, decide_eq_false_iff_not] at hsc); (repeat' (with_reducible apply And.intro)) <;> (first | assumption | trivial | exact (fun hq => by rw [hq]; rfl) | exact i64_of (by omega) (by omega) | omega | (simp; done) | (simp; omega) | (intro hse; simp [hse, hs0]; done) | (intro hse; simp only [hse, hs0, Bool.true_and, Bool.and_true, Bool.not_false, Bool.not_true, Bool.and_self]; done))))))
    refine br ?_ ?_
    · intro h2
      have : ¬ l = m := by
        rintro rfl
        rw [hx] at hy
        cases hy
        simp at h2
      simp only [ZZ, YY, Ze, ite_true, ite_false, forall_const, reduceCtorEq, Nat.reduceAdd, Nat.reduceMul, Nat.reduceLeDiff, Nat.reduceLT, Nat.reduceEqDiff]
      simp [this]
    · intro h2
      have hxy : x = y := by simpa using h2
      simp only [ZZ, YY, Ze, ite_true, ite_false, forall_const, reduceCtorEq, Nat.reduceAdd, Nat.reduceMul, Nat.reduceLeDiff, Nat.reduceLT, Nat.reduceEqDiff]
      ((repeat' (with_reducible apply And.intro)) <;> try ((first | first | assumption | trivial | exact (fun hq => by rw [hq]; rfl) | exact i64_of (by omega) (by omega) | omega | (simp; done) | (simp; omega) | (intro hsc; have hs0 := hsc; (try have hsd := of_decide_eq_true hsc); (try simp only [Bool.not_eq_true', Bool.or_eq_false_iff, Bool.and_eq_true, Bool.or_eq_true, decide_eq_true_eq, decide_eq_false_iff_not] at hsc); (repeat' (with_reducible apply And.intro)) <;> (first | assumption | trivial | exact (fun hq => by rw [hq]; rfl) | exact i64_of (by omega) (by omega) | omega | (simp; done) | (simp; omega) | (intro hse; simp [hse, hs0]; done) | (intro hse; simp only [hse, hs0, Bool.true_and, Bool.and_true, Bool.not_false, Bool.not_true, Bool.and_self]; done))))))
      refine end_round (l.length - (k + 1)) [.p (.sl 1 es), .p (.sl 1 fs), .any, .any, .any, .any, .any, .any, .any, .any, .any, .any, .p (int (l.length : Nat)), .p (int ((k + 1) : Nat)), .any, .any, .any, .any, .any, .any, .any, .any, .any, .any, .any, .any] [] (by omega) (by (simp only [ZZ, YY, Ze, ite_true, ite_false, forall_const, reduceCtorEq, Nat.reduceAdd, Nat.reduceMul, Nat.reduceLeDiff, Nat.reduceLT, Nat.reduceEqDiff]; try trivial)) (by (simp only [ZZ, YY, Ze, ite_true, ite_false, forall_const, reduceCtorEq, Nat.reduceAdd, Nat.reduceMul, Nat.reduceLeDiff, Nat.reduceLT, Nat.reduceEqDiff]; try trivial)) ⟨k + 1, by omega, rfl, by rw [List.take_add_one, List.take_add_one, hf, hx, hy, hxy], rfl, rfl⟩
  · intro h
    have hge : l.length ≤ k := by have := of_decide_eq_false h; omega
    simp only [ZZ, YY, Ze, ite_true, ite_false, forall_const, reduceCtorEq, Nat.reduceAdd, Nat.reduceMul, Nat.reduceLeDiff, Nat.reduceLT, Nat.reduceEqDiff]
    rw [List.take_of_length_le hge, List.take_of_length_le (by omega)] at hf
    simp [hf]
end
end Go.Proofs.YtidmphcocnaonaaGreatDoor
