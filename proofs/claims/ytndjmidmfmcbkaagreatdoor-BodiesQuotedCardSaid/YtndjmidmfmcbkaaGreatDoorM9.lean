
/- Own texts, put together: J4 J5. -/
import Derived.Test.YtndjmidmfmcbkaaGreatDoorM8
/- Bodies: lines, own lines, depth, on both sides. -/
namespace Go.Proofs.YtndjmidmfmcbkaaGreatDoor
open Go.RowKit
set_option linter.unusedVariables false
set_option linter.unusedSimpArgs false
set_option linter.defProp false

/- paperchase/thread.Lines -/
def ir_thread_Lines_L0 : IC :=
  (.seq (.reg [⟨some 17, .bin .lss (.t 16) (.t 15), none⟩])
    (.seq (.cond (.t 17) .skip (.exit 0))
    (.seq (.block 1 (.seq (.reg [⟨some 18, .ixa 3 (.t 14) (.t 16), none⟩,
      ⟨some 19, .ld 3 true (.t 18), none⟩,
      ⟨some 7, .alc 128 [.int .i64 0, .str [], .bool false], none⟩,
      ⟨none, .st 3 (.t 7) (.t 19), none⟩])
    (.reg [⟨some 20, .mov (.t 5), none⟩,
      ⟨some 21, .fla 0 (.t 7), none⟩,
      ⟨some 22, .ld 2 true (.t 21), none⟩,
      ⟨some 23, .bsl 2 [.t 22], none⟩,
      ⟨some 24, .app 72 2 24 (.t 20) (.t 23), none⟩,
      ⟨some 5, .mov (.t 24), none⟩])))
    (.reg [⟨some 25, .bin .add (.t 16) (.c (.int .i64 1)), none⟩,
      ⟨some 16, .mov (.t 25), none⟩]))))
def ir_thread_Lines : IC :=
  (.seq (.reg [⟨some 2, .mov (.c (.nl 2)), none⟩,
      ⟨some 3, .mov (.c (.int .i64 0)), none⟩])
    (.seq (.seq (.reg [⟨some 8, .mov (.t 0), none⟩,
      ⟨some 9, .call 102 [.t 8], none⟩,
      ⟨some 4, .mov (.t 9), none⟩])
    (.seq (.reg [⟨some 10, .mov (.t 4), none⟩,
      ⟨some 11, .bin .neq (.t 10) (.c (.int .i64 0)), none⟩])
    (.cond (.t 11) (.seq (.reg [⟨some 12, .mov (.t 4), none⟩,
      ⟨some 2, .mov (.c (.nl 2)), none⟩,
      ⟨some 3, .mov (.t 12), none⟩])
    .ret) .skip)))
    (.seq (.reg [⟨some 5, .nilr 72 2, none⟩])
    (.seq (.seq (.reg [⟨some 13, .mov (.t 0), none⟩,
      ⟨some 14, .call 103 [.t 13], none⟩,
      ⟨some 15, .len (.t 14), none⟩,
      ⟨some 16, .mov (.c (.int .i64 0)), none⟩])
    (.block 0 (.loop ir_thread_Lines_L0)))
    (.seq (.reg [⟨some 26, .mov (.t 5), none⟩,
      ⟨some 2, .mov (.t 26), none⟩,
      ⟨some 3, .mov (.c (.int .i64 0)), none⟩])
    .ret)))))
def rs_thread_Lines : List IRes := [.t 2, .t 3]
theorem ck_thread_Lines : chkF Tryz.prog Tryz.f33 ir_thread_Lines rs_thread_Lines 27 = true := by kernel_rfl
/- paperchase/thread.Own -/
def ir_thread_Own_L1 : IC :=
  (.seq (.seq (.reg [⟨some 31, .mov (.t 5), none⟩,
      ⟨some 32, .len (.t 31), none⟩,
      ⟨some 33, .bin .gtr (.t 32) (.c (.int .i64 0)), none⟩,
      ⟨some 34, .mov (.t 33), none⟩,
      ⟨some 35, .mov (.t 5), (some (34, true))⟩,
      ⟨some 36, .mov (.t 5), (some (34, true))⟩,
      ⟨some 37, .len (.t 36), (some (34, true))⟩,
      ⟨some 38, .bin .sub (.t 37) (.c (.int .i64 1)), (some (34, true))⟩,
      ⟨some 39, .ixa 1 (.t 35) (.t 38), (some (34, true))⟩,
      ⟨some 40, .ld 1 false (.t 39), (some (34, true))⟩,
      ⟨some 41, .call 104 [.t 40], (some (34, true))⟩,
      ⟨some 42, .pick (.t 34) (.t 41) (.c (.bool false)), none⟩])
    (.cond (.t 42) .skip (.exit 2)))
    (.block 3 (.reg [⟨some 43, .mov (.t 5), none⟩,
      ⟨some 44, .mov (.t 5), none⟩,
      ⟨some 45, .len (.t 44), none⟩,
      ⟨some 46, .bin .sub (.t 45) (.c (.int .i64 1)), none⟩,
      ⟨some 47, .trn 1 (.t 43) (.t 46), none⟩,
      ⟨some 5, .mov (.t 47), none⟩])))
def ir_thread_Own_L0 : IC :=
  (.seq (.reg [⟨some 17, .bin .lss (.t 16) (.t 15), none⟩])
    (.seq (.cond (.t 17) .skip (.exit 0))
    (.seq (.block 1 (.seq (.reg [⟨some 18, .ixa 3 (.t 14) (.t 16), none⟩,
      ⟨some 19, .ld 3 true (.t 18), none⟩,
      ⟨some 7, .alc 128 [.int .i64 0, .str [], .bool false], none⟩,
      ⟨none, .st 3 (.t 7) (.t 19), none⟩])
    (.seq (.reg [⟨some 20, .fla 0 (.t 7), none⟩,
      ⟨some 21, .fla 0 (.t 20), none⟩,
      ⟨some 22, .ld 1 false (.t 21), none⟩,
      ⟨some 23, .bin .eql (.t 22) (.c (.int .i64 0)), none⟩])
    (.cond (.t 23) (.reg [⟨some 24, .mov (.t 5), none⟩,
      ⟨some 25, .fla 0 (.t 7), none⟩,
      ⟨some 26, .fla 1 (.t 25), none⟩,
      ⟨some 27, .ld 1 false (.t 26), none⟩,
      ⟨some 28, .bsl 1 [.t 27], none⟩,
      ⟨some 29, .app 9 1 16 (.t 24) (.t 28), none⟩,
      ⟨some 5, .mov (.t 29), none⟩]) .skip))))
    (.cut (.reg [⟨some 30, .bin .add (.t 16) (.c (.int .i64 1)), none⟩,
      ⟨some 16, .mov (.t 30), none⟩])))))
def ir_thread_Own : IC :=
  (.seq (.reg [⟨some 2, .mov (.c (.str [])), none⟩,
      ⟨some 3, .mov (.c (.int .i64 0)), none⟩])
    (.seq (.seq (.reg [⟨some 8, .mov (.t 0), none⟩,
      ⟨some 9, .call 102 [.t 8], none⟩,
      ⟨some 4, .mov (.t 9), none⟩])
    (.seq (.reg [⟨some 10, .mov (.t 4), none⟩,
      ⟨some 11, .bin .neq (.t 10) (.c (.int .i64 0)), none⟩])
    (.cond (.t 11) (.seq (.reg [⟨some 12, .mov (.t 4), none⟩,
      ⟨some 2, .mov (.c (.str [])), none⟩,
      ⟨some 3, .mov (.t 12), none⟩])
    .ret) .skip)))
    (.seq (.reg [⟨some 5, .nilr 9 1, none⟩])
    (.seq (.seq (.reg [⟨some 13, .mov (.t 0), none⟩,
      ⟨some 14, .call 103 [.t 13], none⟩,
      ⟨some 15, .len (.t 14), none⟩,
      ⟨some 16, .mov (.c (.int .i64 0)), none⟩])
    (.block 0 (.loop ir_thread_Own_L0)))
    (.seq (.block 2 (.loop ir_thread_Own_L1))
    (.seq (.seq (.reg [⟨some 48, .mov (.t 5), none⟩,
      ⟨some 49, .len (.t 48), none⟩,
      ⟨some 50, .bin .eql (.t 49) (.c (.int .i64 0)), none⟩])
    (.cond (.t 50) (.seq (.reg [⟨some 2, .mov (.c (.str [])), none⟩,
      ⟨some 3, .mov (.c (.int .i64 0)), none⟩])
    .ret) .skip))
    (.seq (.reg [⟨some 51, .mov (.t 5), none⟩,
      ⟨some 52, .call 90 [.t 51, .c (.str [10])], none⟩,
      ⟨some 53, .bin .add (.t 52) (.c (.str [10])), none⟩,
      ⟨some 2, .mov (.t 53), none⟩,
      ⟨some 3, .mov (.c (.int .i64 0)), none⟩])
    .ret)))))))
def rs_thread_Own : List IRes := [.t 2, .t 3]
theorem ck_thread_Own : chkF Tryz.prog Tryz.f34 ir_thread_Own rs_thread_Own 54 = true := by kernel_rfl
/- paperchase/thread.Depth -/
def ir_thread_Depth_L0 : IC :=
  (.seq (.reg [⟨some 17, .bin .lss (.t 16) (.t 15), none⟩])
    (.seq (.cond (.t 17) .skip (.exit 0))
    (.seq (.block 1 (.seq (.reg [⟨some 18, .ixa 3 (.t 14) (.t 16), none⟩,
      ⟨some 19, .ld 3 true (.t 18), none⟩,
      ⟨some 7, .alc 128 [.int .i64 0, .str [], .bool false], none⟩,
      ⟨none, .st 3 (.t 7) (.t 19), none⟩])
    (.reg [⟨some 20, .mov (.t 5), none⟩,
      ⟨some 21, .fla 0 (.t 7), none⟩,
      ⟨some 22, .fla 0 (.t 21), none⟩,
      ⟨some 23, .ld 1 false (.t 22), none⟩,
      ⟨some 24, .mx (.t 20) (.t 23), none⟩,
      ⟨some 5, .mov (.t 24), none⟩])))
    (.reg [⟨some 25, .bin .add (.t 16) (.c (.int .i64 1)), none⟩,
      ⟨some 16, .mov (.t 25), none⟩]))))
def ir_thread_Depth : IC :=
  (.seq (.reg [⟨some 2, .mov (.c (.int .i64 0)), none⟩,
      ⟨some 3, .mov (.c (.int .i64 0)), none⟩])
    (.seq (.seq (.reg [⟨some 8, .mov (.t 0), none⟩,
      ⟨some 9, .call 102 [.t 8], none⟩,
      ⟨some 4, .mov (.t 9), none⟩])
    (.seq (.reg [⟨some 10, .mov (.t 4), none⟩,
      ⟨some 11, .bin .neq (.t 10) (.c (.int .i64 0)), none⟩])
    (.cond (.t 11) (.seq (.reg [⟨some 12, .mov (.t 4), none⟩,
      ⟨some 2, .mov (.c (.int .i64 0)), none⟩,
      ⟨some 3, .mov (.t 12), none⟩])
    .ret) .skip)))
    (.seq (.reg [⟨some 5, .mov (.c (.int .i64 0)), none⟩])
    (.seq (.seq (.reg [⟨some 13, .mov (.t 0), none⟩,
      ⟨some 14, .call 103 [.t 13], none⟩,
      ⟨some 15, .len (.t 14), none⟩,
      ⟨some 16, .mov (.c (.int .i64 0)), none⟩])
    (.block 0 (.loop ir_thread_Depth_L0)))
    (.seq (.reg [⟨some 26, .mov (.t 5), none⟩,
      ⟨some 2, .mov (.t 26), none⟩,
      ⟨some 3, .mov (.c (.int .i64 0)), none⟩])
    .ret)))))
def rs_thread_Depth : List IRes := [.t 2, .t 3]
theorem ck_thread_Depth : chkF Tryz.prog Tryz.f35 ir_thread_Depth rs_thread_Depth 27 = true := by kernel_rfl
/- paperchase/chaseref1.OwnOf -/
def ir_chaseref1_OwnOf_L1 : IC :=
  (.seq (.seq (.reg [⟨some 22, .mov (.t 3), none⟩,
      ⟨some 23, .len (.t 22), none⟩,
      ⟨some 24, .bin .gtr (.t 23) (.c (.int .i64 0)), none⟩,
      ⟨some 25, .mov (.t 24), none⟩,
      ⟨some 26, .mov (.t 3), (some (25, true))⟩,
      ⟨some 27, .mov (.t 3), (some (25, true))⟩,
      ⟨some 28, .len (.t 27), (some (25, true))⟩,
      ⟨some 29, .bin .sub (.t 28) (.c (.int .i64 1)), (some (25, true))⟩,
      ⟨some 30, .ixa 1 (.t 26) (.t 29), (some (25, true))⟩,
      ⟨some 31, .ld 1 false (.t 30), (some (25, true))⟩,
      ⟨some 32, .call 111 [.t 31], (some (25, true))⟩,
      ⟨some 33, .bin .eql (.t 32) (.c (.str [])), (some (25, true))⟩,
      ⟨some 34, .pick (.t 25) (.t 33) (.c (.bool false)), none⟩])
    (.cond (.t 34) .skip (.exit 2)))
    (.block 3 (.reg [⟨some 35, .mov (.t 3), none⟩,
      ⟨some 36, .mov (.t 3), none⟩,
      ⟨some 37, .len (.t 36), none⟩,
      ⟨some 38, .bin .sub (.t 37) (.c (.int .i64 1)), none⟩,
      ⟨some 39, .trn 1 (.t 35) (.t 38), none⟩,
      ⟨some 3, .mov (.t 39), none⟩])))
def ir_chaseref1_OwnOf_L0 : IC :=
  (.seq (.reg [⟨some 10, .bin .lss (.t 9) (.t 8), none⟩])
    (.seq (.cond (.t 10) .skip (.exit 0))
    (.seq (.block 1 (.seq (.reg [⟨some 11, .ixa 2 (.t 7) (.t 9), none⟩,
      ⟨some 12, .ld 2 true (.t 11), none⟩,
      ⟨some 5, .alc 72 [.int .i64 0, .str []], none⟩,
      ⟨none, .st 2 (.t 5) (.t 12), none⟩])
    (.seq (.reg [⟨some 13, .fla 0 (.t 5), none⟩,
      ⟨some 14, .ld 1 false (.t 13), none⟩,
      ⟨some 15, .bin .eql (.t 14) (.c (.int .i64 0)), none⟩])
    (.cond (.t 15) (.reg [⟨some 16, .mov (.t 3), none⟩,
      ⟨some 17, .fla 1 (.t 5), none⟩,
      ⟨some 18, .ld 1 false (.t 17), none⟩,
      ⟨some 19, .bsl 1 [.t 18], none⟩,
      ⟨some 20, .app 9 1 16 (.t 16) (.t 19), none⟩,
      ⟨some 3, .mov (.t 20), none⟩]) .skip))))
    (.cut (.reg [⟨some 21, .bin .add (.t 9) (.c (.int .i64 1)), none⟩,
      ⟨some 9, .mov (.t 21), none⟩])))))
def ir_chaseref1_OwnOf : IC :=
  (.seq (.reg [⟨some 2, .mov (.c (.str [])), none⟩])
    (.seq (.reg [⟨some 3, .nilr 9 1, none⟩])
    (.seq (.seq (.reg [⟨some 6, .mov (.t 0), none⟩,
      ⟨some 7, .call 38 [.t 6], none⟩,
      ⟨some 8, .len (.t 7), none⟩,
      ⟨some 9, .mov (.c (.int .i64 0)), none⟩])
    (.block 0 (.loop ir_chaseref1_OwnOf_L0)))
    (.seq (.block 2 (.loop ir_chaseref1_OwnOf_L1))
    (.seq (.seq (.reg [⟨some 40, .mov (.t 3), none⟩,
      ⟨some 41, .len (.t 40), none⟩,
      ⟨some 42, .bin .eql (.t 41) (.c (.int .i64 0)), none⟩])
    (.cond (.t 42) (.seq (.reg [⟨some 2, .mov (.c (.str [])), none⟩])
    .ret) .skip))
    (.seq (.reg [⟨some 43, .mov (.t 3), none⟩,
      ⟨some 44, .call 90 [.t 43, .c (.str [10])], none⟩,
      ⟨some 45, .bin .add (.t 44) (.c (.str [10])), none⟩,
      ⟨some 2, .mov (.t 45), none⟩])
    .ret))))))
def rs_chaseref1_OwnOf : List IRes := [.t 2]
theorem ck_chaseref1_OwnOf : chkF Tryz.prog Tryz.f40 ir_chaseref1_OwnOf rs_chaseref1_OwnOf 46 = true := by kernel_rfl


def rowU (l : List (List UInt8)) (k : Nat) : List (List PV) := tb k fun j => [int (qF l j).1, .str (txF l j)]
theorem rowU_len (l : List (List UInt8)) (k : Nat) : (rowU l k).length = k := tb_len _ _
theorem rowU_app (l : List (List UInt8)) (k : Nat) : rowU l k ++ [[int (qF l k).1, .str (txF l k)]] = rowU l (k + 1) := by
  unfold rowU tb
  rw [List.range_succ, List.map_append]
  rfl
theorem apF_len (l : List (List UInt8)) : (apF l).length = l.length := tb_len _ _
theorem apF_get {l : List (List UInt8)} {k : Nat} (h : k < l.length) : (apF l).getD k [] = [int (qF l k).1, .str (txF l k), .bool (qF l k).2] := tb_get h
theorem quF_len (l : List (List UInt8)) : (quF l).length = l.length := tb_len _ _
theorem quF_get {l : List (List UInt8)} {k : Nat} (h : k < l.length) : (quF l).getD k [] = [int (qF l k).1, .str (txF l k)] := tb_get h
theorem apartP (s : List UInt8) (hs : s.length ≤ 25000) : PCall Tryz.prog E0 103 [.str s] (· = .sl 3 (apF (linesF s).1)) := plainF1 (apart_ok s hs)
theorem QuotedP (s : List UInt8) (hs : s.length ≤ 25000) : PCall Tryz.prog E0 38 [.str s] (· = .sl 2 (quF (rlinesF s))) := plainF1 (QuotedOf_ok s hs)
theorem TLines_ok (s : List UInt8) (hs : s.length ≤ 1000000000) : PCall Tryz.prog E0 33 [.str s] (· = .tup [.sl 2 (if bodyE s = 0 then quF (linesF s).1 else []), int (bodyE s)]) := by
  refine pcallF mixed Tryz.func33 ck_thread_Lines ?_
  simp only [a0, l0, OS.ao, List.map_cons, List.map_nil, List.length_cons, List.length_nil, List.cons_append, List.nil_append, Nat.reduceSub, Nat.reduceAdd, List.replicate_succ, List.replicate_zero, ir_thread_Lines, rs_thread_Lines, ZZ, YY, Zd, ite_true, ite_false, forall_const, reduceCtorEq, Nat.reduceAdd, Nat.reduceMul, Nat.reduceLeDiff, Nat.reduceLT, Nat.reduceEqDiff]
  refine use1 (checkBody_ok s hs) rfl (.inl rfl) ?_
  simp only [ZZ, YY, Zd, ite_true, ite_false, forall_const, reduceCtorEq, Nat.reduceAdd, Nat.reduceMul, Nat.reduceLeDiff, Nat.reduceLT, Nat.reduceEqDiff]
  refine br ?_ ?_
  · intro h
    have h : ¬ bodyE s = 0 := by simpa using h
    simp only [ZZ, YY, Zd, ite_true, ite_false, forall_const, reduceCtorEq, Nat.reduceAdd, Nat.reduceMul, Nat.reduceLeDiff, Nat.reduceLT, Nat.reduceEqDiff]
    rw [if_neg h]
  intro h
  have h : bodyE s = 0 := by simpa using h
  have hs2 : s.length ≤ 25000 := by have := (bodyE_zero h).1; omega
  rw [if_pos h, h]
  simp only [ZZ, YY, Zd, ite_true, ite_false, forall_const, reduceCtorEq, Nat.reduceAdd, Nat.reduceMul, Nat.reduceLeDiff, Nat.reduceLT, Nat.reduceEqDiff]
  refine use1 (apartP s hs2) rfl (.inl rfl) ?_
  obtain ⟨hll, hlb⟩ := linesF_bd s
  generalize (linesF s).1 = l at *
  simp only [ZZ, YY, Zd, ite_true, ite_false, forall_const, reduceCtorEq, Nat.reduceAdd, Nat.reduceMul, Nat.reduceLeDiff, Nat.reduceLT, Nat.reduceEqDiff, apF_len]
  rw [show ([] : List (List PV)) = rowU l 0 from rfl]
  refine loop_intro (fun n fr L => ∃ (k : Nat), k ≤ l.length ∧ n = l.length - k ∧ fr = [.any, .any, .any, .any, .any, .row (.l 5), .any, .any, .any, .any, .any, .any, .any, .any, .p (.sl 3 (apF l)), .p (int (l.length : Nat)), .p (int (k : Nat)), .any, .any, .any, .any, .any, .any, .any, .any, .any, .any] ∧ L = [(.l 5, .row (rowU l k) tQ2 2 true)]) (l.length) [.any, .any, .any, .any, .any, .row (.l 5), .any, .any, .any, .any, .any, .any, .any, .any, .p (.sl 3 (apF l)), .p (int (l.length : Nat)), .p (int (0 : Nat)), .any, .any, .any, .any, .any, .any, .any, .any, .any, .any] [(.l 5, .row (rowU l 0) tQ2 2 true)] (by simp only [ZZ, YY, Zd, ite_true, ite_false, forall_const, reduceCtorEq, Nat.reduceAdd, Nat.reduceMul, Nat.reduceLeDiff, Nat.reduceLT, Nat.reduceEqDiff, strE_len]; try trivial) (by (simp only [ZZ, YY, Zd, ite_true, ite_false, forall_const, reduceCtorEq, Nat.reduceAdd, Nat.reduceMul, Nat.reduceLeDiff, Nat.reduceLT, Nat.reduceEqDiff]; try trivial)) ⟨0, by omega, by omega, rfl, rfl⟩ ?_
  rintro n fr L ⟨k, hk, rfl, rfl, rfl⟩
  simp only [ir_thread_Lines_L0, ZZ, YY, Zd, ite_true, ite_false, forall_const, reduceCtorEq, Nat.reduceAdd, Nat.reduceMul, Nat.reduceLeDiff, Nat.reduceLT, Nat.reduceEqDiff]
  refine br ?_ ?_
  · intro h
    have hlt : k < l.length := by have := of_decide_eq_true h; omega
    simp only [ZZ, YY, Zd, ite_true, ite_false, forall_const, reduceCtorEq, Nat.reduceAdd, Nat.reduceMul, Nat.reduceLeDiff, Nat.reduceLT, Nat.reduceEqDiff, apF_get hlt, apF_len, rowU_len]
    ((repeat' (with_reducible apply And.intro)) <;> try ((first | first | assumption | trivial | exact (fun hq => by rw [hq]; rfl) | exact i64_of (by omega) (by omega) | omega | (simp; done) | (simp; omega) | (intro hsc; have hs0 := hsc; (try have hsd := of_decide_eq_true hsc); (try simp only [Bool.not_eq_true', Bool.or_eq_false_iff, Bool.and_eq_true, Bool.or_eq_true, decide_eq_true_eq, decide_eq_false_iff_not] at hsc); (repeat' (with_reducible apply And.intro)) <;> (first | assumption | trivial | exact (fun hq => by rw [hq]; rfl) | exact i64_of (by omega) (by omega) | omega | (simp; done) | (simp; omega) | (intro hse; simp [hse, hs0]; done) | (intro hse; simp only [hse, hs0, Bool.true_and, Bool.and_true, Bool.not_false, Bool.not_true, Bool.and_self]; done))))))
    rw [rowU_app]
    refine end_round (l.length - (k + 1)) [.any, .any, .any, .any, .any, .row (.l 5), .any, .any, .any, .any, .any, .any, .any, .any, .p (.sl 3 (apF l)), .p (int (l.length : Nat)), .p (int ((k + 1) : Nat)), .any, .any, .any, .any, .any, .any, .any, .any, .any, .any] [(.l 5, .row (rowU l (k + 1)) tQ2 2 true)] (by omega) (by (simp only [ZZ, YY, Zd, ite_true, ite_false, forall_const, reduceCtorEq, Nat.reduceAdd, Nat.reduceMul, Nat.reduceLeDiff, Nat.reduceLT, Nat.reduceEqDiff]; try trivial)) (by (simp only [ZZ, YY, Zd, ite_true, ite_false, forall_const, reduceCtorEq, Nat.reduceAdd, Nat.reduceMul, Nat.reduceLeDiff, Nat.reduceLT, Nat.reduceEqDiff]; try trivial)) ⟨k + 1, by omega, rfl, rfl, rfl⟩
  · intro h
    have hge : k = l.length := by have := of_decide_eq_false h; omega
    subst hge
    simp only [ZZ, YY, Zd, ite_true, ite_false, forall_const, reduceCtorEq, Nat.reduceAdd, Nat.reduceMul, Nat.reduceLeDiff, Nat.reduceLT, Nat.reduceEqDiff]
    rfl
def dpF (l : List (List UInt8)) (k : Nat) : Nat := (List.range k).foldl (fun n j => max n (qF l j).1) 0
theorem dpF_succ (l : List (List UInt8)) (k : Nat) : dpF l (k + 1) = max (dpF l k) (qF l k).1 := by
  unfold dpF; rw [List.range_succ, List.foldl_append]; rfl
theorem TDepth_ok (s : List UInt8) (hs : s.length ≤ 1000000000) : PCall Tryz.prog E0 35 [.str s] (· = .tup [int (if bodyE s = 0 then dpF (linesF s).1 (linesF s).1.length else 0 : Nat), int (bodyE s)]) := by
  refine pcallF mixed Tryz.func35 ck_thread_Depth ?_
  simp only [a0, l0, OS.ao, List.map_cons, List.map_nil, List.length_cons, List.length_nil, List.cons_append, List.nil_append, Nat.reduceSub, Nat.reduceAdd, List.replicate_succ, List.replicate_zero, ir_thread_Depth, rs_thread_Depth, ZZ, YY, Zd, ite_true, ite_false, forall_const, reduceCtorEq, Nat.reduceAdd, Nat.reduceMul, Nat.reduceLeDiff, Nat.reduceLT, Nat.reduceEqDiff]
  refine use1 (checkBody_ok s hs) rfl (.inl rfl) ?_
  simp only [ZZ, YY, Zd, ite_true, ite_false, forall_const, reduceCtorEq, Nat.reduceAdd, Nat.reduceMul, Nat.reduceLeDiff, Nat.reduceLT, Nat.reduceEqDiff]
  refine br ?_ ?_
  · intro h
    have h : ¬ bodyE s = 0 := by simpa using h
    simp only [ZZ, YY, Zd, ite_true, ite_false, forall_const, reduceCtorEq, Nat.reduceAdd, Nat.reduceMul, Nat.reduceLeDiff, Nat.reduceLT, Nat.reduceEqDiff]
    rw [if_neg h]
    rfl
  intro h
  have h : bodyE s = 0 := by simpa using h
  have hs2 : s.length ≤ 25000 := by have := (bodyE_zero h).1; omega
  rw [if_pos h, h]
  simp only [ZZ, YY, Zd, ite_true, ite_false, forall_const, reduceCtorEq, Nat.reduceAdd, Nat.reduceMul, Nat.reduceLeDiff, Nat.reduceLT, Nat.reduceEqDiff]
  refine use1 (apartP s hs2) rfl (.inl rfl) ?_
  obtain ⟨hll, hlb⟩ := linesF_bd s
  generalize (linesF s).1 = l at *
  simp only [ZZ, YY, Zd, ite_true, ite_false, forall_const, reduceCtorEq, Nat.reduceAdd, Nat.reduceMul, Nat.reduceLeDiff, Nat.reduceLT, Nat.reduceEqDiff, apF_len]
  refine loop_intro (fun n fr L => ∃ (k : Nat), k ≤ l.length ∧ n = l.length - k ∧ fr = [.any, .any, .any, .any, .any, .p (int (dpF l k : Nat)), .any, .any, .any, .any, .any, .any, .any, .any, .p (.sl 3 (apF l)), .p (int (l.length : Nat)), .p (int (k : Nat)), .any, .any, .any, .any, .any, .any, .any, .any, .any, .any] ∧ L = []) (l.length) [.any, .any, .any, .any, .any, .p (int (dpF l 0 : Nat)), .any, .any, .any, .any, .any, .any, .any, .any, .p (.sl 3 (apF l)), .p (int (l.length : Nat)), .p (int (0 : Nat)), .any, .any, .any, .any, .any, .any, .any, .any, .any, .any] [] (by simp only [ZZ, YY, Zd, ite_true, ite_false, forall_const, reduceCtorEq, Nat.reduceAdd, Nat.reduceMul, Nat.reduceLeDiff, Nat.reduceLT, Nat.reduceEqDiff, strE_len]; try trivial) (by (simp only [ZZ, YY, Zd, ite_true, ite_false, forall_const, reduceCtorEq, Nat.reduceAdd, Nat.reduceMul, Nat.reduceLeDiff, Nat.reduceLT, Nat.reduceEqDiff]; try trivial)) ⟨0, by omega, by omega, rfl, rfl⟩ ?_
  rintro n fr L ⟨k, hk, rfl, rfl, rfl⟩
  simp only [ir_thread_Depth_L0, ZZ, YY, Zd, ite_true, ite_false, forall_const, reduceCtorEq, Nat.reduceAdd, Nat.reduceMul, Nat.reduceLeDiff, Nat.reduceLT, Nat.reduceEqDiff]
  refine br ?_ ?_
  · intro h
    have hlt : k < l.length := by have := of_decide_eq_true h; omega
    have hm : max ((dpF l k : Nat) : Int) ((qF l k).1 : Nat) = ((dpF l (k + 1) : Nat) : Int) := by rw [dpF_succ]; omega
    simp only [ZZ, YY, Zd, ite_true, ite_false, forall_const, reduceCtorEq, Nat.reduceAdd, Nat.reduceMul, Nat.reduceLeDiff, Nat.reduceLT, Nat.reduceEqDiff, apF_get hlt, apF_len, hm]
    ((repeat' (with_reducible apply And.intro)) <;> try ((first | first | assumption | trivial | exact (fun hq => by rw [hq]; rfl) | exact i64_of (by omega) (by omega) | omega | (simp; done) | (simp; omega) | (intro hsc; have hs0 := hsc; (try have hsd := of_decide_eq_true hsc); (try simp only [Bool.not_eq_true', Bool.or_eq_false_iff, Bool.and_eq_true, Bool.or_eq_true, decide_eq_true_eq, decide_eq_false_iff_not] at hsc); (repeat' (with_reducible apply And.intro)) <;> (first | assumption | trivial | exact (fun hq => by rw [hq]; rfl) | exact i64_of (by omega) (by omega) | omega | (simp; done) | (simp; omega) | (intro hse; simp [hse, hs0]; done) | (intro hse; simp only [hse, hs0, Bool.true_and, Bool.and_true, Bool.not_false, Bool.not_true, Bool.and_self]; done))))))
    refine end_round (l.length - (k + 1)) [.any, .any, .any, .any, .any, .p (int (dpF l (k + 1) : Nat)), .any, .any, .any, .any, .any, .any, .any, .any, .p (.sl 3 (apF l)), .p (int (l.length : Nat)), .p (int ((k + 1) : Nat)), .any, .any, .any, .any, .any, .any, .any, .any, .any, .any] [] (by omega) (by (simp only [ZZ, YY, Zd, ite_true, ite_false, forall_const, reduceCtorEq, Nat.reduceAdd, Nat.reduceMul, Nat.reduceLeDiff, Nat.reduceLT, Nat.reduceEqDiff]; try trivial)) (by (simp only [ZZ, YY, Zd, ite_true, ite_false, forall_const, reduceCtorEq, Nat.reduceAdd, Nat.reduceMul, Nat.reduceLeDiff, Nat.reduceLT, Nat.reduceEqDiff]; try trivial)) ⟨k + 1, by omega, rfl, rfl, rfl⟩
  · intro h
    have hge : k = l.length := by have := of_decide_eq_false h; omega
    subst hge
    simp only [ZZ, YY, Zd, ite_true, ite_false, forall_const, reduceCtorEq, Nat.reduceAdd, Nat.reduceMul, Nat.reduceLeDiff, Nat.reduceLT, Nat.reduceEqDiff]
theorem join_wgt (c : UInt8) : ∀ (l : List (List UInt8)), (Lib.join l [c]).length ≤ wgt l - 1
  | [] => by simp [Lib.join_nil]
  | [x] => by simp [Lib.join_one, wgt]
  | x :: y :: r => by
    have := join_wgt c (y :: r)
    rw [Lib.join_cons] at this ⊢
    simp only [wgt, Lib.joinTail, List.map_cons, List.flatten_cons, List.length_append, List.length_cons, List.length_nil] at this ⊢
    omega
theorem wgt_bd (m : Nat) : ∀ (l : List (List UInt8)), (∀ x ∈ l, x.length ≤ m) → wgt l ≤ l.length * (m + 1)
  | [], _ => by simp [wgt]
  | x :: r, h => by
    have h1 := wgt_bd m r (fun y hy => h y (by simp [hy]))
    have h2 := h x (by simp)
    simp only [wgt, List.length_cons, Nat.add_mul, Nat.one_mul]
    omega
/-- The own lines of the first k. -/
def ownF (l : List (List UInt8)) (k : Nat) : List (List UInt8) := ((List.range k).filter fun j => decide ((qF l j).1 = 0)).map (txF l)
theorem ownF_succ (l : List (List UInt8)) (k : Nat) : ownF l (k + 1) = if (qF l k).1 = 0 then ownF l k ++ [txF l k] else ownF l k := by
  unfold ownF
  rw [List.range_succ, List.filter_append, List.map_append]
  by_cases h : (qF l k).1 = 0 <;> simp [h]
theorem ownF_len (l : List (List UInt8)) (k : Nat) : (ownF l k).length ≤ k := by
  unfold ownF
  rw [List.length_map]
  exact Nat.le_trans (List.length_filter_le _ _) (by simp)
theorem ownF_bd {l : List (List UInt8)} {m : Nat} (hb : ∀ x ∈ l, x.length ≤ m) (k : Nat) : ∀ x ∈ ownF l k, x.length ≤ m := by
  intro x hx
  unfold ownF at hx
  obtain ⟨j, _, rfl⟩ := List.mem_map.1 hx
  have := sgF_bd hb j
  omega
def endB (ws : List (List UInt8)) : Nat → Nat
  | 0 => 0
  | m + 1 => if blankF (ws.getD m []) = true then endB ws m else m + 1
def ownS (ws : List (List UInt8)) : List UInt8 := if endB ws ws.length = 0 then [] else Lib.join (ws.take (endB ws ws.length)) [10] ++ [10]
theorem strE_take (ws : List (List UInt8)) (m n : Nat) (h : n ≤ m) : (strE (ws.take m)).take n = strE (ws.take n) := by
  rw [strE, strE, ← List.map_take, List.take_take, Nat.min_eq_left h]
theorem join_bd25 (ws : List (List UInt8)) (m : Nat) (hm : ws.length ≤ 25001) (hb : ∀ x ∈ ws, x.length ≤ 25000) : (Lib.join (ws.take m) [10]).length ≤ 900000000 := by
  have h1 := join_wgt 10 (ws.take m)
  have h2 := wgt_bd 25000 (ws.take m) (fun x hx => hb x (List.mem_of_mem_take hx))
  have h3 : (ws.take m).length ≤ 25001 := by simp; omega
  have h4 : (ws.take m).length * (25000 + 1) ≤ 25001 * 25001 := Nat.mul_le_mul h3 (Nat.le_refl _)
  omega
theorem int0 (n : Nat) : decide ((n : Int) = 0) = decide (n = 0) := by simp
set_option maxHeartbeats 4000000 in
theorem TOwn_ok (s : List UInt8) (hs : s.length ≤ 1000000000) : PCall Tryz.prog E0 34 [.str s] (· = .tup [.str (if bodyE s = 0 then ownS (ownF (linesF s).1 (linesF s).1.length) else []), int (bodyE s)]) := by
  refine pcallF mixed Tryz.func34 ck_thread_Own ?_
  simp only [a0, l0, OS.ao, List.map_cons, List.map_nil, List.length_cons, List.length_nil, List.cons_append, List.nil_append, Nat.reduceSub, Nat.reduceAdd, List.replicate_succ, List.replicate_zero, ir_thread_Own, rs_thread_Own, ZZ, YY, Zd, ite_true, ite_false, forall_const, reduceCtorEq, Nat.reduceAdd, Nat.reduceMul, Nat.reduceLeDiff, Nat.reduceLT, Nat.reduceEqDiff]
  refine use1 (checkBody_ok s hs) rfl (.inl rfl) ?_
  simp only [ZZ, YY, Zd, ite_true, ite_false, forall_const, reduceCtorEq, Nat.reduceAdd, Nat.reduceMul, Nat.reduceLeDiff, Nat.reduceLT, Nat.reduceEqDiff]
  refine br ?_ ?_
  · intro h
    have h : ¬ bodyE s = 0 := by simpa using h
    simp only [ZZ, YY, Zd, ite_true, ite_false, forall_const, reduceCtorEq, Nat.reduceAdd, Nat.reduceMul, Nat.reduceLeDiff, Nat.reduceLT, Nat.reduceEqDiff]
    rw [if_neg h]
  intro h
  have h : bodyE s = 0 := by simpa using h
  have hs2 : s.length ≤ 25000 := by have := (bodyE_zero h).1; omega
  rw [if_pos h, h]
  simp only [ZZ, YY, Zd, ite_true, ite_false, forall_const, reduceCtorEq, Nat.reduceAdd, Nat.reduceMul, Nat.reduceLeDiff, Nat.reduceLT, Nat.reduceEqDiff]
  refine use1 (apartP s hs2) rfl (.inl rfl) ?_
  obtain ⟨hll, hlb⟩ := linesF_bd s
  generalize (linesF s).1 = l at *
  simp only [ZZ, YY, Zd, ite_true, ite_false, forall_const, reduceCtorEq, Nat.reduceAdd, Nat.reduceMul, Nat.reduceLeDiff, Nat.reduceLT, Nat.reduceEqDiff, apF_len]
  rw [show ([] : List (List PV)) = strE (ownF l 0) from rfl]
  refine loop_intro (fun n fr L => ∃ (k : Nat), k ≤ l.length ∧ n = l.length - k ∧ fr = [.any, .any, .any, .any, .any, .row (.l 5), .any, .any, .any, .any, .any, .any, .any, .any, .p (.sl 3 (apF l)), .p (int (l.length : Nat)), .p (int (k : Nat)), .any, .any, .any, .any, .any, .any, .any, .any, .any, .any, .any, .any, .any, .any, .any, .any, .any, .any, .any, .any, .any, .any, .any, .any, .any, .any, .any, .any, .any, .any, .any, .any, .any, .any, .any, .any, .any] ∧ L = [(.l 5, .row (strE (ownF l k)) tStr 1 true)]) (l.length) [.any, .any, .any, .any, .any, .row (.l 5), .any, .any, .any, .any, .any, .any, .any, .any, .p (.sl 3 (apF l)), .p (int (l.length : Nat)), .p (int (0 : Nat)), .any, .any, .any, .any, .any, .any, .any, .any, .any, .any, .any, .any, .any, .any, .any, .any, .any, .any, .any, .any, .any, .any, .any, .any, .any, .any, .any, .any, .any, .any, .any, .any, .any, .any, .any, .any, .any] [(.l 5, .row (strE (ownF l 0)) tStr 1 true)] (by simp only [ZZ, YY, Zd, ite_true, ite_false, forall_const, reduceCtorEq, Nat.reduceAdd, Nat.reduceMul, Nat.reduceLeDiff, Nat.reduceLT, Nat.reduceEqDiff, strE_len]; try trivial) (by (simp only [ZZ, YY, Zd, ite_true, ite_false, forall_const, reduceCtorEq, Nat.reduceAdd, Nat.reduceMul, Nat.reduceLeDiff, Nat.reduceLT, Nat.reduceEqDiff]; try trivial)) ⟨0, by omega, by omega, rfl, rfl⟩ ?_
  rintro n fr L ⟨k, hk, rfl, rfl, rfl⟩
  simp only [ir_thread_Own_L0, ZZ, YY, Zd, ite_true, ite_false, forall_const, reduceCtorEq, Nat.reduceAdd, Nat.reduceMul, Nat.reduceLeDiff, Nat.reduceLT, Nat.reduceEqDiff]
  refine br ?_ ?_
  · intro h
    have hlt : k < l.length := by have := of_decide_eq_true h; omega
    have hol := ownF_len l k
    have hos := ownF_succ l k
    simp only [ZZ, YY, Zd, ite_true, ite_false, forall_const, reduceCtorEq, Nat.reduceAdd, Nat.reduceMul, Nat.reduceLeDiff, Nat.reduceLT, Nat.reduceEqDiff, apF_get hlt, apF_len]
    ((repeat' (with_reducible apply And.intro)) <;> try ((first | first | assumption | trivial | exact (fun hq => by rw [hq]; rfl) | exact i64_of (by omega) (by omega) | omega | (simp; done) | (simp; omega) | (intro hsc; have hs0 := hsc; (try have hsd := of_decide_eq_true hsc); (try simp only [Bool.not_eq_true', Bool.or_eq_false_iff, Bool.and_eq_true, Bool.or_eq_true, decide_eq_true_eq, decide_eq_false_iff_not] at hsc); (repeat' (with_reducible apply And.intro)) <;> (first | assumption | trivial | exact (fun hq => by rw [hq]; rfl) | exact i64_of (by omega) (by omega) | omega | (simp; done) | (simp; omega) | (intro hse; simp [hse, hs0]; done) | (intro hse; simp only [hse, hs0, Bool.true_and, Bool.and_true, Bool.not_false, Bool.not_true, Bool.and_self]; done))))))
    rw [int0]
    refine br ?_ ?_
    · intro h0
      have h0 : (qF l k).1 = 0 := of_decide_eq_true h0
      rw [if_pos h0] at hos
      simp only [ZZ, YY, Zd, ite_true, ite_false, forall_const, reduceCtorEq, Nat.reduceAdd, Nat.reduceMul, Nat.reduceLeDiff, Nat.reduceLT, Nat.reduceEqDiff, strE_len]
      ((repeat' (with_reducible apply And.intro)) <;> try ((first | first | assumption | trivial | exact (fun hq => by rw [hq]; rfl) | exact i64_of (by omega) (by omega) | omega | (simp; done) | (simp; omega) | (intro hsc; have hs0 := hsc; (try have hsd := of_decide_eq_true hsc); (try simp only [Bool.not_eq_true', Bool.or_eq_false_iff, Bool.and_eq_true, Bool.or_eq_true, decide_eq_true_eq, decide_eq_false_iff_not] at hsc); (repeat' (with_reducible apply And.intro)) <;> (first | assumption | trivial | exact (fun hq => by rw [hq]; rfl) | exact i64_of (by omega) (by omega) | omega | (simp; done) | (simp; omega) | (intro hse; simp [hse, hs0]; done) | (intro hse; simp only [hse, hs0, Bool.true_and, Bool.and_true, Bool.not_false, Bool.not_true, Bool.and_self]; done))))))
      refine cut_same (by simp only [ZZ, YY, Zd, ite_true, ite_false, forall_const, reduceCtorEq, Nat.reduceAdd, Nat.reduceMul, Nat.reduceLeDiff, Nat.reduceLT, Nat.reduceEqDiff]) ?_
      simp only [ZZ, YY, Zd, ite_true, ite_false, forall_const, reduceCtorEq, Nat.reduceAdd, Nat.reduceMul, Nat.reduceLeDiff, Nat.reduceLT, Nat.reduceEqDiff]
      ((repeat' (with_reducible apply And.intro)) <;> try ((first | first | assumption | trivial | exact (fun hq => by rw [hq]; rfl) | exact i64_of (by omega) (by omega) | omega | (simp; done) | (simp; omega) | (intro hsc; have hs0 := hsc; (try have hsd := of_decide_eq_true hsc); (try simp only [Bool.not_eq_true', Bool.or_eq_false_iff, Bool.and_eq_true, Bool.or_eq_true, decide_eq_true_eq, decide_eq_false_iff_not] at hsc); (repeat' (with_reducible apply And.intro)) <;> (first | assumption | trivial | exact (fun hq => by rw [hq]; rfl) | exact i64_of (by omega) (by omega) | omega | (simp; done) | (simp; omega) | (intro hse; simp [hse, hs0]; done) | (intro hse; simp only [hse, hs0, Bool.true_and, Bool.and_true, Bool.not_false, Bool.not_true, Bool.and_self]; done))))))
      rw [strE_one, ← strE_app, ← hos]
      refine end_round (l.length - (k + 1)) [.any, .any, .any, .any, .any, .row (.l 5), .any, .any, .any, .any, .any, .any, .any, .any, .p (.sl 3 (apF l)), .p (int (l.length : Nat)), .p (int ((k + 1) : Nat)), .any, .any, .any, .any, .any, .any, .any, .any, .any, .any, .any, .any, .any, .any, .any, .any, .any, .any, .any, .any, .any, .any, .any, .any, .any, .any, .any, .any, .any, .any, .any, .any, .any, .any, .any, .any, .any] [(.l 5, .row (strE (ownF l (k + 1))) tStr 1 true)] (by omega) (by (simp only [ZZ, YY, Zd, ite_true, ite_false, forall_const, reduceCtorEq, Nat.reduceAdd, Nat.reduceMul, Nat.reduceLeDiff, Nat.reduceLT, Nat.reduceEqDiff]; try trivial)) (by (simp only [ZZ, YY, Zd, ite_true, ite_false, forall_const, reduceCtorEq, Nat.reduceAdd, Nat.reduceMul, Nat.reduceLeDiff, Nat.reduceLT, Nat.reduceEqDiff]; try trivial)) ⟨k + 1, by omega, rfl, rfl, rfl⟩
    · intro h0
      have h0 : ¬ (qF l k).1 = 0 := of_decide_eq_false h0
      rw [if_neg h0] at hos
      simp only [ZZ, YY, Zd, ite_true, ite_false, forall_const, reduceCtorEq, Nat.reduceAdd, Nat.reduceMul, Nat.reduceLeDiff, Nat.reduceLT, Nat.reduceEqDiff]
      refine cut_same (by simp only [ZZ, YY, Zd, ite_true, ite_false, forall_const, reduceCtorEq, Nat.reduceAdd, Nat.reduceMul, Nat.reduceLeDiff, Nat.reduceLT, Nat.reduceEqDiff]) ?_
      simp only [ZZ, YY, Zd, ite_true, ite_false, forall_const, reduceCtorEq, Nat.reduceAdd, Nat.reduceMul, Nat.reduceLeDiff, Nat.reduceLT, Nat.reduceEqDiff]
      ((repeat' (with_reducible apply And.intro)) <;> try ((first | first | assumption | trivial | exact (fun hq => by rw [hq]; rfl) | exact i64_of (by omega) (by omega) | omega | (simp; done) | (simp; omega) | (intro hsc; have hs0 := hsc; (try have hsd := of_decide_eq_true hsc); (try simp only [Bool.not_eq_true', Bool.or_eq_false_iff, Bool.and_eq_true, Bool.or_eq_true, decide_eq_true_eq, decide_eq_false_iff_not] at hsc); (repeat' (with_reducible apply And.intro)) <;> (first | assumption | trivial | exact (fun hq => by rw [hq]; rfl) | exact i64_of (by omega) (by omega) | omega | (simp; done) | (simp; omega) | (intro hse; simp [hse, hs0]; done) | (intro hse; simp only [hse, hs0, Bool.true_and, Bool.and_true, Bool.not_false, Bool.not_true, Bool.and_self]; done))))))
      rw [← hos]
      refine end_round (l.length - (k + 1)) [.any, .any, .any, .any, .any, .row (.l 5), .any, .any, .any, .any, .any, .any, .any, .any, .p (.sl 3 (apF l)), .p (int (l.length : Nat)), .p (int ((k + 1) : Nat)), .any, .any, .any, .any, .any, .any, .any, .any, .any, .any, .any, .any, .any, .any, .any, .any, .any, .any, .any, .any, .any, .any, .any, .any, .any, .any, .any, .any, .any, .any, .any, .any, .any, .any, .any, .any, .any] [(.l 5, .row (strE (ownF l (k + 1))) tStr 1 true)] (by omega) (by (simp only [ZZ, YY, Zd, ite_true, ite_false, forall_const, reduceCtorEq, Nat.reduceAdd, Nat.reduceMul, Nat.reduceLeDiff, Nat.reduceLT, Nat.reduceEqDiff]; try trivial)) (by (simp only [ZZ, YY, Zd, ite_true, ite_false, forall_const, reduceCtorEq, Nat.reduceAdd, Nat.reduceMul, Nat.reduceLeDiff, Nat.reduceLT, Nat.reduceEqDiff]; try trivial)) ⟨k + 1, by omega, rfl, rfl, rfl⟩
  · intro h
    have hge : k = l.length := by have := of_decide_eq_false h; omega
    subst hge
    have hol := ownF_len l l.length
    have hob := ownF_bd (m := 25000) (fun x hx => by have := hlb x hx; omega) l.length
    generalize ownF l l.length = ws at *
    simp only [ZZ, YY, Zd, ite_true, ite_false, forall_const, reduceCtorEq, Nat.reduceAdd, Nat.reduceMul, Nat.reduceLeDiff, Nat.reduceLT, Nat.reduceEqDiff]
    rw [show strE ws = strE (ws.take ws.length) from by rw [List.take_length]]
    refine loop_intro (fun n fr L => ∃ (m : Nat), m = n ∧ (m ≤ ws.length) ∧ (endB ws ws.length = endB ws m) ∧ fr = [.any, .any, .any, .any, .any, .row (.l 5), .any, .any, .any, .any, .any, .any, .any, .any, .any, .any, .any, .any, .any, .any, .any, .any, .any, .any, .any, .any, .any, .any, .any, .any, .any, .any, .any, .any, .any, .any, .any, .any, .any, .any, .any, .any, .any, .any, .any, .any, .any, .any, .any, .any, .any, .any, .any, .any] ∧ L = [(.l 5, .row (strE (ws.take m)) tStr 1 true)]) ((ws.length)) [.any, .any, .any, .any, .any, .row (.l 5), .any, .any, .any, .any, .any, .any, .any, .any, .any, .any, .any, .any, .any, .any, .any, .any, .any, .any, .any, .any, .any, .any, .any, .any, .any, .any, .any, .any, .any, .any, .any, .any, .any, .any, .any, .any, .any, .any, .any, .any, .any, .any, .any, .any, .any, .any, .any, .any] [(.l 5, .row (strE (ws.take (ws.length))) tStr 1 true)] (by (simp only [ZZ, YY, Zd, ite_true, ite_false, forall_const, reduceCtorEq, Nat.reduceAdd, Nat.reduceMul, Nat.reduceLeDiff, Nat.reduceLT, Nat.reduceEqDiff]; try trivial)) (by (simp only [ZZ, YY, Zd, ite_true, ite_false, forall_const, reduceCtorEq, Nat.reduceAdd, Nat.reduceMul, Nat.reduceLeDiff, Nat.reduceLT, Nat.reduceEqDiff]; try trivial)) ⟨ws.length, rfl, by omega, rfl, rfl, rfl⟩ ?_
    rintro n fr L ⟨m, rfl, hmw, hme, rfl, rfl⟩
    simp only [ir_thread_Own_L1, ZZ, YY, Zd, ite_true, ite_false, forall_const, reduceCtorEq, Nat.reduceAdd, Nat.reduceMul, Nat.reduceLeDiff, Nat.reduceLT, Nat.reduceEqDiff]
    have htl : (strE (ws.take m)).length = m := by rw [strE_len]; simp; omega
    rcases m with _ | m
    · have hd : decide ((0 : Int) < ((0 : Nat) : Int)) = false := by decide
      have hse : strE ([] : List (List UInt8)) = [] := rfl
      have hgz : ∀ k, ([] : List (List PV)).getD k [] = [] := fun k => by simp
      have hfin : ownS ws = [] := by rw [ownS, hme]; rfl
      simp only [ZZ, YY, Zd, ite_true, ite_false, forall_const, reduceCtorEq, Nat.reduceAdd, Nat.reduceMul, Nat.reduceLeDiff, Nat.reduceLT, Nat.reduceEqDiff, hse, hd, hgz, false_implies, Bool.false_and, thenQ]
      refine useGC (fun hc => by cases hc) (fun _ => ?_)
      simp only [ZZ, YY, Zd, ite_true, ite_false, forall_const, reduceCtorEq, Nat.reduceAdd, Nat.reduceMul, Nat.reduceLeDiff, Nat.reduceLT, Nat.reduceEqDiff, hse, hd, hgz, false_implies, Bool.false_and, thenQ]
      refine br (fun _ => ?_) (fun hc => by simp at hc)
      simp only [ZZ, YY, Zd, ite_true, ite_false, forall_const, reduceCtorEq, Nat.reduceAdd, Nat.reduceMul, Nat.reduceLeDiff, Nat.reduceLT, Nat.reduceEqDiff]
      rw [hfin]
    · have hd : decide ((0 : Int) < ((m + 1 : Nat) : Int)) = true := decide_eq_true (by omega)
      have hn : (((m + 1 : Nat) : Int) - 1).toNat = m := by omega
      obtain ⟨x, hx⟩ : ∃ x, ws[m]? = some x := ⟨_, List.getElem?_eq_getElem (by omega)⟩
      have hg : (strE (ws.take (m + 1))).getD m [] = [.str x] := strE_get (by rw [List.getElem?_take_of_lt (by omega)]; exact hx)
      have hxb := hob x (List.mem_of_getElem? hx)
      have hxd : ws.getD m [] = x := by simp [List.getD, hx]
      simp only [ZZ, YY, Zd, ite_true, ite_false, forall_const, reduceCtorEq, Nat.reduceAdd, Nat.reduceMul, Nat.reduceLeDiff, Nat.reduceLT, Nat.reduceEqDiff, htl, hd, hn, hg]
      ((repeat' (with_reducible apply And.intro)) <;> try ((first | first | assumption | trivial | exact (fun hq => by rw [hq]; rfl) | exact i64_of (by omega) (by omega) | omega | (simp; done) | (simp; omega) | (intro hsc; have hs0 := hsc; (try have hsd := of_decide_eq_true hsc); (try simp only [Bool.not_eq_true', Bool.or_eq_false_iff, Bool.and_eq_true, Bool.or_eq_true, decide_eq_true_eq, decide_eq_false_iff_not] at hsc); (repeat' (with_reducible apply And.intro)) <;> (first | assumption | trivial | exact (fun hq => by rw [hq]; rfl) | exact i64_of (by omega) (by omega) | omega | (simp; done) | (simp; omega) | (intro hse; simp [hse, hs0]; done) | (intro hse; simp only [hse, hs0, Bool.true_and, Bool.and_true, Bool.not_false, Bool.not_true, Bool.and_self]; done))))))
      refine useG (fun _ => blank_ok x (by omega)) rfl (.inl rfl) ?_
      simp only [ZZ, YY, Zd, ite_true, ite_false, forall_const, reduceCtorEq, Nat.reduceAdd, Nat.reduceMul, Nat.reduceLeDiff, Nat.reduceLT, Nat.reduceEqDiff, thenQ]
      refine br ?_ ?_
      · intro hb
        have hst := strE_take ws (m + 1) m (by omega)
        have hep : endB ws (m + 1) = endB ws m := by rw [endB, hxd, if_pos hb]
        simp only [ZZ, YY, Zd, ite_true, ite_false, forall_const, reduceCtorEq, Nat.reduceAdd, Nat.reduceMul, Nat.reduceLeDiff, Nat.reduceLT, Nat.reduceEqDiff, htl, hd, hn, hg, hst, thenQ]
        ((repeat' (with_reducible apply And.intro)) <;> try ((first | first | assumption | trivial | exact (fun hq => by rw [hq]; rfl) | exact i64_of (by omega) (by omega) | omega | (simp; done) | (simp; omega) | (intro hsc; have hs0 := hsc; (try have hsd := of_decide_eq_true hsc); (try simp only [Bool.not_eq_true', Bool.or_eq_false_iff, Bool.and_eq_true, Bool.or_eq_true, decide_eq_true_eq, decide_eq_false_iff_not] at hsc); (repeat' (with_reducible apply And.intro)) <;> (first | assumption | trivial | exact (fun hq => by rw [hq]; rfl) | exact i64_of (by omega) (by omega) | omega | (simp; done) | (simp; omega) | (intro hse; simp [hse, hs0]; done) | (intro hse; simp only [hse, hs0, Bool.true_and, Bool.and_true, Bool.not_false, Bool.not_true, Bool.and_self]; done))))))
        refine end_round ((m)) [.any, .any, .any, .any, .any, .row (.l 5), .any, .any, .any, .any, .any, .any, .any, .any, .any, .any, .any, .any, .any, .any, .any, .any, .any, .any, .any, .any, .any, .any, .any, .any, .any, .any, .any, .any, .any, .any, .any, .any, .any, .any, .any, .any, .any, .any, .any, .any, .any, .any, .any, .any, .any, .any, .any, .any] [(.l 5, .row (strE (ws.take (m))) tStr 1 true)] (by omega) (by (simp only [ZZ, YY, Zd, ite_true, ite_false, forall_const, reduceCtorEq, Nat.reduceAdd, Nat.reduceMul, Nat.reduceLeDiff, Nat.reduceLT, Nat.reduceEqDiff]; try trivial)) (by (simp only [ZZ, YY, Zd, ite_true, ite_false, forall_const, reduceCtorEq, Nat.reduceAdd, Nat.reduceMul, Nat.reduceLeDiff, Nat.reduceLT, Nat.reduceEqDiff]; try trivial)) ⟨m, rfl, by omega, by rw [hme, hep], rfl, rfl⟩
      · intro hb
        have hep : endB ws (m + 1) = m + 1 := by rw [endB, hxd, if_neg (by rw [hb]; simp)]
        have hfin : ownS ws = Lib.join (ws.take (m + 1)) [10] ++ [10] := by rw [ownS, hme, hep, if_neg (by omega)]
        have hz : decide (((m + 1 : Nat) : Int) = 0) = false := decide_eq_false (by omega)
        simp only [ZZ, YY, Zd, ite_true, ite_false, forall_const, reduceCtorEq, Nat.reduceAdd, Nat.reduceMul, Nat.reduceLeDiff, Nat.reduceLT, Nat.reduceEqDiff, htl, hz, thenQ]
        have hjb := join_bd25 ws (m + 1) (by omega) hob
        refine use1 (Join_ok (ws.take (m + 1)) [10] (by simp; omega) (by omega)) rfl (.inr rfl) ?_
        simp only [ZZ, YY, Zd, ite_true, ite_false, forall_const, reduceCtorEq, Nat.reduceAdd, Nat.reduceMul, Nat.reduceLeDiff, Nat.reduceLT, Nat.reduceEqDiff, hfin]
        omega
set_option maxHeartbeats 4000000 in
theorem OwnOf_ok (s : List UInt8) (hs : s.length ≤ 25000) : PCall Tryz.prog E0 40 [.str s] (· = .str (ownS (ownF (rlinesF s) (rlinesF s).length))) := by
  refine pcallF mixed Tryz.func40 ck_chaseref1_OwnOf ?_
  simp only [a0, l0, OS.ao, List.map_cons, List.map_nil, List.length_cons, List.length_nil, List.cons_append, List.nil_append, Nat.reduceSub, Nat.reduceAdd, List.replicate_succ, List.replicate_zero, ir_chaseref1_OwnOf, rs_chaseref1_OwnOf, ZZ, YY, Zd, ite_true, ite_false, forall_const, reduceCtorEq, Nat.reduceAdd, Nat.reduceMul, Nat.reduceLeDiff, Nat.reduceLT, Nat.reduceEqDiff]
  refine use1 (QuotedP s hs) rfl (.inl rfl) ?_
  obtain ⟨hll, hlb⟩ := rlinesF_bd s
  generalize rlinesF s = l at *
  simp only [ZZ, YY, Zd, ite_true, ite_false, forall_const, reduceCtorEq, Nat.reduceAdd, Nat.reduceMul, Nat.reduceLeDiff, Nat.reduceLT, Nat.reduceEqDiff, quF_len]
  rw [show ([] : List (List PV)) = strE (ownF l 0) from rfl]
  refine loop_intro (fun n fr L => ∃ (k : Nat), k ≤ l.length ∧ n = l.length - k ∧ fr = [.any, .any, .any, .row (.l 3), .any, .any, .any, .p (.sl 2 (quF l)), .p (int (l.length : Nat)), .p (int (k : Nat)), .any, .any, .any, .any, .any, .any, .any, .any, .any, .any, .any, .any, .any, .any, .any, .any, .any, .any, .any, .any, .any, .any, .any, .any, .any, .any, .any, .any, .any, .any, .any, .any, .any, .any, .any, .any] ∧ L = [(.l 3, .row (strE (ownF l k)) tStr 1 true)]) (l.length) [.any, .any, .any, .row (.l 3), .any, .any, .any, .p (.sl 2 (quF l)), .p (int (l.length : Nat)), .p (int (0 : Nat)), .any, .any, .any, .any, .any, .any, .any, .any, .any, .any, .any, .any, .any, .any, .any, .any, .any, .any, .any, .any, .any, .any, .any, .any, .any, .any, .any, .any, .any, .any, .any, .any, .any, .any, .any, .any] [(.l 3, .row (strE (ownF l 0)) tStr 1 true)] (by simp only [ZZ, YY, Zd, ite_true, ite_false, forall_const, reduceCtorEq, Nat.reduceAdd, Nat.reduceMul, Nat.reduceLeDiff, Nat.reduceLT, Nat.reduceEqDiff, strE_len]; try trivial) (by (simp only [ZZ, YY, Zd, ite_true, ite_false, forall_const, reduceCtorEq, Nat.reduceAdd, Nat.reduceMul, Nat.reduceLeDiff, Nat.reduceLT, Nat.reduceEqDiff]; try trivial)) ⟨0, by omega, by omega, rfl, rfl⟩ ?_
  rintro n fr L ⟨k, hk, rfl, rfl, rfl⟩
  simp only [ir_chaseref1_OwnOf_L0, ZZ, YY, Zd, ite_true, ite_false, forall_const, reduceCtorEq, Nat.reduceAdd, Nat.reduceMul, Nat.reduceLeDiff, Nat.reduceLT, Nat.reduceEqDiff]
  refine br ?_ ?_
  · intro h
    have hlt : k < l.length := by have := of_decide_eq_true h; omega
    have hol := ownF_len l k
    have hos := ownF_succ l k
    simp only [ZZ, YY, Zd, ite_true, ite_false, forall_const, reduceCtorEq, Nat.reduceAdd, Nat.reduceMul, Nat.reduceLeDiff, Nat.reduceLT, Nat.reduceEqDiff, quF_get hlt, quF_len]
    ((repeat' (with_reducible apply And.intro)) <;> try ((first | first | assumption | trivial | exact (fun hq => by rw [hq]; rfl) | exact i64_of (by omega) (by omega) | omega | (simp; done) | (simp; omega) | (intro hsc; have hs0 := hsc; (try have hsd := of_decide_eq_true hsc); (try simp only [Bool.not_eq_true', Bool.or_eq_false_iff, Bool.and_eq_true, Bool.or_eq_true, decide_eq_true_eq, decide_eq_false_iff_not] at hsc); (repeat' (with_reducible apply And.intro)) <;> (first | assumption | trivial | exact (fun hq => by rw [hq]; rfl) | exact i64_of (by omega) (by omega) | omega | (simp; done) | (simp; omega) | (intro hse; simp [hse, hs0]; done) | (intro hse; simp only [hse, hs0, Bool.true_and, Bool.and_true, Bool.not_false, Bool.not_true, Bool.and_self]; done))))))
    rw [int0]
    refine br ?_ ?_
    · intro h0
      have h0 : (qF l k).1 = 0 := of_decide_eq_true h0
      rw [if_pos h0] at hos
      simp only [ZZ, YY, Zd, ite_true, ite_false, forall_const, reduceCtorEq, Nat.reduceAdd, Nat.reduceMul, Nat.reduceLeDiff, Nat.reduceLT, Nat.reduceEqDiff, strE_len]
      ((repeat' (with_reducible apply And.intro)) <;> try ((first | first | assumption | trivial | exact (fun hq => by rw [hq]; rfl) | exact i64_of (by omega) (by omega) | omega | (simp; done) | (simp; omega) | (intro hsc; have hs0 := hsc; (try have hsd := of_decide_eq_true hsc); (try simp only [Bool.not_eq_true', Bool.or_eq_false_iff, Bool.and_eq_true, Bool.or_eq_true, decide_eq_true_eq, decide_eq_false_iff_not] at hsc); (repeat' (with_reducible apply And.intro)) <;> (first | assumption | trivial | exact (fun hq => by rw [hq]; rfl) | exact i64_of (by omega) (by omega) | omega | (simp; done) | (simp; omega) | (intro hse; simp [hse, hs0]; done) | (intro hse; simp only [hse, hs0, Bool.true_and, Bool.and_true, Bool.not_false, Bool.not_true, Bool.and_self]; done))))))
      refine cut_same (by simp only [ZZ, YY, Zd, ite_true, ite_false, forall_const, reduceCtorEq, Nat.reduceAdd, Nat.reduceMul, Nat.reduceLeDiff, Nat.reduceLT, Nat.reduceEqDiff]) ?_
      simp only [ZZ, YY, Zd, ite_true, ite_false, forall_const, reduceCtorEq, Nat.reduceAdd, Nat.reduceMul, Nat.reduceLeDiff, Nat.reduceLT, Nat.reduceEqDiff]
      ((repeat' (with_reducible apply And.intro)) <;> try ((first | first | assumption | trivial | exact (fun hq => by rw [hq]; rfl) | exact i64_of (by omega) (by omega) | omega | (simp; done) | (simp; omega) | (intro hsc; have hs0 := hsc; (try have hsd := of_decide_eq_true hsc); (try simp only [Bool.not_eq_true', Bool.or_eq_false_iff, Bool.and_eq_true, Bool.or_eq_true, decide_eq_true_eq, decide_eq_false_iff_not] at hsc); (repeat' (with_reducible apply And.intro)) <;> (first | assumption | trivial | exact (fun hq => by rw [hq]; rfl) | exact i64_of (by omega) (by omega) | omega | (simp; done) | (simp; omega) | (intro hse; simp [hse, hs0]; done) | (intro hse; simp only [hse, hs0, Bool.true_and, Bool.and_true, Bool.not_false, Bool.not_true, Bool.and_self]; done))))))
      rw [strE_one, ← strE_app, ← hos]
      refine end_round (l.length - (k + 1)) [.any, .any, .any, .row (.l 3), .any, .any, .any, .p (.sl 2 (quF l)), .p (int (l.length : Nat)), .p (int ((k + 1) : Nat)), .any, .any, .any, .any, .any, .any, .any, .any, .any, .any, .any, .any, .any, .any, .any, .any, .any, .any, .any, .any, .any, .any, .any, .any, .any, .any, .any, .any, .any, .any, .any, .any, .any, .any, .any, .any] [(.l 3, .row (strE (ownF l (k + 1))) tStr 1 true)] (by omega) (by (simp only [ZZ, YY, Zd, ite_true, ite_false, forall_const, reduceCtorEq, Nat.reduceAdd, Nat.reduceMul, Nat.reduceLeDiff, Nat.reduceLT, Nat.reduceEqDiff]; try trivial)) (by (simp only [ZZ, YY, Zd, ite_true, ite_false, forall_const, reduceCtorEq, Nat.reduceAdd, Nat.reduceMul, Nat.reduceLeDiff, Nat.reduceLT, Nat.reduceEqDiff]; try trivial)) ⟨k + 1, by omega, rfl, rfl, rfl⟩
    · intro h0
      have h0 : ¬ (qF l k).1 = 0 := of_decide_eq_false h0
      rw [if_neg h0] at hos
      simp only [ZZ, YY, Zd, ite_true, ite_false, forall_const, reduceCtorEq, Nat.reduceAdd, Nat.reduceMul, Nat.reduceLeDiff, Nat.reduceLT, Nat.reduceEqDiff]
      refine cut_same (by simp only [ZZ, YY, Zd, ite_true, ite_false, forall_const, reduceCtorEq, Nat.reduceAdd, Nat.reduceMul, Nat.reduceLeDiff, Nat.reduceLT, Nat.reduceEqDiff]) ?_
      simp only [ZZ, YY, Zd, ite_true, ite_false, forall_const, reduceCtorEq, Nat.reduceAdd, Nat.reduceMul, Nat.reduceLeDiff, Nat.reduceLT, Nat.reduceEqDiff]
      ((repeat' (with_reducible apply And.intro)) <;> try ((first | first | assumption | trivial | exact (fun hq => by rw [hq]; rfl) | exact i64_of (by omega) (by omega) | omega | (simp; done) | (simp; omega) | (intro hsc; have hs0 := hsc; (try have hsd := of_decide_eq_true hsc); (try simp only [Bool.not_eq_true', Bool.or_eq_false_iff, Bool.and_eq_true, Bool.or_eq_true, decide_eq_true_eq, decide_eq_false_iff_not] at hsc); (repeat' (with_reducible apply And.intro)) <;> (first | assumption | trivial | exact (fun hq => by rw [hq]; rfl) | exact i64_of (by omega) (by omega) | omega | (simp; done) | (simp; omega) | (intro hse; simp [hse, hs0]; done) | (intro hse; simp only [hse, hs0, Bool.true_and, Bool.and_true, Bool.not_false, Bool.not_true, Bool.and_self]; done))))))
      rw [← hos]
      refine end_round (l.length - (k + 1)) [.any, .any, .any, .row (.l 3), .any, .any, .any, .p (.sl 2 (quF l)), .p (int (l.length : Nat)), .p (int ((k + 1) : Nat)), .any, .any, .any, .any, .any, .any, .any, .any, .any, .any, .any, .any, .any, .any, .any, .any, .any, .any, .any, .any, .any, .any, .any, .any, .any, .any, .any, .any, .any, .any, .any, .any, .any, .any, .any, .any] [(.l 3, .row (strE (ownF l (k + 1))) tStr 1 true)] (by omega) (by (simp only [ZZ, YY, Zd, ite_true, ite_false, forall_const, reduceCtorEq, Nat.reduceAdd, Nat.reduceMul, Nat.reduceLeDiff, Nat.reduceLT, Nat.reduceEqDiff]; try trivial)) (by (simp only [ZZ, YY, Zd, ite_true, ite_false, forall_const, reduceCtorEq, Nat.reduceAdd, Nat.reduceMul, Nat.reduceLeDiff, Nat.reduceLT, Nat.reduceEqDiff]; try trivial)) ⟨k + 1, by omega, rfl, rfl, rfl⟩
  · intro h
    have hge : k = l.length := by have := of_decide_eq_false h; omega
    subst hge
    have hol := ownF_len l l.length
    have hob := ownF_bd (m := 25000) (fun x hx => by have := hlb x hx; omega) l.length
    generalize ownF l l.length = ws at *
    simp only [ZZ, YY, Zd, ite_true, ite_false, forall_const, reduceCtorEq, Nat.reduceAdd, Nat.reduceMul, Nat.reduceLeDiff, Nat.reduceLT, Nat.reduceEqDiff]
    rw [show strE ws = strE (ws.take ws.length) from by rw [List.take_length]]
    refine loop_intro (fun n fr L => ∃ (m : Nat), m = n ∧ (m ≤ ws.length) ∧ (endB ws ws.length = endB ws m) ∧ fr = [.any, .any, .any, .row (.l 3), .any, .any, .any, .any, .any, .any, .any, .any, .any, .any, .any, .any, .any, .any, .any, .any, .any, .any, .any, .any, .any, .any, .any, .any, .any, .any, .any, .any, .any, .any, .any, .any, .any, .any, .any, .any, .any, .any, .any, .any, .any, .any] ∧ L = [(.l 3, .row (strE (ws.take m)) tStr 1 true)]) ((ws.length)) [.any, .any, .any, .row (.l 3), .any, .any, .any, .any, .any, .any, .any, .any, .any, .any, .any, .any, .any, .any, .any, .any, .any, .any, .any, .any, .any, .any, .any, .any, .any, .any, .any, .any, .any, .any, .any, .any, .any, .any, .any, .any, .any, .any, .any, .any, .any, .any] [(.l 3, .row (strE (ws.take (ws.length))) tStr 1 true)] (by (simp only [ZZ, YY, Zd, ite_true, ite_false, forall_const, reduceCtorEq, Nat.reduceAdd, Nat.reduceMul, Nat.reduceLeDiff, Nat.reduceLT, Nat.reduceEqDiff]; try trivial)) (by (simp only [ZZ, YY, Zd, ite_true, ite_false, forall_const, reduceCtorEq, Nat.reduceAdd, Nat.reduceMul, Nat.reduceLeDiff, Nat.reduceLT, Nat.reduceEqDiff]; try trivial)) ⟨ws.length, rfl, by omega, rfl, rfl, rfl⟩ ?_
    rintro n fr L ⟨m, rfl, hmw, hme, rfl, rfl⟩
    simp only [ir_chaseref1_OwnOf_L1, ZZ, YY, Zd, ite_true, ite_false, forall_const, reduceCtorEq, Nat.reduceAdd, Nat.reduceMul, Nat.reduceLeDiff, Nat.reduceLT, Nat.reduceEqDiff]
    have htl : (strE (ws.take m)).length = m := by rw [strE_len]; simp; omega
    rcases m with _ | m
    · have hd : decide ((0 : Int) < ((0 : Nat) : Int)) = false := by decide
      have hse : strE ([] : List (List UInt8)) = [] := rfl
      have hgz : ∀ k, ([] : List (List PV)).getD k [] = [] := fun k => by simp
      have hfin : ownS ws = [] := by rw [ownS, hme]; rfl
      simp only [ZZ, YY, Zd, ite_true, ite_false, forall_const, reduceCtorEq, Nat.reduceAdd, Nat.reduceMul, Nat.reduceLeDiff, Nat.reduceLT, Nat.reduceEqDiff, hse, hd, hgz, false_implies, Bool.false_and, thenQ]
      refine useGC (fun hc => by cases hc) (fun _ => ?_)
      simp only [ZZ, YY, Zd, ite_true, ite_false, forall_const, reduceCtorEq, Nat.reduceAdd, Nat.reduceMul, Nat.reduceLeDiff, Nat.reduceLT, Nat.reduceEqDiff, hse, hd, hgz, false_implies, Bool.false_and, thenQ]
      refine br (fun _ => ?_) (fun hc => by simp at hc)
      simp only [ZZ, YY, Zd, ite_true, ite_false, forall_const, reduceCtorEq, Nat.reduceAdd, Nat.reduceMul, Nat.reduceLeDiff, Nat.reduceLT, Nat.reduceEqDiff]
      rw [hfin]
    · have hd : decide ((0 : Int) < ((m + 1 : Nat) : Int)) = true := decide_eq_true (by omega)
      have hn : (((m + 1 : Nat) : Int) - 1).toNat = m := by omega
      obtain ⟨x, hx⟩ : ∃ x, ws[m]? = some x := ⟨_, List.getElem?_eq_getElem (by omega)⟩
      have hg : (strE (ws.take (m + 1))).getD m [] = [.str x] := strE_get (by rw [List.getElem?_take_of_lt (by omega)]; exact hx)
      have hxb := hob x (List.mem_of_getElem? hx)
      have hxd : ws.getD m [] = x := by simp [List.getD, hx]
      simp only [ZZ, YY, Zd, ite_true, ite_false, forall_const, reduceCtorEq, Nat.reduceAdd, Nat.reduceMul, Nat.reduceLeDiff, Nat.reduceLT, Nat.reduceEqDiff, htl, hd, hn, hg]
      ((repeat' (with_reducible apply And.intro)) <;> try ((first | first | assumption | trivial | exact (fun hq => by rw [hq]; rfl) | exact i64_of (by omega) (by omega) | omega | (simp; done) | (simp; omega) | (intro hsc; have hs0 := hsc; (try have hsd := of_decide_eq_true hsc); (try simp only [Bool.not_eq_true', Bool.or_eq_false_iff, Bool.and_eq_true, Bool.or_eq_true, decide_eq_true_eq, decide_eq_false_iff_not] at hsc); (repeat' (with_reducible apply And.intro)) <;> (first | assumption | trivial | exact (fun hq => by rw [hq]; rfl) | exact i64_of (by omega) (by omega) | omega | (simp; done) | (simp; omega) | (intro hse; simp [hse, hs0]; done) | (intro hse; simp only [hse, hs0, Bool.true_and, Bool.and_true, Bool.not_false, Bool.not_true, Bool.and_self]; done))))))
      refine useG (fun _ => squeezed_ok x (by omega)) rfl (.inl rfl) ?_
      simp only [ZZ, YY, Zd, ite_true, ite_false, forall_const, reduceCtorEq, Nat.reduceAdd, Nat.reduceMul, Nat.reduceLeDiff, Nat.reduceLT, Nat.reduceEqDiff, thenQ]
      rw [sq_blank]
      refine br ?_ ?_
      · intro hb
        have hst := strE_take ws (m + 1) m (by omega)
        have hep : endB ws (m + 1) = endB ws m := by rw [endB, hxd, if_pos hb]
        simp only [ZZ, YY, Zd, ite_true, ite_false, forall_const, reduceCtorEq, Nat.reduceAdd, Nat.reduceMul, Nat.reduceLeDiff, Nat.reduceLT, Nat.reduceEqDiff, htl, hd, hn, hg, hst, thenQ]
        ((repeat' (with_reducible apply And.intro)) <;> try ((first | first | assumption | trivial | exact (fun hq => by rw [hq]; rfl) | exact i64_of (by omega) (by omega) | omega | (simp; done) | (simp; omega) | (intro hsc; have hs0 := hsc; (try have hsd := of_decide_eq_true hsc); (try simp only [Bool.not_eq_true', Bool.or_eq_false_iff, Bool.and_eq_true, Bool.or_eq_true, decide_eq_true_eq, decide_eq_false_iff_not] at hsc); (repeat' (with_reducible apply And.intro)) <;> (first | assumption | trivial | exact (fun hq => by rw [hq]; rfl) | exact i64_of (by omega) (by omega) | omega | (simp; done) | (simp; omega) | (intro hse; simp [hse, hs0]; done) | (intro hse; simp only [hse, hs0, Bool.true_and, Bool.and_true, Bool.not_false, Bool.not_true, Bool.and_self]; done))))))
        refine end_round ((m)) [.any, .any, .any, .row (.l 3), .any, .any, .any, .any, .any, .any, .any, .any, .any, .any, .any, .any, .any, .any, .any, .any, .any, .any, .any, .any, .any, .any, .any, .any, .any, .any, .any, .any, .any, .any, .any, .any, .any, .any, .any, .any, .any, .any, .any, .any, .any, .any] [(.l 3, .row (strE (ws.take (m))) tStr 1 true)] (by omega) (by (simp only [ZZ, YY, Zd, ite_true, ite_false, forall_const, reduceCtorEq, Nat.reduceAdd, Nat.reduceMul, Nat.reduceLeDiff, Nat.reduceLT, Nat.reduceEqDiff]; try trivial)) (by (simp only [ZZ, YY, Zd, ite_true, ite_false, forall_const, reduceCtorEq, Nat.reduceAdd, Nat.reduceMul, Nat.reduceLeDiff, Nat.reduceLT, Nat.reduceEqDiff]; try trivial)) ⟨m, rfl, by omega, by rw [hme, hep], rfl, rfl⟩
      · intro hb
        have hep : endB ws (m + 1) = m + 1 := by rw [endB, hxd, if_neg (by rw [hb]; simp)]
        have hfin : ownS ws = Lib.join (ws.take (m + 1)) [10] ++ [10] := by rw [ownS, hme, hep, if_neg (by omega)]
        have hz : decide (((m + 1 : Nat) : Int) = 0) = false := decide_eq_false (by omega)
        simp only [ZZ, YY, Zd, ite_true, ite_false, forall_const, reduceCtorEq, Nat.reduceAdd, Nat.reduceMul, Nat.reduceLeDiff, Nat.reduceLT, Nat.reduceEqDiff, htl, hz, thenQ]
        have hjb := join_bd25 ws (m + 1) (by omega) hob
        refine use1 (Join_ok (ws.take (m + 1)) [10] (by simp; omega) (by omega)) rfl (.inr rfl) ?_
        simp only [ZZ, YY, Zd, ite_true, ite_false, forall_const, reduceCtorEq, Nat.reduceAdd, Nat.reduceMul, Nat.reduceLeDiff, Nat.reduceLT, Nat.reduceEqDiff, hfin]
        omega
end Go.Proofs.YtndjmidmfmcbkaaGreatDoor

/- Bodies: which lines are attributions; rows compared. -/
namespace Go.Proofs.YtndjmidmfmcbkaaGreatDoor
open Go.RowKit
set_option linter.unusedVariables false
set_option linter.unusedSimpArgs false
set_option linter.defProp false

/- paperchase/chaseref1.attributed -/
def ir_chaseref1_attributed_L1 : IC :=
  (.seq (.seq (.reg [⟨some 23, .mov (.t 8), none⟩,
      ⟨some 24, .call 108 [.t 23, .c (.str [62])], none⟩])
    (.cond (.t 24) .skip (.exit 2)))
    (.block 3 (.seq (.reg [⟨some 25, .mov (.t 7), none⟩,
      ⟨some 26, .bin .add (.t 25) (.c (.int .i64 1)), none⟩,
      ⟨some 7, .mov (.t 26), none⟩])
    (.reg [⟨some 27, .mov (.t 8), none⟩,
      ⟨some 28, .ssl (.t 27) (some (.c (.int .i64 1))) none, none⟩,
      ⟨some 29, .call 109 [.t 28, .c (.str [32])], none⟩,
      ⟨some 8, .mov (.t 29), none⟩]))))
def ir_chaseref1_attributed_L0 : IC :=
  (.seq (.reg [⟨some 15, .bin .lss (.t 14) (.t 13), none⟩])
    (.seq (.cond (.t 15) .skip (.exit 0))
    (.seq (.block 1 (.seq (.reg [⟨some 16, .mov (.t 14), none⟩,
      ⟨some 17, .ixa 2 (.t 12) (.t 14), none⟩,
      ⟨some 18, .ld 2 true (.t 17), none⟩,
      ⟨some 6, .alc 72 [.int .i64 0, .str []], none⟩,
      ⟨some 5, .mov (.t 16), none⟩,
      ⟨none, .st 2 (.t 6) (.t 18), none⟩])
    (.seq (.reg [⟨some 7, .mov (.c (.int .i64 0)), none⟩])
    (.seq (.reg [⟨some 19, .mov (.t 3), none⟩,
      ⟨some 20, .mov (.t 5), none⟩,
      ⟨some 21, .ixa 1 (.t 19) (.t 20), none⟩,
      ⟨some 22, .ld 1 false (.t 21), none⟩,
      ⟨some 8, .mov (.t 22), none⟩])
    (.seq (.block 2 (.loop ir_chaseref1_attributed_L1))
    (.reg [⟨some 30, .mov (.t 4), none⟩,
      ⟨some 31, .mov (.t 7), none⟩,
      ⟨some 32, .fla 0 (.t 6), none⟩,
      ⟨some 33, .ld 1 false (.t 32), none⟩,
      ⟨some 34, .bin .neq (.t 31) (.t 33), none⟩,
      ⟨some 35, .bsl 1 [.t 34], none⟩,
      ⟨some 36, .app 4 1 1 (.t 30) (.t 35), none⟩,
      ⟨some 4, .mov (.t 36), none⟩]))))))
    (.reg [⟨some 37, .bin .add (.t 14) (.c (.int .i64 1)), none⟩,
      ⟨some 14, .mov (.t 37), none⟩]))))
def ir_chaseref1_attributed : IC :=
  (.seq (.reg [⟨some 2, .mov (.c (.nl 1)), none⟩])
    (.seq (.reg [⟨some 9, .mov (.t 0), none⟩,
      ⟨some 10, .call 107 [.t 9], none⟩,
      ⟨some 3, .mov (.t 10), none⟩])
    (.seq (.reg [⟨some 4, .nilr 4 1, none⟩])
    (.seq (.seq (.reg [⟨some 11, .mov (.t 0), none⟩,
      ⟨some 12, .call 38 [.t 11], none⟩,
      ⟨some 13, .len (.t 12), none⟩,
      ⟨some 14, .mov (.c (.int .i64 0)), none⟩])
    (.block 0 (.loop ir_chaseref1_attributed_L0)))
    (.seq (.reg [⟨some 38, .mov (.t 4), none⟩,
      ⟨some 2, .mov (.t 38), none⟩])
    .ret)))))
def rs_chaseref1_attributed : List IRes := [.t 2]
theorem ck_chaseref1_attributed : chkF Tryz.prog Tryz.f114 ir_chaseref1_attributed rs_chaseref1_attributed 39 = true := by kernel_rfl
/- slices.Equal[[]paperchase/api.Quoted,paperchase/api.Quoted] -/
def ir_slices_Equal_api_Quoted_api_Quoted_L0 : IC :=
  (.seq (.reg [⟨some 14, .bin .lss (.t 13) (.t 12), none⟩])
    (.seq (.cond (.t 14) .skip (.exit 0))
    (.seq (.block 1 (.seq (.reg [⟨some 15, .mov (.t 13), none⟩,
      ⟨some 5, .mov (.t 15), none⟩])
    (.seq (.drg [⟨some 16, .mov (.t 0), none⟩,
      ⟨some 17, .mov (.t 5), none⟩,
      ⟨some 18, .ixa 2 (.t 16) (.t 17), none⟩,
      ⟨some 19, .ld 2 true (.t 18), none⟩,
      ⟨some 20, .mov (.t 1), none⟩,
      ⟨some 21, .mov (.t 5), none⟩,
      ⟨some 22, .ixa 2 (.t 20) (.t 21), none⟩,
      ⟨some 23, .ld 2 true (.t 22), none⟩,
      ⟨some 24, .eqa true [.i, .s] (.t 19) (.t 23), none⟩])
    (.cond (.t 24) (.seq (.reg [⟨some 4, .mov (.c (.bool false)), none⟩])
    .ret) .skip))))
    (.reg [⟨some 25, .bin .add (.t 13) (.c (.int .i64 1)), none⟩,
      ⟨some 13, .mov (.t 25), none⟩]))))
def ir_slices_Equal_api_Quoted_api_Quoted : IC :=
  (.seq (.reg [⟨some 4, .mov (.c (.bool false)), none⟩])
    (.seq (.seq (.reg [⟨some 6, .mov (.t 0), none⟩,
      ⟨some 7, .len (.t 6), none⟩,
      ⟨some 8, .mov (.t 1), none⟩,
      ⟨some 9, .len (.t 8), none⟩,
      ⟨some 10, .bin .neq (.t 7) (.t 9), none⟩])
    (.cond (.t 10) (.seq (.reg [⟨some 4, .mov (.c (.bool false)), none⟩])
    .ret) .skip))
    (.seq (.seq (.reg [⟨some 11, .mov (.t 0), none⟩,
      ⟨some 12, .len (.t 11), none⟩,
      ⟨some 13, .mov (.c (.int .i64 0)), none⟩])
    (.block 0 (.loop ir_slices_Equal_api_Quoted_api_Quoted_L0)))
    (.seq (.reg [⟨some 4, .mov (.c (.bool true)), none⟩])
    .ret))))
def rs_slices_Equal_api_Quoted_api_Quoted : List IRes := [.t 4]
theorem ck_slices_Equal_api_Quoted_api_Quoted : chkF Tryz.prog Tryz.f39 ir_slices_Equal_api_Quoted_api_Quoted rs_slices_Equal_api_Quoted_api_Quoted 26 = true := by kernel_rfl
/- slices.Index[[]string,string] -/
def ir_slices_Index_string_string_L0 : IC :=
  (.seq (.reg [⟨some 9, .bin .lss (.t 8) (.t 7), none⟩])
    (.seq (.cond (.t 9) .skip (.exit 0))
    (.seq (.block 1 (.seq (.reg [⟨some 10, .mov (.t 8), none⟩,
      ⟨some 5, .mov (.t 10), none⟩])
    (.seq (.reg [⟨some 11, .mov (.t 1), none⟩,
      ⟨some 12, .mov (.t 0), none⟩,
      ⟨some 13, .mov (.t 5), none⟩,
      ⟨some 14, .ixa 1 (.t 12) (.t 13), none⟩,
      ⟨some 15, .ld 1 false (.t 14), none⟩,
      ⟨some 16, .bin .eql (.t 11) (.t 15), none⟩])
    (.cond (.t 16) (.seq (.reg [⟨some 17, .mov (.t 5), none⟩,
      ⟨some 4, .mov (.t 17), none⟩])
    .ret) .skip))))
    (.reg [⟨some 18, .bin .add (.t 8) (.c (.int .i64 1)), none⟩,
      ⟨some 8, .mov (.t 18), none⟩]))))
def ir_slices_Index_string_string : IC :=
  (.seq (.reg [⟨some 4, .mov (.c (.int .i64 0)), none⟩])
    (.seq (.seq (.reg [⟨some 6, .mov (.t 0), none⟩,
      ⟨some 7, .len (.t 6), none⟩,
      ⟨some 8, .mov (.c (.int .i64 0)), none⟩])
    (.block 0 (.loop ir_slices_Index_string_string_L0)))
    (.seq (.reg [⟨some 4, .mov (.c (.int .i64 (-1))), none⟩])
    .ret)))
def rs_slices_Index_string_string : List IRes := [.t 4]
theorem ck_slices_Index_string_string : chkF Tryz.prog Tryz.f189 ir_slices_Index_string_string rs_slices_Index_string_string 19 = true := by kernel_rfl
/- slices.Contains[[]string,string] -/
def ir_slices_Contains_string_string : IC :=
  (.seq (.reg [⟨some 4, .mov (.c (.bool false)), none⟩])
    (.seq (.reg [⟨some 5, .mov (.t 0), none⟩,
      ⟨some 6, .mov (.t 1), none⟩,
      ⟨some 7, .call 189 [.t 5, .t 6], none⟩,
      ⟨some 8, .bin .geq (.t 7) (.c (.int .i64 0)), none⟩,
      ⟨some 4, .mov (.t 8), none⟩])
    .ret))
def rs_slices_Contains_string_string : List IRes := [.t 4]
theorem ck_slices_Contains_string_string : chkF Tryz.prog Tryz.f113 ir_slices_Contains_string_string rs_slices_Contains_string_string 9 = true := by kernel_rfl


theorem atF_gt (l : List (List UInt8)) (i d : Nat) : ∀ (n k : Nat), l.length - k ≤ n → atF l i k = some d → sgF l i < d := by
  intro n
  induction n with
  | zero =>
    intro k hk h
    rw [atF] at h
    split at h
    · omega
    · cases h
  | succ n ih =>
    intro k hk h
    rw [atF] at h
    split at h
    · split at h
      · injection h with h; omega
      · split at h
        · exact ih (k + 1) (by omega) h
        · cases h
    · cases h
theorem qF_mark (l : List (List UInt8)) (j : Nat) : (!decide (((sgF l j : Nat) : Int) = ((qF l j).1 : Nat))) = (qF l j).2 := by
  unfold qF
  split
  · cases h : atF l j (j + 1) with
    | none => simp
    | some d =>
      have := atF_gt l j d _ _ (Nat.le_refl _) h
      simp
      omega
  · simp
def rowM (l : List (List UInt8)) (k : Nat) : List (List PV) := tb k fun j => [.bool (qF l j).2]
theorem rowM_len (l : List (List UInt8)) (k : Nat) : (rowM l k).length = k := tb_len _ _
theorem rowM_get {l : List (List UInt8)} {n k : Nat} (h : k < n) : (rowM l n).getD k [] = [.bool (qF l k).2] := tb_get h
theorem rowM_app (l : List (List UInt8)) (k : Nat) : rowM l k ++ [[.bool (qF l k).2]] = rowM l (k + 1) := by
  unfold rowM tb
  rw [List.range_succ, List.map_append]
  rfl
abbrev tBool : Nat := 4
set_option maxHeartbeats 4000000 in
theorem attributed_ok (s : List UInt8) (hs : s.length ≤ 25000) : PCall Tryz.prog E0 114 [.str s] (· = .sl 1 (rowM (rlinesF s) (rlinesF s).length)) := by
  refine pcallF mixed Tryz.func114 ck_chaseref1_attributed ?_
  simp only [a0, l0, OS.ao, List.map_cons, List.map_nil, List.length_cons, List.length_nil, List.cons_append, List.nil_append, Nat.reduceSub, Nat.reduceAdd, List.replicate_succ, List.replicate_zero, ir_chaseref1_attributed, rs_chaseref1_attributed, ZZ, YY, Zd, ite_true, ite_false, forall_const, reduceCtorEq, Nat.reduceAdd, Nat.reduceMul, Nat.reduceLeDiff, Nat.reduceLT, Nat.reduceEqDiff]
  refine use1 (linesOf_ok s (by omega)) rfl (.inl rfl) ?_
  rw [strs_eq]
  simp only [ZZ, YY, Zd, ite_true, ite_false, forall_const, reduceCtorEq, Nat.reduceAdd, Nat.reduceMul, Nat.reduceLeDiff, Nat.reduceLT, Nat.reduceEqDiff]
  refine use1 (QuotedP s hs) rfl (.inl rfl) ?_
  obtain ⟨hll, hlb⟩ := rlinesF_bd s
  generalize rlinesF s = l at *
  simp only [ZZ, YY, Zd, ite_true, ite_false, forall_const, reduceCtorEq, Nat.reduceAdd, Nat.reduceMul, Nat.reduceLeDiff, Nat.reduceLT, Nat.reduceEqDiff, quF_len]
  rw [show ([] : List (List PV)) = rowM l 0 from rfl]
  refine loop_intro (fun n fr L => ∃ (k : Nat), k ≤ l.length ∧ n = l.length - k ∧ fr = [.any, .any, .any, .p (.sl 1 (strE l)), .row (.l 4), .any, .any, .any, .any, .any, .any, .any, .p (.sl 2 (quF l)), .p (int (l.length : Nat)), .p (int (k : Nat)), .any, .any, .any, .any, .any, .any, .any, .any, .any, .any, .any, .any, .any, .any, .any, .any, .any, .any, .any, .any, .any, .any, .any, .any] ∧ L = [(.l 4, .row (rowM l k) tBool 1 true)]) (l.length) [.any, .any, .any, .p (.sl 1 (strE l)), .row (.l 4), .any, .any, .any, .any, .any, .any, .any, .p (.sl 2 (quF l)), .p (int (l.length : Nat)), .p (int (0 : Nat)), .any, .any, .any, .any, .any, .any, .any, .any, .any, .any, .any, .any, .any, .any, .any, .any, .any, .any, .any, .any, .any, .any, .any, .any] [(.l 4, .row (rowM l 0) tBool 1 true)] (by simp only [ZZ, YY, Zd, ite_true, ite_false, forall_const, reduceCtorEq, Nat.reduceAdd, Nat.reduceMul, Nat.reduceLeDiff, Nat.reduceLT, Nat.reduceEqDiff, strE_len]; try trivial) (by (simp only [ZZ, YY, Zd, ite_true, ite_false, forall_const, reduceCtorEq, Nat.reduceAdd, Nat.reduceMul, Nat.reduceLeDiff, Nat.reduceLT, Nat.reduceEqDiff]; try trivial)) ⟨0, by omega, by omega, rfl, rfl⟩ ?_
  rintro n fr L ⟨k, hk, rfl, rfl, rfl⟩
  simp only [ir_chaseref1_attributed_L0, ZZ, YY, Zd, ite_true, ite_false, forall_const, reduceCtorEq, Nat.reduceAdd, Nat.reduceMul, Nat.reduceLeDiff, Nat.reduceLT, Nat.reduceEqDiff]
  refine br ?_ ?_
  · intro h
    have hlt : k < l.length := by have := of_decide_eq_true h; omega
    obtain ⟨x, hx⟩ : ∃ x, l[k]? = some x := ⟨_, List.getElem?_eq_getElem hlt⟩
    have hg := strE_get hx
    have hxb := hlb x (List.mem_of_getElem? hx)
    simp only [ZZ, YY, Zd, ite_true, ite_false, forall_const, reduceCtorEq, Nat.reduceAdd, Nat.reduceMul, Nat.reduceLeDiff, Nat.reduceLT, Nat.reduceEqDiff, hg, strE_len, quF_get hlt, quF_len]
    ((repeat' (with_reducible apply And.intro)) <;> try ((first | first | assumption | trivial | exact (fun hq => by rw [hq]; rfl) | exact i64_of (by omega) (by omega) | omega | (simp; done) | (simp; omega) | (intro hsc; have hs0 := hsc; (try have hsd := of_decide_eq_true hsc); (try simp only [Bool.not_eq_true', Bool.or_eq_false_iff, Bool.and_eq_true, Bool.or_eq_true, decide_eq_true_eq, decide_eq_false_iff_not] at hsc); (repeat' (with_reducible apply And.intro)) <;> (first | assumption | trivial | exact (fun hq => by rw [hq]; rfl) | exact i64_of (by omega) (by omega) | omega | (simp; done) | (simp; omega) | (intro hse; simp [hse, hs0]; done) | (intro hse; simp only [hse, hs0, Bool.true_and, Bool.and_true, Bool.not_false, Bool.not_true, Bool.and_self]; done))))))
    refine loop_intro (fun n fr L => ∃ (d : Nat) (u : List UInt8), u.length = n ∧ (strip x = (d + (strip u).1, (strip u).2)) ∧ (d + u.length ≤ x.length) ∧ fr = [.any, .any, .any, .p (.sl 1 (strE l)), .row (.l 4), .any, .adr (.l 6) 0, .p (int (d : Nat)), .p (.str u), .any, .any, .any, .p (.sl 2 (quF l)), .p (int (l.length : Nat)), .p (int (k : Nat)), .any, .any, .any, .any, .any, .any, .any, .any, .any, .any, .any, .any, .any, .any, .any, .any, .any, .any, .any, .any, .any, .any, .any, .any] ∧ L = [(.l 4, .row (rowM l k) tBool 1 true), (.l 6, .box [.p (int ((qF l k).1 : Nat)), .p (.str (txF l k))] tQ2)]) (x.length) [.any, .any, .any, .p (.sl 1 (strE l)), .row (.l 4), .any, .adr (.l 6) 0, .p (int (0 : Nat)), .p (.str x), .any, .any, .any, .p (.sl 2 (quF l)), .p (int (l.length : Nat)), .p (int (k : Nat)), .any, .any, .any, .any, .any, .any, .any, .any, .any, .any, .any, .any, .any, .any, .any, .any, .any, .any, .any, .any, .any, .any, .any, .any] [(.l 4, .row (rowM l k) tBool 1 true), (.l 6, .box [.p (int ((qF l k).1 : Nat)), .p (.str (txF l k))] tQ2)] (by (simp only [ZZ, YY, Zd, ite_true, ite_false, forall_const, reduceCtorEq, Nat.reduceAdd, Nat.reduceMul, Nat.reduceLeDiff, Nat.reduceLT, Nat.reduceEqDiff]; try trivial)) (by (simp only [ZZ, YY, Zd, ite_true, ite_false, forall_const, reduceCtorEq, Nat.reduceAdd, Nat.reduceMul, Nat.reduceLeDiff, Nat.reduceLT, Nat.reduceEqDiff]; try trivial)) ⟨0, x, rfl, by simp, by omega, rfl, rfl⟩ ?_
    rintro n fr L ⟨d, u, rfl, hst, hdb, rfl, rfl⟩
    simp only [ir_chaseref1_attributed_L1, ZZ, YY, Zd, ite_true, ite_false, forall_const, reduceCtorEq, Nat.reduceAdd, Nat.reduceMul, Nat.reduceLeDiff, Nat.reduceLT, Nat.reduceEqDiff]
    refine use1 (HasPrefix_ok u [62]) rfl (.inl rfl) ?_
    simp only [ZZ, YY, Zd, ite_true, ite_false, forall_const, reduceCtorEq, Nat.reduceAdd, Nat.reduceMul, Nat.reduceLeDiff, Nat.reduceLT, Nat.reduceEqDiff]
    refine br ?_ ?_
    · intro h2
      have hlen := hasPrefix_len h2
      simp only [List.length_cons, List.length_nil] at hlen
      have hdec := strip_dec h2
      have hy := strip_yes h2
      simp only [ZZ, YY, Zd, ite_true, ite_false, forall_const, reduceCtorEq, Nat.reduceAdd, Nat.reduceMul, Nat.reduceLeDiff, Nat.reduceLT, Nat.reduceEqDiff]
      ((repeat' (with_reducible apply And.intro)) <;> try ((first | first | assumption | trivial | exact (fun hq => by rw [hq]; rfl) | exact i64_of (by omega) (by omega) | omega | (simp; done) | (simp; omega) | (intro hsc; have hs0 := hsc; (try have hsd := of_decide_eq_true hsc); (try simp only [Bool.not_eq_true', Bool.or_eq_false_iff, Bool.and_eq_true, Bool.or_eq_true, decide_eq_true_eq, decide_eq_false_iff_not] at hsc); (repeat' (with_reducible apply And.intro)) <;> (first | assumption | trivial | exact (fun hq => by rw [hq]; rfl) | exact i64_of (by omega) (by omega) | omega | (simp; done) | (simp; omega) | (intro hse; simp [hse, hs0]; done) | (intro hse; simp only [hse, hs0, Bool.true_and, Bool.and_true, Bool.not_false, Bool.not_true, Bool.and_self]; done))))))
      rw [List.take_length, show Int.toNat 1 = 1 from rfl]
      refine use1 (TrimPrefix_ok (u.drop 1) [32] (by simp; omega) (by decide)) rfl (.inl rfl) ?_
      simp only [ZZ, YY, Zd, ite_true, ite_false, forall_const, reduceCtorEq, Nat.reduceAdd, Nat.reduceMul, Nat.reduceLeDiff, Nat.reduceLT, Nat.reduceEqDiff]
      ((repeat' (with_reducible apply And.intro)) <;> try ((first | first | assumption | trivial | exact (fun hq => by rw [hq]; rfl) | exact i64_of (by omega) (by omega) | omega | (simp; done) | (simp; omega) | (intro hsc; have hs0 := hsc; (try have hsd := of_decide_eq_true hsc); (try simp only [Bool.not_eq_true', Bool.or_eq_false_iff, Bool.and_eq_true, Bool.or_eq_true, decide_eq_true_eq, decide_eq_false_iff_not] at hsc); (repeat' (with_reducible apply And.intro)) <;> (first | assumption | trivial | exact (fun hq => by rw [hq]; rfl) | exact i64_of (by omega) (by omega) | omega | (simp; done) | (simp; omega) | (intro hse; simp [hse, hs0]; done) | (intro hse; simp only [hse, hs0, Bool.true_and, Bool.and_true, Bool.not_false, Bool.not_true, Bool.and_self]; done))))))
      refine end_round (((cutPreF (u.drop 1) [32]).1).length) [.any, .any, .any, .p (.sl 1 (strE l)), .row (.l 4), .any, .adr (.l 6) 0, .p (int ((d + 1) : Nat)), .p (.str ((cutPreF (u.drop 1) [32]).1)), .any, .any, .any, .p (.sl 2 (quF l)), .p (int (l.length : Nat)), .p (int (k : Nat)), .any, .any, .any, .any, .any, .any, .any, .any, .any, .any, .any, .any, .any, .any, .any, .any, .any, .any, .any, .any, .any, .any, .any, .any] [(.l 4, .row (rowM l k) tBool 1 true), (.l 6, .box [.p (int ((qF l k).1 : Nat)), .p (.str (txF l k))] tQ2)] (by omega) (by (simp only [ZZ, YY, Zd, ite_true, ite_false, forall_const, reduceCtorEq, Nat.reduceAdd, Nat.reduceMul, Nat.reduceLeDiff, Nat.reduceLT, Nat.reduceEqDiff]; try trivial)) (by (simp only [ZZ, YY, Zd, ite_true, ite_false, forall_const, reduceCtorEq, Nat.reduceAdd, Nat.reduceMul, Nat.reduceLeDiff, Nat.reduceLT, Nat.reduceEqDiff]; try trivial)) ⟨d + 1, (cutPreF (u.drop 1) [32]).1, rfl, by rw [hst, hy]; simp only; congr 1; omega, by omega, rfl, rfl⟩
    · intro h2
      have hn := strip_no h2
      rw [hn] at hst
      simp only [Nat.add_zero] at hst
      have hsd : d = sgF l k := by simp [sgF, List.getD, hx, hst]
      subst hsd
      simp only [ZZ, YY, Zd, ite_true, ite_false, forall_const, reduceCtorEq, Nat.reduceAdd, Nat.reduceMul, Nat.reduceLeDiff, Nat.reduceLT, Nat.reduceEqDiff, rowM_len]
      ((repeat' (with_reducible apply And.intro)) <;> try ((first | first | assumption | trivial | exact (fun hq => by rw [hq]; rfl) | exact i64_of (by omega) (by omega) | omega | (simp; done) | (simp; omega) | (intro hsc; have hs0 := hsc; (try have hsd := of_decide_eq_true hsc); (try simp only [Bool.not_eq_true', Bool.or_eq_false_iff, Bool.and_eq_true, Bool.or_eq_true, decide_eq_true_eq, decide_eq_false_iff_not] at hsc); (repeat' (with_reducible apply And.intro)) <;> (first | assumption | trivial | exact (fun hq => by rw [hq]; rfl) | exact i64_of (by omega) (by omega) | omega | (simp; done) | (simp; omega) | (intro hse; simp [hse, hs0]; done) | (intro hse; simp only [hse, hs0, Bool.true_and, Bool.and_true, Bool.not_false, Bool.not_true, Bool.and_self]; done))))))
      rw [qF_mark, rowM_app]
      refine end_round (l.length - (k + 1)) [.any, .any, .any, .p (.sl 1 (strE l)), .row (.l 4), .any, .any, .any, .any, .any, .any, .any, .p (.sl 2 (quF l)), .p (int (l.length : Nat)), .p (int ((k + 1) : Nat)), .any, .any, .any, .any, .any, .any, .any, .any, .any, .any, .any, .any, .any, .any, .any, .any, .any, .any, .any, .any, .any, .any, .any, .any] [(.l 4, .row (rowM l (k + 1)) tBool 1 true)] (by omega) (by (simp only [ZZ, YY, Zd, ite_true, ite_false, forall_const, reduceCtorEq, Nat.reduceAdd, Nat.reduceMul, Nat.reduceLeDiff, Nat.reduceLT, Nat.reduceEqDiff]; try trivial)) (by (simp only [ZZ, YY, Zd, ite_true, ite_false, forall_const, reduceCtorEq, Nat.reduceAdd, Nat.reduceMul, Nat.reduceLeDiff, Nat.reduceLT, Nat.reduceEqDiff]; try trivial)) ⟨k + 1, by omega, rfl, rfl, rfl⟩
  · intro h
    have hge : k = l.length := by have := of_decide_eq_false h; omega
    subst hge
    simp only [ZZ, YY, Zd, ite_true, ite_false, forall_const, reduceCtorEq, Nat.reduceAdd, Nat.reduceMul, Nat.reduceLeDiff, Nat.reduceLT, Nat.reduceEqDiff]
/-- Rows of lines with their depths. -/
def qdE (l : List (Nat × List UInt8)) : List (List PV) := l.map fun p => [int p.1, .str p.2]
theorem qdE_len (l : List (Nat × List UInt8)) : (qdE l).length = l.length := by simp [qdE]
theorem qdE_get {l : List (Nat × List UInt8)} {k : Nat} {x : Nat × List UInt8} (h : l[k]? = some x) : (qdE l).getD k [] = [int x.1, .str x.2] := getD_map h
theorem quF_qd (l : List (List UInt8)) : quF l = qdE ((List.range l.length).map fun j => ((qF l j).1, txF l j)) := by
  unfold quF tb qdE
  rw [List.map_map]
  rfl
theorem EqualQ_ok (l m : List (Nat × List UInt8)) (hl : l.length ≤ 1000000000) : PCall Tryz.prog E0 39 [.sl 2 (qdE l), .sl 2 (qdE m)] (· = .bool (decide (l = m))) := by
  refine pcallF mixed Tryz.func39 ck_slices_Equal_api_Quoted_api_Quoted ?_
  simp only [a0, l0, OS.ao, List.map_cons, List.map_nil, List.length_cons, List.length_nil, List.cons_append, List.nil_append, Nat.reduceSub, Nat.reduceAdd, List.replicate_succ, List.replicate_zero, ir_slices_Equal_api_Quoted_api_Quoted, rs_slices_Equal_api_Quoted_api_Quoted, ZZ, YY, Zd, ite_true, ite_false, forall_const, reduceCtorEq, Nat.reduceAdd, Nat.reduceMul, Nat.reduceLeDiff, Nat.reduceLT, Nat.reduceEqDiff]
  simp only [ZZ, YY, Zd, ite_true, ite_false, forall_const, reduceCtorEq, Nat.reduceAdd, Nat.reduceMul, Nat.reduceLeDiff, Nat.reduceLT, Nat.reduceEqDiff, qdE_len]
  refine br ?_ ?_
  · intro h
    have : ¬ l = m := by rintro rfl; simp at h
    simp only [ZZ, YY, Zd, ite_true, ite_false, forall_const, reduceCtorEq, Nat.reduceAdd, Nat.reduceMul, Nat.reduceLeDiff, Nat.reduceLT, Nat.reduceEqDiff]
    simp [this]
  intro h
  have hlen : l.length = m.length := by have : (l.length : Int) = m.length := by simpa using h
                                        omega
  simp only [ZZ, YY, Zd, ite_true, ite_false, forall_const, reduceCtorEq, Nat.reduceAdd, Nat.reduceMul, Nat.reduceLeDiff, Nat.reduceLT, Nat.reduceEqDiff]
  refine loop_intro (fun n fr L => ∃ (k : Nat), k ≤ l.length ∧ n = l.length - k ∧ (l.take k = m.take k) ∧ fr = [.p (.sl 2 (qdE l)), .p (.sl 2 (qdE m)), .any, .any, .any, .any, .any, .any, .any, .any, .any, .any, .p (int (l.length : Nat)), .p (int (k : Nat)), .any, .any, .any, .any, .any, .any, .any, .any, .any, .any, .any, .any] ∧ L = []) (l.length) [.p (.sl 2 (qdE l)), .p (.sl 2 (qdE m)), .any, .any, .any, .any, .any, .any, .any, .any, .any, .any, .p (int (l.length : Nat)), .p (int (0 : Nat)), .any, .any, .any, .any, .any, .any, .any, .any, .any, .any, .any, .any] [] (by simp only [ZZ, YY, Zd, ite_true, ite_false, forall_const, reduceCtorEq, Nat.reduceAdd, Nat.reduceMul, Nat.reduceLeDiff, Nat.reduceLT, Nat.reduceEqDiff, qdE_len]; try trivial) (by (simp only [ZZ, YY, Zd, ite_true, ite_false, forall_const, reduceCtorEq, Nat.reduceAdd, Nat.reduceMul, Nat.reduceLeDiff, Nat.reduceLT, Nat.reduceEqDiff]; try trivial)) ⟨0, by omega, by omega, by simp, rfl, rfl⟩ ?_
  rintro n fr L ⟨k, hk, rfl, hf, rfl, rfl⟩
  simp only [ir_slices_Equal_api_Quoted_api_Quoted_L0, ZZ, YY, Zd, ite_true, ite_false, forall_const, reduceCtorEq, Nat.reduceAdd, Nat.reduceMul, Nat.reduceLeDiff, Nat.reduceLT, Nat.reduceEqDiff]
  refine br ?_ ?_
  · intro h
    have hlt : k < l.length := by have := of_decide_eq_true h; omega
    obtain ⟨x, hx⟩ : ∃ x, l[k]? = some x := ⟨_, List.getElem?_eq_getElem hlt⟩
    obtain ⟨y, hy⟩ : ∃ y, m[k]? = some y := ⟨_, List.getElem?_eq_getElem (by omega)⟩
    have hg := qdE_get hx
    have hg2 := qdE_get hy
    simp only [ZZ, YY, Zd, ite_true, ite_false, forall_const, reduceCtorEq, Nat.reduceAdd, Nat.reduceMul, Nat.reduceLeDiff, Nat.reduceLT, Nat.reduceEqDiff]
    refine drg0 ?_
    simp only [ZZ, YY, Zd, ite_true, ite_false, forall_const, reduceCtorEq, Nat.reduceAdd, Nat.reduceMul, Nat.reduceLeDiff, Nat.reduceLT, Nat.reduceEqDiff, hg, hg2, qdE_len]
    ((repeat' (with_reducible apply And.intro)) <;> try ((first | first | assumption | trivial | exact (fun hq => by rw [hq]; rfl) | exact i64_of (by omega) (by omega) | omega | (simp; done) | (simp; omega) | (intro hsc; have hs0 := hsc; (try have hsd := of_decide_eq_true hsc); (try simp only [Bool.not_eq_true', Bool.or_eq_false_iff, Bool.and_eq_true, Bool.or_eq_true, decide_eq_true_eq, decide_eq_false_iff_not] at hsc); (repeat' (with_reducible apply And.intro)) <;> (first | assumption | trivial | exact (fun hq => by rw [hq]; rfl) | exact i64_of (by omega) (by omega) | omega | (simp; done) | (simp; omega) | (intro hse; simp [hse, hs0]; done) | (intro hse; simp only [hse, hs0, Bool.true_and, Bool.and_true, Bool.not_false, Bool.not_true, Bool.and_self]; done))))))
    refine br ?_ ?_
    · intro h2
      have : ¬ l = m := by
        rintro rfl
        rw [hx] at hy
        cases hy
        simp at h2
      simp only [ZZ, YY, Zd, ite_true, ite_false, forall_const, reduceCtorEq, Nat.reduceAdd, Nat.reduceMul, Nat.reduceLeDiff, Nat.reduceLT, Nat.reduceEqDiff]
      simp [this]
    · intro h2
      have hxy : x = y := by
        simp only [Bool.not_eq_false', Bool.and_eq_true, decide_eq_true_eq] at h2
        exact Prod.ext (by have := h2.1; omega) h2.2
      have hf2 : l.take (k + 1) = m.take (k + 1) := by
        rw [List.take_add_one, List.take_add_one, hf, hx, hy, hxy]
      simp only [ZZ, YY, Zd, ite_true, ite_false, forall_const, reduceCtorEq, Nat.reduceAdd, Nat.reduceMul, Nat.reduceLeDiff, Nat.reduceLT, Nat.reduceEqDiff]
      ((repeat' (with_reducible apply And.intro)) <;> try ((first | first | assumption | trivial | exact (fun hq => by rw [hq]; rfl) | exact i64_of (by omega) (by omega) | omega | (simp; done) | (simp; omega) | (intro hsc; have hs0 := hsc; (try have hsd := of_decide_eq_true hsc); (try simp only [Bool.not_eq_true', Bool.or_eq_false_iff, Bool.and_eq_true, Bool.or_eq_true, decide_eq_true_eq, decide_eq_false_iff_not] at hsc); (repeat' (with_reducible apply And.intro)) <;> (first | assumption | trivial | exact (fun hq => by rw [hq]; rfl) | exact i64_of (by omega) (by omega) | omega | (simp; done) | (simp; omega) | (intro hse; simp [hse, hs0]; done) | (intro hse; simp only [hse, hs0, Bool.true_and, Bool.and_true, Bool.not_false, Bool.not_true, Bool.and_self]; done))))))
      refine end_round (l.length - (k + 1)) [.p (.sl 2 (qdE l)), .p (.sl 2 (qdE m)), .any, .any, .any, .any, .any, .any, .any, .any, .any, .any, .p (int (l.length : Nat)), .p (int ((k + 1) : Nat)), .any, .any, .any, .any, .any, .any, .any, .any, .any, .any, .any, .any] [] (by omega) (by (simp only [ZZ, YY, Zd, ite_true, ite_false, forall_const, reduceCtorEq, Nat.reduceAdd, Nat.reduceMul, Nat.reduceLeDiff, Nat.reduceLT, Nat.reduceEqDiff]; try trivial)) (by (simp only [ZZ, YY, Zd, ite_true, ite_false, forall_const, reduceCtorEq, Nat.reduceAdd, Nat.reduceMul, Nat.reduceLeDiff, Nat.reduceLT, Nat.reduceEqDiff]; try trivial)) ⟨k + 1, by omega, rfl, hf2, rfl, rfl⟩
  · intro h
    have hge : l.length ≤ k := by have := of_decide_eq_false h; omega
    rw [List.take_of_length_le hge, List.take_of_length_le (by omega)] at hf
    simp only [ZZ, YY, Zd, ite_true, ite_false, forall_const, reduceCtorEq, Nat.reduceAdd, Nat.reduceMul, Nat.reduceLeDiff, Nat.reduceLT, Nat.reduceEqDiff]
    simp [hf]
def idxS (l : List (List UInt8)) (x : List UInt8) (k : Nat) : Int := if h : k < l.length then (if x = l[k] then k else idxS l x (k + 1)) else -1
termination_by l.length - k
theorem IndexS_ok (l : List (List UInt8)) (x : List UInt8) (hl : l.length ≤ 1000000000) : PCall Tryz.prog E0 189 [.sl 1 (strE l), .str x] (· = int (idxS l x 0)) := by
  refine pcallF mixed Tryz.func189 ck_slices_Index_string_string ?_
  simp only [a0, l0, OS.ao, List.map_cons, List.map_nil, List.length_cons, List.length_nil, List.cons_append, List.nil_append, Nat.reduceSub, Nat.reduceAdd, List.replicate_succ, List.replicate_zero, ir_slices_Index_string_string, rs_slices_Index_string_string, ZZ, YY, Zd, ite_true, ite_false, forall_const, reduceCtorEq, Nat.reduceAdd, Nat.reduceMul, Nat.reduceLeDiff, Nat.reduceLT, Nat.reduceEqDiff]
  simp only [ZZ, YY, Zd, ite_true, ite_false, forall_const, reduceCtorEq, Nat.reduceAdd, Nat.reduceMul, Nat.reduceLeDiff, Nat.reduceLT, Nat.reduceEqDiff, strE_len]
  refine loop_intro (fun n fr L => ∃ (k : Nat), k ≤ l.length ∧ n = l.length - k ∧ (idxS l x 0 = idxS l x k) ∧ fr = [.p (.sl 1 (strE l)), .p (.str x), .any, .any, .any, .any, .any, .p (int (l.length : Nat)), .p (int (k : Nat)), .any, .any, .any, .any, .any, .any, .any, .any, .any, .any] ∧ L = []) (l.length) [.p (.sl 1 (strE l)), .p (.str x), .any, .any, .any, .any, .any, .p (int (l.length : Nat)), .p (int (0 : Nat)), .any, .any, .any, .any, .any, .any, .any, .any, .any, .any] [] (by simp only [ZZ, YY, Zd, ite_true, ite_false, forall_const, reduceCtorEq, Nat.reduceAdd, Nat.reduceMul, Nat.reduceLeDiff, Nat.reduceLT, Nat.reduceEqDiff, strE_len]; try trivial) (by (simp only [ZZ, YY, Zd, ite_true, ite_false, forall_const, reduceCtorEq, Nat.reduceAdd, Nat.reduceMul, Nat.reduceLeDiff, Nat.reduceLT, Nat.reduceEqDiff]; try trivial)) ⟨0, by omega, by omega, rfl, rfl, rfl⟩ ?_
  rintro n fr L ⟨k, hk, rfl, hf, rfl, rfl⟩
  simp only [ir_slices_Index_string_string_L0, ZZ, YY, Zd, ite_true, ite_false, forall_const, reduceCtorEq, Nat.reduceAdd, Nat.reduceMul, Nat.reduceLeDiff, Nat.reduceLT, Nat.reduceEqDiff]
  refine br ?_ ?_
  · intro h
    have hlt : k < l.length := by have := of_decide_eq_true h; omega
    have hg := strE_get (List.getElem?_eq_getElem hlt)
    simp only [ZZ, YY, Zd, ite_true, ite_false, forall_const, reduceCtorEq, Nat.reduceAdd, Nat.reduceMul, Nat.reduceLeDiff, Nat.reduceLT, Nat.reduceEqDiff, hg, strE_len]
    ((repeat' (with_reducible apply And.intro)) <;> try ((first | first | assumption | trivial | exact (fun hq => by rw [hq]; rfl) | exact i64_of (by omega) (by omega) | omega | (simp; done) | (simp; omega) | (intro hsc; have hs0 := hsc; (try have hsd := of_decide_eq_true hsc); (try simp only [Bool.not_eq_true', Bool.or_eq_false_iff, Bool.and_eq_true, Bool.or_eq_true, decide_eq_true_eq, decide_eq_false_iff_not] at hsc); (repeat' (with_reducible apply And.intro)) <;> (first | assumption | trivial | exact (fun hq => by rw [hq]; rfl) | exact i64_of (by omega) (by omega) | omega | (simp; done) | (simp; omega) | (intro hse; simp [hse, hs0]; done) | (intro hse; simp only [hse, hs0, Bool.true_and, Bool.and_true, Bool.not_false, Bool.not_true, Bool.and_self]; done))))))
    refine br ?_ ?_
    · intro h2
      have h2 : x = l[k] := of_decide_eq_true h2
      simp only [ZZ, YY, Zd, ite_true, ite_false, forall_const, reduceCtorEq, Nat.reduceAdd, Nat.reduceMul, Nat.reduceLeDiff, Nat.reduceLT, Nat.reduceEqDiff]
      rw [hf, idxS, dif_pos hlt, if_pos h2]
    · intro h2
      have h2 : ¬ x = l[k] := of_decide_eq_false h2
      simp only [ZZ, YY, Zd, ite_true, ite_false, forall_const, reduceCtorEq, Nat.reduceAdd, Nat.reduceMul, Nat.reduceLeDiff, Nat.reduceLT, Nat.reduceEqDiff]
      ((repeat' (with_reducible apply And.intro)) <;> try ((first | first | assumption | trivial | exact (fun hq => by rw [hq]; rfl) | exact i64_of (by omega) (by omega) | omega | (simp; done) | (simp; omega) | (intro hsc; have hs0 := hsc; (try have hsd := of_decide_eq_true hsc); (try simp only [Bool.not_eq_true', Bool.or_eq_false_iff, Bool.and_eq_true, Bool.or_eq_true, decide_eq_true_eq, decide_eq_false_iff_not] at hsc); (repeat' (with_reducible apply And.intro)) <;> (first | assumption | trivial | exact (fun hq => by rw [hq]; rfl) | exact i64_of (by omega) (by omega) | omega | (simp; done) | (simp; omega) | (intro hse; simp [hse, hs0]; done) | (intro hse; simp only [hse, hs0, Bool.true_and, Bool.and_true, Bool.not_false, Bool.not_true, Bool.and_self]; done))))))
      refine end_round (l.length - (k + 1)) [.p (.sl 1 (strE l)), .p (.str x), .any, .any, .any, .any, .any, .p (int (l.length : Nat)), .p (int ((k + 1) : Nat)), .any, .any, .any, .any, .any, .any, .any, .any, .any, .any] [] (by omega) (by (simp only [ZZ, YY, Zd, ite_true, ite_false, forall_const, reduceCtorEq, Nat.reduceAdd, Nat.reduceMul, Nat.reduceLeDiff, Nat.reduceLT, Nat.reduceEqDiff]; try trivial)) (by (simp only [ZZ, YY, Zd, ite_true, ite_false, forall_const, reduceCtorEq, Nat.reduceAdd, Nat.reduceMul, Nat.reduceLeDiff, Nat.reduceLT, Nat.reduceEqDiff]; try trivial)) ⟨k + 1, by omega, rfl, by rw [hf, idxS, dif_pos hlt, if_neg h2], rfl, rfl⟩
  · intro h
    have hge : ¬ k < l.length := by have := of_decide_eq_false h; omega
    simp only [ZZ, YY, Zd, ite_true, ite_false, forall_const, reduceCtorEq, Nat.reduceAdd, Nat.reduceMul, Nat.reduceLeDiff, Nat.reduceLT, Nat.reduceEqDiff]
    rw [hf, idxS, dif_neg hge]
theorem idxS_mem (l : List (List UInt8)) (x : List UInt8) : ∀ (n k : Nat), l.length - k ≤ n → (0 ≤ idxS l x k ↔ x ∈ l.drop k) := by
  intro n
  induction n with
  | zero =>
    intro k hk
    rw [idxS, dif_neg (by omega), List.drop_eq_nil_of_le (by omega)]
    simp
  | succ n ih =>
    intro k hk
    rw [idxS]
    split
    · rename_i h
      rw [List.drop_eq_getElem_cons h, List.mem_cons]
      split
      · rename_i e; simp [e]
      · rename_i e
        rw [ih (k + 1) (by omega)]
        simp [e]
    · rename_i h
      rw [List.drop_eq_nil_of_le (by omega)]
      simp
theorem ContainsS_ok (l : List (List UInt8)) (x : List UInt8) (hl : l.length ≤ 1000000000) : PCall Tryz.prog E0 113 [.sl 1 (strE l), .str x] (· = .bool (decide (x ∈ l))) := by
  refine pcallF mixed Tryz.func113 ck_slices_Contains_string_string ?_
  simp only [a0, l0, OS.ao, List.map_cons, List.map_nil, List.length_cons, List.length_nil, List.cons_append, List.nil_append, Nat.reduceSub, Nat.reduceAdd, List.replicate_succ, List.replicate_zero, ir_slices_Contains_string_string, rs_slices_Contains_string_string, ZZ, YY, Zd, ite_true, ite_false, forall_const, reduceCtorEq, Nat.reduceAdd, Nat.reduceMul, Nat.reduceLeDiff, Nat.reduceLT, Nat.reduceEqDiff]
  refine use1 (IndexS_ok l x hl) rfl (.inl rfl) ?_
  simp only [ZZ, YY, Zd, ite_true, ite_false, forall_const, reduceCtorEq, Nat.reduceAdd, Nat.reduceMul, Nat.reduceLeDiff, Nat.reduceLT, Nat.reduceEqDiff]
  have := idxS_mem l x _ 0 (Nat.le_refl _)
  rw [List.drop_zero] at this
  simp only [this]
end Go.Proofs.YtndjmidmfmcbkaaGreatDoor
