
/- The law BodiesQuoted: it returns true. -/
import Derived.Test.YtndjmidmfmcbkaaGreatDoorM11
import Derived.Test.YtndjmidmfmcbkaaGreatDoorM6
namespace Go.Proofs.YtndjmidmfmcbkaaGreatDoor
open Go.RowKit
set_option linter.unusedVariables false
set_option linter.unusedSimpArgs false
set_option linter.defProp false

/- paperchase/chaselaw1.BodiesQuoted -/
def ir_chaselaw1_BodiesQuoted_L0 : IC :=
  (.seq (.reg [⟨some 71, .bin .lss (.t 70) (.t 69), none⟩])
    (.seq (.cond (.t 71) .skip (.exit 0))
    (.seq (.block 1 (.seq (.reg [⟨some 72, .ixa 2 (.t 68) (.t 70), none⟩,
      ⟨some 73, .ld 2 true (.t 72), none⟩,
      ⟨some 16, .alc 72 [.int .i64 0, .str []], none⟩,
      ⟨none, .st 2 (.t 16) (.t 73), none⟩])
    (.reg [⟨some 74, .mov (.t 14), none⟩,
      ⟨some 75, .fla 0 (.t 16), none⟩,
      ⟨some 76, .ld 1 false (.t 75), none⟩,
      ⟨some 77, .mx (.t 74) (.t 76), none⟩,
      ⟨some 14, .mov (.t 77), none⟩])))
    (.reg [⟨some 78, .bin .add (.t 70) (.c (.int .i64 1)), none⟩,
      ⟨some 70, .mov (.t 78), none⟩]))))
def ir_chaselaw1_BodiesQuoted : IC :=
  (.seq (.reg [⟨some 2, .mov (.c (.bool false)), none⟩])
    (.seq (.reg [⟨some 17, .mov (.t 0), none⟩,
      ⟨some 18, .bld [.nl 1, .int .i64 0] [(0, 1, .t 17)], none⟩,
      ⟨some 19, .box 25 (.t 18), none⟩,
      ⟨some 3, .mov (.t 19), none⟩])
    (.seq (.reg [⟨some 20, .mov (.t 3), none⟩,
      ⟨some 21, .call 32 [.t 20], none⟩,
      ⟨some 4, .mov (.t 21), none⟩])
    (.seq (.reg [⟨some 23, .mov (.t 4), none⟩,
      ⟨none, .fz (.t 23), none⟩,
      ⟨some 24, .call 33 [.t 23], none⟩,
      ⟨some 22, .mov (.t 24), none⟩,
      ⟨some 25, .ext 0 (.t 22), none⟩,
      ⟨some 26, .ext 1 (.t 22), none⟩,
      ⟨some 5, .mov (.t 25), none⟩,
      ⟨some 6, .mov (.t 26), none⟩])
    (.seq (.reg [⟨some 28, .mov (.t 4), none⟩,
      ⟨some 29, .call 34 [.t 28], none⟩,
      ⟨some 27, .mov (.t 29), none⟩,
      ⟨some 30, .ext 0 (.t 27), none⟩,
      ⟨some 31, .ext 1 (.t 27), none⟩,
      ⟨some 7, .mov (.t 30), none⟩,
      ⟨some 8, .mov (.t 31), none⟩])
    (.seq (.reg [⟨some 33, .mov (.t 4), none⟩,
      ⟨some 34, .call 35 [.t 33], none⟩,
      ⟨some 32, .mov (.t 34), none⟩,
      ⟨some 35, .ext 0 (.t 32), none⟩,
      ⟨some 36, .ext 1 (.t 32), none⟩,
      ⟨some 9, .mov (.t 35), none⟩,
      ⟨some 10, .mov (.t 36), none⟩])
    (.seq (.reg [⟨some 38, .mov (.t 4), none⟩,
      ⟨none, .fz (.t 38), none⟩,
      ⟨some 39, .call 36 [.t 38], none⟩,
      ⟨some 37, .mov (.t 39), none⟩,
      ⟨some 40, .ext 0 (.t 37), none⟩,
      ⟨some 41, .ext 1 (.t 37), none⟩,
      ⟨some 11, .mov (.t 40), none⟩,
      ⟨some 12, .mov (.t 41), none⟩])
    (.seq (.seq (.reg [⟨some 42, .mov (.t 4), none⟩,
      ⟨some 43, .call 37 [.t 42], none⟩,
      ⟨some 13, .mov (.t 43), none⟩])
    (.seq (.reg [⟨some 44, .mov (.t 13), none⟩,
      ⟨some 45, .bin .neq (.t 44) (.c (.int .i64 0)), none⟩])
    (.cond (.t 45) (.seq (.reg [⟨some 46, .call 30 [], none⟩,
      ⟨some 47, .mov (.t 46), none⟩,
      ⟨some 48, .mov (.t 6), (some (47, true))⟩,
      ⟨some 49, .mov (.t 13), (some (47, true))⟩,
      ⟨some 50, .bin .eql (.t 48) (.t 49), (some (47, true))⟩,
      ⟨some 51, .pick (.t 47) (.t 50) (.c (.bool false)), none⟩,
      ⟨some 52, .mov (.t 51), none⟩,
      ⟨some 53, .mov (.t 8), (some (52, true))⟩,
      ⟨some 54, .mov (.t 13), (some (52, true))⟩,
      ⟨some 55, .bin .eql (.t 53) (.t 54), (some (52, true))⟩,
      ⟨some 56, .pick (.t 52) (.t 55) (.c (.bool false)), none⟩,
      ⟨some 57, .mov (.t 56), none⟩,
      ⟨some 58, .mov (.t 10), (some (57, true))⟩,
      ⟨some 59, .mov (.t 13), (some (57, true))⟩,
      ⟨some 60, .bin .eql (.t 58) (.t 59), (some (57, true))⟩,
      ⟨some 61, .pick (.t 57) (.t 60) (.c (.bool false)), none⟩,
      ⟨some 62, .mov (.t 61), none⟩,
      ⟨some 63, .mov (.t 12), (some (62, true))⟩,
      ⟨some 64, .mov (.t 13), (some (62, true))⟩,
      ⟨some 65, .bin .eql (.t 63) (.t 64), (some (62, true))⟩,
      ⟨some 66, .pick (.t 62) (.t 65) (.c (.bool false)), none⟩,
      ⟨some 2, .mov (.t 66), none⟩])
    .ret) .skip)))
    (.seq (.reg [⟨some 14, .mov (.c (.int .i64 0)), none⟩])
    (.seq (.seq (.reg [⟨some 67, .mov (.t 4), none⟩,
      ⟨none, .fz (.t 67), none⟩,
      ⟨some 68, .call 38 [.t 67], none⟩,
      ⟨some 69, .len (.t 68), none⟩,
      ⟨some 70, .mov (.c (.int .i64 0)), none⟩])
    (.block 0 (.loop ir_chaselaw1_BodiesQuoted_L0)))
    (.seq (.reg [⟨some 79, .call 30 [], none⟩,
      ⟨some 80, .mov (.t 79), none⟩,
      ⟨some 81, .mov (.t 6), (some (80, true))⟩,
      ⟨some 82, .bin .eql (.t 81) (.c (.int .i64 0)), (some (80, true))⟩,
      ⟨some 83, .pick (.t 80) (.t 82) (.c (.bool false)), none⟩,
      ⟨some 84, .mov (.t 83), none⟩,
      ⟨some 85, .mov (.t 8), (some (84, true))⟩,
      ⟨some 86, .bin .eql (.t 85) (.c (.int .i64 0)), (some (84, true))⟩,
      ⟨some 87, .pick (.t 84) (.t 86) (.c (.bool false)), none⟩,
      ⟨some 88, .mov (.t 87), none⟩,
      ⟨some 89, .mov (.t 10), (some (88, true))⟩,
      ⟨some 90, .bin .eql (.t 89) (.c (.int .i64 0)), (some (88, true))⟩,
      ⟨some 91, .pick (.t 88) (.t 90) (.c (.bool false)), none⟩,
      ⟨some 92, .mov (.t 91), none⟩,
      ⟨some 93, .mov (.t 12), (some (92, true))⟩,
      ⟨some 94, .bin .eql (.t 93) (.c (.int .i64 0)), (some (92, true))⟩,
      ⟨some 95, .pick (.t 92) (.t 94) (.c (.bool false)), none⟩,
      ⟨some 96, .mov (.t 95), none⟩,
      ⟨some 97, .mov (.t 5), (some (96, true))⟩,
      ⟨some 98, .mov (.t 4), (some (96, true))⟩,
      ⟨none, .fz (.t 98), none⟩,
      ⟨some 99, .call 38 [.t 98], (some (96, true))⟩,
      ⟨some 100, .call 39 [.t 97, .t 99], (some (96, true))⟩,
      ⟨some 101, .pick (.t 96) (.t 100) (.c (.bool false)), none⟩,
      ⟨some 102, .mov (.t 101), none⟩,
      ⟨some 103, .mov (.t 7), (some (102, true))⟩,
      ⟨some 104, .mov (.t 4), (some (102, true))⟩,
      ⟨some 105, .call 40 [.t 104], (some (102, true))⟩,
      ⟨some 106, .bin .eql (.t 103) (.t 105), (some (102, true))⟩,
      ⟨some 107, .pick (.t 102) (.t 106) (.c (.bool false)), none⟩,
      ⟨some 108, .mov (.t 107), none⟩,
      ⟨some 109, .mov (.t 9), (some (108, true))⟩,
      ⟨some 110, .mov (.t 14), (some (108, true))⟩,
      ⟨some 111, .bin .eql (.t 109) (.t 110), (some (108, true))⟩,
      ⟨some 112, .pick (.t 108) (.t 111) (.c (.bool false)), none⟩,
      ⟨some 113, .mov (.t 112), none⟩,
      ⟨some 114, .mov (.t 11), (some (113, true))⟩,
      ⟨some 115, .mov (.t 4), (some (113, true))⟩,
      ⟨none, .fz (.t 115), none⟩,
      ⟨some 116, .call 42 [.t 115], (some (113, true))⟩,
      ⟨some 117, .call 41 [.t 114, .t 116], (some (113, true))⟩,
      ⟨some 118, .pick (.t 113) (.t 117) (.c (.bool false)), none⟩,
      ⟨some 2, .mov (.t 118), none⟩])
    .ret)))))))))))
def rs_chaselaw1_BodiesQuoted : List IRes := [.t 2]
theorem ck_chaselaw1_BodiesQuoted : chkF Tryz.prog Tryz.f5 ir_chaselaw1_BodiesQuoted rs_chaselaw1_BodiesQuoted 119 = true := by kernel_rfl

theorem EqualQ_same (l : List (List UInt8)) (hl : l.length ≤ 1000000000) : PCall Tryz.prog E0 39 [.sl 2 (quF l), .sl 2 (quF l)] (· = .bool true) := by
  rw [quF_qd]
  exact (EqualQ_ok _ _ (by simpa using hl)).mono fun x h => by rw [h]; simp
theorem EqualT_same (l : List (List UInt8)) (hl : l.length ≤ 1000000000) : PCall Tryz.prog E0 41 [.sl 1 (strE l), .sl 1 (strE l)] (· = .bool true) :=
  (EqualT_ok l l hl).mono fun x h => by rw [h]; simp
theorem endR_len (o : List (List UInt8)) (x : List UInt8) : (endR o x).length ≤ o.length + 1 := by
  unfold endR
  split <;> simp
set_option maxHeartbeats 4000000 in
theorem bodiesQuoted_ok (z : List Int) (hl : z.length ≤ 9223372036854775807) : PCall Tryz.prog E0 5 [ints z] (· = .bool true) := by
  refine pcallF mixed Tryz.func5 ck_chaselaw1_BodiesQuoted ?_
  simp only [a0, l0, OS.ao, List.map_cons, List.map_nil, List.length_cons, List.length_nil, List.cons_append, List.nil_append, Nat.reduceSub, Nat.reduceAdd, List.replicate_succ, List.replicate_zero, ir_chaselaw1_BodiesQuoted, rs_chaselaw1_BodiesQuoted, ZZ, YY, Zd, ite_true, ite_false, forall_const, reduceCtorEq, Nat.reduceAdd, Nat.reduceMul, Nat.reduceLeDiff, Nat.reduceLT, Nat.reduceEqDiff]
  simp only [ints, ZZ, YY, Zd, ite_true, ite_false, forall_const, reduceCtorEq, Nat.reduceAdd, Nat.reduceMul, Nat.reduceLeDiff, Nat.reduceLT, Nat.reduceEqDiff]
  refine useS (k := .l 19) (MailBody_ok z 0 (by omega) hl) rfl rfl rfl (by simp only [ZZ, YY, Zd, ite_true, ite_false, forall_const, reduceCtorEq, Nat.reduceAdd, Nat.reduceMul, Nat.reduceLeDiff, Nat.reduceLT, Nat.reduceEqDiff]) ?_
  rintro x cs' ⟨s, k1, rfl, hs, rfl, hk1⟩
  simp only [ZZ, YY, Zd, ite_true, ite_false, forall_const, reduceCtorEq, Nat.reduceAdd, Nat.reduceMul, Nat.reduceLeDiff, Nat.reduceLT, Nat.reduceEqDiff]
  refine use1 (TLines_ok s (by omega)) rfl (.inl rfl) ?_
  simp only [ZZ, YY, Zd, ite_true, ite_false, forall_const, reduceCtorEq, Nat.reduceAdd, Nat.reduceMul, Nat.reduceLeDiff, Nat.reduceLT, Nat.reduceEqDiff]
  refine use1 (TOwn_ok s (by omega)) rfl (.inl rfl) ?_
  simp only [ZZ, YY, Zd, ite_true, ite_false, forall_const, reduceCtorEq, Nat.reduceAdd, Nat.reduceMul, Nat.reduceLeDiff, Nat.reduceLT, Nat.reduceEqDiff]
  refine use1 (TDepth_ok s (by omega)) rfl (.inl rfl) ?_
  simp only [ZZ, YY, Zd, ite_true, ite_false, forall_const, reduceCtorEq, Nat.reduceAdd, Nat.reduceMul, Nat.reduceLeDiff, Nat.reduceLT, Nat.reduceEqDiff]
  refine use1 (TParagraphs_ok s (by omega)) rfl (.inl rfl) ?_
  simp only [ZZ, YY, Zd, ite_true, ite_false, forall_const, reduceCtorEq, Nat.reduceAdd, Nat.reduceMul, Nat.reduceLeDiff, Nat.reduceLT, Nat.reduceEqDiff]
  refine use1 (BodyFault_ok s (by omega)) rfl (.inl rfl) ?_
  simp only [ZZ, YY, Zd, ite_true, ite_false, forall_const, reduceCtorEq, Nat.reduceAdd, Nat.reduceMul, Nat.reduceLeDiff, Nat.reduceLT, Nat.reduceEqDiff]
  refine br ?_ ?_
  · intro h
    simp only [ZZ, YY, Zd, ite_true, ite_false, forall_const, reduceCtorEq, Nat.reduceAdd, Nat.reduceMul, Nat.reduceLeDiff, Nat.reduceLT, Nat.reduceEqDiff]
    refine use1 threads_ok rfl (.inl rfl) ?_
    simp only [ZZ, YY, Zd, ite_true, ite_false, forall_const, reduceCtorEq, Nat.reduceAdd, Nat.reduceMul, Nat.reduceLeDiff, Nat.reduceLT, Nat.reduceEqDiff]
    simp
  intro h
  have h : bodyE s = 0 := by simpa using h
  have hz := bodyE_zero h
  have hln := lines_eq hz.2
  rw [same_par]
  simp only [if_pos h, ← hln]
  simp only [h]
  obtain ⟨hll, hlb⟩ := rlinesF_bd s
  have hPO := ParagraphsOf_ok s hz.1
  have hOO := OwnOf_ok s (by omega)
  have hQ := QuotedP s (by omega)
  have hol := stR_out (rlinesF s) (rlinesF s).length
  generalize rlinesF s = l at *
  simp only [ZZ, YY, Zd, ite_true, ite_false, forall_const, reduceCtorEq, Nat.reduceAdd, Nat.reduceMul, Nat.reduceLeDiff, Nat.reduceLT, Nat.reduceEqDiff]
  refine use1 hQ rfl (.inl rfl) ?_
  simp only [ZZ, YY, Zd, ite_true, ite_false, forall_const, reduceCtorEq, Nat.reduceAdd, Nat.reduceMul, Nat.reduceLeDiff, Nat.reduceLT, Nat.reduceEqDiff, quF_len]
  refine loop_intro (fun n fr L => ∃ (k : Nat), k ≤ l.length ∧ n = l.length - k ∧ fr = [.any, .any, .any, .any, .p (.str s), .p (.sl 2 (quF l)), .p (int 0), .p (.str (ownS (ownF l l.length))), .p (int 0), .p (int (dpF l l.length : Nat)), .p (int 0), .p (.sl 1 (strE (endR (stR l l.length).1 (stR l l.length).2.1))), .p (int 0), .any, .p (int (dpF l k : Nat)), .any, .any, .any, .any, .any, .any, .any, .any, .any, .any, .any, .any, .any, .any, .any, .any, .any, .any, .any, .any, .any, .any, .any, .any, .any, .any, .any, .any, .any, .any, .any, .any, .any, .any, .any, .any, .any, .any, .any, .any, .any, .any, .any, .any, .any, .any, .any, .any, .any, .any, .any, .any, .any, .p (.sl 2 (quF l)), .p (int (l.length : Nat)), .p (int (k : Nat)), .any, .any, .any, .any, .any, .any, .any, .any, .any, .any, .any, .any, .any, .any, .any, .any, .any, .any, .any, .any, .any, .any, .any, .any, .any, .any, .any, .any, .any, .any, .any, .any, .any, .any, .any, .any, .any, .any, .any, .any, .any, .any, .any, .any, .any, .any, .any, .any] ∧ L = []) (l.length) [.any, .any, .any, .any, .p (.str s), .p (.sl 2 (quF l)), .p (int 0), .p (.str (ownS (ownF l l.length))), .p (int 0), .p (int (dpF l l.length : Nat)), .p (int 0), .p (.sl 1 (strE (endR (stR l l.length).1 (stR l l.length).2.1))), .p (int 0), .any, .p (int (dpF l 0 : Nat)), .any, .any, .any, .any, .any, .any, .any, .any, .any, .any, .any, .any, .any, .any, .any, .any, .any, .any, .any, .any, .any, .any, .any, .any, .any, .any, .any, .any, .any, .any, .any, .any, .any, .any, .any, .any, .any, .any, .any, .any, .any, .any, .any, .any, .any, .any, .any, .any, .any, .any, .any, .any, .any, .p (.sl 2 (quF l)), .p (int (l.length : Nat)), .p (int (0 : Nat)), .any, .any, .any, .any, .any, .any, .any, .any, .any, .any, .any, .any, .any, .any, .any, .any, .any, .any, .any, .any, .any, .any, .any, .any, .any, .any, .any, .any, .any, .any, .any, .any, .any, .any, .any, .any, .any, .any, .any, .any, .any, .any, .any, .any, .any, .any, .any, .any] [] (by simp only [ZZ, YY, Zd, ite_true, ite_false, forall_const, reduceCtorEq, Nat.reduceAdd, Nat.reduceMul, Nat.reduceLeDiff, Nat.reduceLT, Nat.reduceEqDiff, strE_len]; try trivial) (by (simp only [ZZ, YY, Zd, ite_true, ite_false, forall_const, reduceCtorEq, Nat.reduceAdd, Nat.reduceMul, Nat.reduceLeDiff, Nat.reduceLT, Nat.reduceEqDiff]; try trivial)) ⟨0, by omega, by omega, rfl, rfl⟩ ?_
  rintro n fr L ⟨k, hk, rfl, rfl, rfl⟩
  simp only [ir_chaselaw1_BodiesQuoted_L0, ZZ, YY, Zd, ite_true, ite_false, forall_const, reduceCtorEq, Nat.reduceAdd, Nat.reduceMul, Nat.reduceLeDiff, Nat.reduceLT, Nat.reduceEqDiff]
  refine br ?_ ?_
  · intro h
    have hlt : k < l.length := by have := of_decide_eq_true h; omega
    have hm : max ((dpF l k : Nat) : Int) ((qF l k).1 : Nat) = ((dpF l (k + 1) : Nat) : Int) := by rw [dpF_succ]; omega
    simp only [ZZ, YY, Zd, ite_true, ite_false, forall_const, reduceCtorEq, Nat.reduceAdd, Nat.reduceMul, Nat.reduceLeDiff, Nat.reduceLT, Nat.reduceEqDiff, quF_get hlt, quF_len, hm]
    ((repeat' (with_reducible apply And.intro)) <;> try ((first | first | assumption | trivial | exact (fun hq => by rw [hq]; rfl) | exact i64_of (by omega) (by omega) | omega | (simp; done) | (simp; omega) | (intro hsc; have hs0 := hsc; (try have hsd := of_decide_eq_true hsc); (try simp only [Bool.not_eq_true', Bool.or_eq_false_iff, Bool.and_eq_true, Bool.or_eq_true, decide_eq_true_eq, decide_eq_false_iff_not] at hsc); (repeat' (with_reducible apply And.intro)) <;> (first | assumption | trivial | exact (fun hq => by rw [hq]; rfl) | exact i64_of (by omega) (by omega) | omega | (simp; done) | (simp; omega) | (intro hse; simp [hse, hs0]; done) | (intro hse; simp only [hse, hs0, Bool.true_and, Bool.and_true, Bool.not_false, Bool.not_true, Bool.and_self]; done))))))
    refine end_round (l.length - (k + 1)) [.any, .any, .any, .any, .p (.str s), .p (.sl 2 (quF l)), .p (int 0), .p (.str (ownS (ownF l l.length))), .p (int 0), .p (int (dpF l l.length : Nat)), .p (int 0), .p (.sl 1 (strE (endR (stR l l.length).1 (stR l l.length).2.1))), .p (int 0), .any, .p (int (dpF l (k + 1) : Nat)), .any, .any, .any, .any, .any, .any, .any, .any, .any, .any, .any, .any, .any, .any, .any, .any, .any, .any, .any, .any, .any, .any, .any, .any, .any, .any, .any, .any, .any, .any, .any, .any, .any, .any, .any, .any, .any, .any, .any, .any, .any, .any, .any, .any, .any, .any, .any, .any, .any, .any, .any, .any, .any, .p (.sl 2 (quF l)), .p (int (l.length : Nat)), .p (int ((k + 1) : Nat)), .any, .any, .any, .any, .any, .any, .any, .any, .any, .any, .any, .any, .any, .any, .any, .any, .any, .any, .any, .any, .any, .any, .any, .any, .any, .any, .any, .any, .any, .any, .any, .any, .any, .any, .any, .any, .any, .any, .any, .any, .any, .any, .any, .any, .any, .any, .any, .any] [] (by omega) (by (simp only [ZZ, YY, Zd, ite_true, ite_false, forall_const, reduceCtorEq, Nat.reduceAdd, Nat.reduceMul, Nat.reduceLeDiff, Nat.reduceLT, Nat.reduceEqDiff]; try trivial)) (by (simp only [ZZ, YY, Zd, ite_true, ite_false, forall_const, reduceCtorEq, Nat.reduceAdd, Nat.reduceMul, Nat.reduceLeDiff, Nat.reduceLT, Nat.reduceEqDiff]; try trivial)) ⟨k + 1, by omega, rfl, rfl, rfl⟩
  · intro h
    have hge : k = l.length := by have := of_decide_eq_false h; omega
    subst hge
    simp only [ZZ, YY, Zd, ite_true, ite_false, forall_const, reduceCtorEq, Nat.reduceAdd, Nat.reduceMul, Nat.reduceLeDiff, Nat.reduceLT, Nat.reduceEqDiff]
    refine use1 threads_ok rfl (.inl rfl) ?_
    simp only [ZZ, YY, Zd, ite_true, ite_false, forall_const, reduceCtorEq, Nat.reduceAdd, Nat.reduceMul, Nat.reduceLeDiff, Nat.reduceLT, Nat.reduceEqDiff]
    refine useG (fun _ => hQ) rfl (.inl rfl) ?_
    simp only [ZZ, YY, Zd, ite_true, ite_false, forall_const, reduceCtorEq, Nat.reduceAdd, Nat.reduceMul, Nat.reduceLeDiff, Nat.reduceLT, Nat.reduceEqDiff]
    refine useG (fun _ => EqualQ_same l (by omega)) rfl (.inl rfl) ?_
    simp only [ZZ, YY, Zd, ite_true, ite_false, forall_const, reduceCtorEq, Nat.reduceAdd, Nat.reduceMul, Nat.reduceLeDiff, Nat.reduceLT, Nat.reduceEqDiff]
    refine useG (fun _ => hOO) rfl (.inl rfl) ?_
    simp only [ZZ, YY, Zd, ite_true, ite_false, forall_const, reduceCtorEq, Nat.reduceAdd, Nat.reduceMul, Nat.reduceLeDiff, Nat.reduceLT, Nat.reduceEqDiff]
    refine useG (fun _ => hPO) rfl (.inl rfl) ?_
    simp only [ZZ, YY, Zd, ite_true, ite_false, forall_const, reduceCtorEq, Nat.reduceAdd, Nat.reduceMul, Nat.reduceLeDiff, Nat.reduceLT, Nat.reduceEqDiff]
    refine useG (fun _ => EqualT_same _ (by have := endR_len (stR l l.length).1 (stR l l.length).2.1; omega)) rfl (.inl rfl) ?_
    simp only [ZZ, YY, Zd, ite_true, ite_false, forall_const, reduceCtorEq, Nat.reduceAdd, Nat.reduceMul, Nat.reduceLeDiff, Nat.reduceLT, Nat.reduceEqDiff]
    ((repeat' (with_reducible apply And.intro)) <;> try ((first | first | assumption | trivial | exact (fun hq => by rw [hq]; rfl) | exact i64_of (by omega) (by omega) | omega | (simp; done) | (simp; omega) | (intro hsc; have hs0 := hsc; (try have hsd := of_decide_eq_true hsc); (try simp only [Bool.not_eq_true', Bool.or_eq_false_iff, Bool.and_eq_true, Bool.or_eq_true, decide_eq_true_eq, decide_eq_false_iff_not] at hsc); (repeat' (with_reducible apply And.intro)) <;> (first | assumption | trivial | exact (fun hq => by rw [hq]; rfl) | exact i64_of (by omega) (by omega) | omega | (simp; done) | (simp; omega) | (intro hse; simp [hse, hs0]; done) | (intro hse; simp only [hse, hs0, Bool.true_and, Bool.and_true, Bool.not_false, Bool.not_true, Bool.and_self]; done))))))
theorem bodiesQuoted_walk (a0 : Option Addr) (len0 cap0 : Nat) (z0 : List Int) (w : World) (h0 : IsRow .i64 w a0 len0 cap0 z0) (he : E0.ok w ∧ ∀ b, E0.bl b → b < w.heap.size) :
    Calls Tryz.prog 5 #[.slice a0 len0 cap0] w fun e w' => e = .returned (.bool true) ∧ Below w.heap.size w w' :=
  walk_of bodiesQuoted_ok a0 len0 cap0 z0 w h0 he.1 he.2
end Go.Proofs.YtndjmidmfmcbkaaGreatDoor
