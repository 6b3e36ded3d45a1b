
/- The law LettersBetween: its walk. -/
import Derived.Test.YtidmphcocnaonaaGreatDoorZ11
import Derived.Test.YtidmphcocnaonaaGreatDoorZ7
import Derived.Test.YtidmphcocnaonaaGreatDoorZ6
namespace Go.Proofs.YtidmphcocnaonaaGreatDoor
open Go.RowKit
set_option linter.unusedVariables false
set_option linter.unusedSimpArgs false
set_option linter.defProp false

/- paperchase/chaselaw1.LettersBetween -/
def ir_chaselaw1_LettersBetween_L0 : IC :=
  (.seq (.reg [⟨some 61, .bin .lss (.t 60) (.t 59), none⟩])
    (.seq (.cond (.t 61) .skip (.exit 0))
    (.seq (.block 1 (.seq (.reg [⟨some 62, .mov (.t 60), none⟩,
      ⟨some 63, .ixa 9 (.t 58) (.t 60), none⟩,
      ⟨some 64, .ld 9 true (.t 63), none⟩,
      ⟨some 12, .alc 74 [.str [], .int .i64 0, .str [], .str [], .nl 2, .nl 2, .nl 1, .str [], .str []], none⟩,
      ⟨some 11, .mov (.t 62), none⟩,
      ⟨none, .st 9 (.t 12) (.t 64), none⟩])
    (.seq (.reg [⟨some 65, .ld 9 true (.t 12), none⟩,
      ⟨some 66, .call 41 [.t 65], none⟩,
      ⟨some 13, .mov (.t 66), none⟩])
    (.seq (.reg [⟨some 67, .mov (.t 13), none⟩,
      ⟨some 68, .mov (.t 6), none⟩,
      ⟨some 69, .call 42 [.t 67, .t 68], none⟩,
      ⟨some 70, .mov (.t 69), none⟩,
      ⟨some 71, .mov (.t 13), (some (70, true))⟩,
      ⟨some 72, .mov (.t 7), (some (70, true))⟩,
      ⟨some 73, .call 42 [.t 71, .t 72], (some (70, true))⟩,
      ⟨some 74, .pick (.t 70) (.t 73) (.c (.bool false)), none⟩])
    (.cond (.t 74) (.reg [⟨some 75, .mov (.t 10), none⟩,
      ⟨some 76, .mov (.t 11), none⟩,
      ⟨some 77, .bsl 1 [.t 76], none⟩,
      ⟨some 78, .app 3 1 8 (.t 75) (.t 77), none⟩,
      ⟨some 10, .mov (.t 78), none⟩]) .skip)))))
    (.cut (.reg [⟨some 79, .bin .add (.t 60) (.c (.int .i64 1)), none⟩,
      ⟨some 60, .mov (.t 79), none⟩])))))
def ir_chaselaw1_LettersBetween : IC :=
  (.seq (.reg [⟨some 2, .mov (.c (.bool false)), none⟩])
    (.seq (.reg [⟨some 14, .mov (.t 0), none⟩,
      ⟨some 15, .bld [.nl 1, .int .i64 0] [(0, 1, .t 14)], none⟩,
      ⟨some 16, .box 25 (.t 15), none⟩,
      ⟨some 3, .mov (.t 16), none⟩])
    (.seq (.reg [⟨some 17, .mov (.t 3), none⟩,
      ⟨some 18, .call 35 [.t 17, .c (.int .i64 6)], none⟩,
      ⟨some 4, .mov (.t 18), none⟩])
    (.seq (.reg [⟨some 19, .mov (.t 4), none⟩,
      ⟨some 20, .call 36 [.t 19], none⟩,
      ⟨some 5, .mov (.t 20), none⟩])
    (.seq (.seq (.reg [⟨some 21, .mov (.t 4), none⟩,
      ⟨some 22, .call 37 [.t 21], none⟩,
      ⟨some 23, .mov (.t 5), none⟩,
      ⟨some 24, .bin .neq (.t 22) (.t 23), none⟩])
    (.cond (.t 24) (.seq (.reg [⟨some 2, .mov (.c (.bool false)), none⟩])
    .ret) .skip))
    (.seq (.reg [⟨some 25, .mov (.t 3), none⟩,
      ⟨some 26, .bsl 1 [.c (.str [97, 110, 110, 64, 102, 105, 114, 109, 46, 100, 101]), .c (.str [98, 111, 64, 102, 105, 114, 109, 46, 100, 101]), .c (.str [108, 97, 119, 64, 111, 117, 114, 115, 46, 100, 101]), .c (.str [120])], none⟩,
      ⟨some 27, .call 38 [.t 25, .t 26], none⟩,
      ⟨some 28, .mov (.t 3), none⟩,
      ⟨some 29, .bsl 1 [.c (.str [98, 111, 64, 102, 105, 114, 109, 46, 100, 101]), .c (.str [99, 121, 64, 101, 108, 115, 101, 46, 100, 101]), .c (.str [])], none⟩,
      ⟨some 30, .call 38 [.t 28, .t 29], none⟩,
      ⟨some 6, .mov (.t 27), none⟩,
      ⟨some 7, .mov (.t 30), none⟩])
    (.seq (.reg [⟨some 32, .mov (.t 4), none⟩,
      ⟨some 33, .mov (.t 6), none⟩,
      ⟨some 34, .mov (.t 7), none⟩,
      ⟨none, .fz (.t 32), none⟩,
      ⟨none, .fz (.t 33), none⟩,
      ⟨none, .fz (.t 34), none⟩,
      ⟨some 35, .call 39 [.t 32, .t 33, .t 34], none⟩,
      ⟨some 31, .mov (.t 35), none⟩,
      ⟨some 36, .ext 0 (.t 31), none⟩,
      ⟨some 37, .ext 1 (.t 31), none⟩,
      ⟨some 8, .mov (.t 36), none⟩,
      ⟨some 9, .mov (.t 37), none⟩])
    (.seq (.seq (.reg [⟨some 38, .mov (.t 5), none⟩,
      ⟨some 39, .bin .eql (.t 38) (.c (.int .i64 0)), none⟩,
      ⟨some 40, .mov (.t 39), none⟩,
      ⟨some 41, .mov (.t 6), (some (40, true))⟩,
      ⟨some 42, .call 40 [.t 41], (some (40, true))⟩,
      ⟨some 43, .not (.t 42), (some (40, true))⟩,
      ⟨some 44, .mov (.t 43), (some (40, true))⟩,
      ⟨some 45, .mov (.t 7), (some (44, false))⟩,
      ⟨some 46, .call 40 [.t 45], (some (44, false))⟩,
      ⟨some 47, .not (.t 46), (some (44, false))⟩,
      ⟨some 48, .pick (.t 44) (.c (.bool true)) (.t 47), (some (40, true))⟩,
      ⟨some 49, .pick (.t 40) (.t 48) (.c (.bool false)), none⟩])
    (.cond (.t 49) (.reg [⟨some 5, .mov (.c (.int .i64 3)), none⟩]) .skip))
    (.cut (.seq (.seq (.reg [⟨some 50, .mov (.t 5), none⟩,
      ⟨some 51, .bin .neq (.t 50) (.c (.int .i64 0)), none⟩])
    (.cond (.t 51) (.seq (.reg [⟨some 52, .call 33 [], none⟩,
      ⟨some 53, .mov (.t 52), none⟩,
      ⟨some 54, .mov (.t 9), (some (53, true))⟩,
      ⟨some 55, .mov (.t 5), (some (53, true))⟩,
      ⟨some 56, .bin .eql (.t 54) (.t 55), (some (53, true))⟩,
      ⟨some 57, .pick (.t 53) (.t 56) (.c (.bool false)), none⟩,
      ⟨some 2, .mov (.t 57), none⟩])
    .ret) .skip))
    (.seq (.reg [⟨some 10, .nilr 3 1, none⟩])
    (.seq (.seq (.reg [⟨some 58, .mov (.t 4), none⟩,
      ⟨some 59, .len (.t 58), none⟩,
      ⟨some 60, .mov (.c (.int .i64 0)), none⟩])
    (.block 0 (.loop ir_chaselaw1_LettersBetween_L0)))
    (.seq (.reg [⟨some 80, .call 33 [], none⟩,
      ⟨some 81, .mov (.t 80), none⟩,
      ⟨some 82, .mov (.t 9), (some (81, true))⟩,
      ⟨some 83, .bin .eql (.t 82) (.c (.int .i64 0)), (some (81, true))⟩,
      ⟨some 84, .pick (.t 81) (.t 83) (.c (.bool false)), none⟩,
      ⟨some 85, .mov (.t 84), none⟩,
      ⟨some 86, .mov (.t 8), (some (85, true))⟩,
      ⟨some 87, .mov (.t 10), (some (85, true))⟩,
      ⟨some 88, .call 43 [.t 86, .t 87], (some (85, true))⟩,
      ⟨some 89, .pick (.t 85) (.t 88) (.c (.bool false)), none⟩,
      ⟨some 2, .mov (.t 89), none⟩])
    .ret)))))))))))))
def rs_chaselaw1_LettersBetween : List IRes := [.t 2]
theorem ck_chaselaw1_LettersBetween : chkF Tryz.prog Tryz.f6 ir_chaselaw1_LettersBetween rs_chaselaw1_LettersBetween 90 = true := by kernel_rfl

def lbA : List (List UInt8) := [[97, 110, 110, 64, 102, 105, 114, 109, 46, 100, 101], [98, 111, 64, 102, 105, 114, 109, 46, 100, 101], [108, 97, 119, 64, 111, 117, 114, 115, 46, 100, 101], [120]]
def lbB : List (List UInt8) := [[98, 111, 64, 102, 105, 114, 109, 46, 100, 101], [99, 121, 64, 101, 108, 115, 101, 46, 100, 101], []]
theorem lbA_len : ∀ s ∈ lbA, s.length ≤ 100 := by decide
theorem lbB_len : ∀ s ∈ lbB, s.length ≤ 100 := by decide
set_option maxHeartbeats 4000000 in
set_option maxRecDepth 100000 in
theorem lettersBetween_ok (z : List Int) (hl : z.length ≤ 9223372036854775807) : PCall Tryz.prog E6 6 [ints z] (· = .bool true) := by
  refine pcallF mixed Tryz.func6 ck_chaselaw1_LettersBetween ?_
  simp only [a0, l0, OS.ao, List.map_cons, List.map_nil, List.length_cons, List.length_nil, List.cons_append, List.nil_append, Nat.reduceSub, Nat.reduceAdd, List.replicate_succ, List.replicate_zero, ir_chaselaw1_LettersBetween, rs_chaselaw1_LettersBetween, ZZ, YY, Ze, ite_true, ite_false, forall_const, reduceCtorEq, Nat.reduceAdd, Nat.reduceMul, Nat.reduceLeDiff, Nat.reduceLT, Nat.reduceEqDiff]
  simp only [ints, ZZ, YY, Ze, ite_true, ite_false, forall_const, reduceCtorEq, Nat.reduceAdd, Nat.reduceMul, Nat.reduceLeDiff, Nat.reduceLT, Nat.reduceEqDiff]
  refine useSF (k := .l 16) (AnyLetters_ok z 0 6 (by omega) (by omega) hl) rfl rfl rfl (by simp only [ZZ, YY, Ze, ite_true, ite_false, forall_const, reduceCtorEq, Nat.reduceAdd, Nat.reduceMul, Nat.reduceLeDiff, Nat.reduceLT, Nat.reduceEqDiff]) ?_
  rintro es cs' ⟨u, k1, rfl, hu, hub, rfl, hk1⟩
  have hB : ∀ m ∈ u, LtB m := fun m hm => (hub m hm).big (by omega)
  simp only [ZZ, YY, Ze, ite_true, ite_false, forall_const, reduceCtorEq, Nat.reduceAdd, Nat.reduceMul, Nat.reduceLeDiff, Nat.reduceLT, Nat.reduceEqDiff]
  refine use1 (up6 (LettersFault_ok u hB)) rfl (.inr rfl) ?_
  simp only [ZZ, YY, Ze, ite_true, ite_false, forall_const, reduceCtorEq, Nat.reduceAdd, Nat.reduceMul, Nat.reduceLeDiff, Nat.reduceLT, Nat.reduceEqDiff]
  refine use1 (up6 (CheckMails_ok u hB)) rfl (.inr rfl) ?_
  simp only [ZZ, YY, Ze, ite_true, ite_false, forall_const, reduceCtorEq, Nat.reduceAdd, Nat.reduceMul, Nat.reduceLeDiff, Nat.reduceLT, Nat.reduceEqDiff]
  refine br (fun h => by simp at h) ?_
  intro _
  simp only [ZZ, YY, Ze, ite_true, ite_false, forall_const, reduceCtorEq, Nat.reduceAdd, Nat.reduceMul, Nat.reduceLeDiff, Nat.reduceLT, Nat.reduceEqDiff]
  refine useS (k := .l 16) (One_ok z k1 lbA (by omega) hl (by decide) (by decide)) rfl rfl rfl (by simp only [ZZ, YY, Ze, ite_true, ite_false, forall_const, reduceCtorEq, Nat.reduceAdd, Nat.reduceMul, Nat.reduceLeDiff, Nat.reduceLT, Nat.reduceEqDiff]) ?_
  rintro x cs' ⟨a, rfl, ha, rfl⟩
  have ha := lbA_len a ha
  simp only [ZZ, YY, Ze, ite_true, ite_false, forall_const, reduceCtorEq, Nat.reduceAdd, Nat.reduceMul, Nat.reduceLeDiff, Nat.reduceLT, Nat.reduceEqDiff]
  refine useS (k := .l 16) (One_ok z (k1 + 1) lbB (by omega) hl (by decide) (by decide)) rfl rfl rfl (by simp only [ZZ, YY, Ze, ite_true, ite_false, forall_const, reduceCtorEq, Nat.reduceAdd, Nat.reduceMul, Nat.reduceLeDiff, Nat.reduceLT, Nat.reduceEqDiff]) ?_
  rintro x cs' ⟨b, rfl, hb, rfl⟩
  have hb := lbB_len b hb
  simp only [ZZ, YY, Ze, ite_true, ite_false, forall_const, reduceCtorEq, Nat.reduceAdd, Nat.reduceMul, Nat.reduceLeDiff, Nat.reduceLT, Nat.reduceEqDiff]
  refine use1 (up6 (Between_ok u (by omega) hB a b (by omega) (by omega))) rfl (.inl rfl) ?_
  simp only [ZZ, YY, Ze, ite_true, ite_false, forall_const, reduceCtorEq, Nat.reduceAdd, Nat.reduceMul, Nat.reduceLeDiff, Nat.reduceLT, Nat.reduceEqDiff]
  refine useG (fun _ => up6 (MailOf_ok a (by omega))) rfl (.inl rfl) ?_
  simp only [ZZ, YY, Ze, ite_true, ite_false, forall_const, reduceCtorEq, Nat.reduceAdd, Nat.reduceMul, Nat.reduceLeDiff, Nat.reduceLT, Nat.reduceEqDiff]
  refine useG (fun _ => up6 (MailOf_ok b (by omega))) rfl (.inl rfl) ?_
  simp only [ZZ, YY, Ze, ite_true, ite_false, forall_const, reduceCtorEq, Nat.reduceAdd, Nat.reduceMul, Nat.reduceLeDiff, Nat.reduceLT, Nat.reduceEqDiff]
  refine ⟨fun h => ⟨h, fun h2 => by rw [h, h2]; rfl⟩, ?_⟩
  refine br_join (fun fr L => fr = [.any, .any, .any, .any, .p (.sl 9 (ltE u)), .p (int (btE u a b)), .p (.str a), .p (.str b), .p (.sl 1 (inE1 (if btE u a b = 0 then btF u a b u.length else []))), .p (int (btE u a b)), .any, .any, .any, .any, .any, .any, .any, .any, .any, .any, .any, .any, .any, .any, .any, .any, .any, .any, .any, .any, .any, .any, .any, .any, .any, .any, .any, .any, .any, .any, .any, .any, .any, .any, .any, .any, .any, .any, .any, .any, .any, .any, .any, .any, .any, .any, .any, .any, .any, .any, .any, .any, .any, .any, .any, .any, .any, .any, .any, .any, .any, .any, .any, .any, .any, .any, .any, .any, .any, .any, .any, .any, .any, .any, .any, .any, .any, .any, .any, .any] ∧ L = []) ?_ ?_ ?_
  · intro h
    rw [Bool.and_eq_true] at h
    have h0 := of_decide_eq_true h.1
    have hE : btE u a b = 3 := by rw [btE, h0, h.2]; rfl
    simp only [ZZ, YY, Ze, ite_true, ite_false, forall_const, reduceCtorEq, Nat.reduceAdd, Nat.reduceMul, Nat.reduceLeDiff, Nat.reduceLT, Nat.reduceEqDiff]
    exact to_mid [.any, .any, .any, .any, .p (.sl 9 (ltE u)), .p (int (btE u a b)), .p (.str a), .p (.str b), .p (.sl 1 (inE1 (if btE u a b = 0 then btF u a b u.length else []))), .p (int (btE u a b)), .any, .any, .any, .any, .any, .any, .any, .any, .any, .any, .any, .any, .any, .any, .any, .any, .any, .any, .any, .any, .any, .any, .any, .any, .any, .any, .any, .any, .any, .any, .any, .any, .any, .any, .any, .any, .any, .any, .any, .any, .any, .any, .any, .any, .any, .any, .any, .any, .any, .any, .any, .any, .any, .any, .any, .any, .any, .any, .any, .any, .any, .any, .any, .any, .any, .any, .any, .any, .any, .any, .any, .any, .any, .any, .any, .any, .any, .any, .any, .any] [] (by rw [hE]; (simp only [ZZ, YY, Ze, ite_true, ite_false, forall_const, reduceCtorEq, Nat.reduceAdd, Nat.reduceMul, Nat.reduceLeDiff, Nat.reduceLT, Nat.reduceEqDiff]; try trivial)) (by simp only [ZZ, YY, Ze, ite_true, ite_false, forall_const, reduceCtorEq, Nat.reduceAdd, Nat.reduceMul, Nat.reduceLeDiff, Nat.reduceLT, Nat.reduceEqDiff]) ⟨rfl, rfl⟩
  · intro h
    have hE : btE u a b = ltsF u := by
      rw [btE, firstE_cons, firstE_cons, firstE_nil]
      by_cases h0 : ltsF u = 0
      · have h2 : (!mailF a || !mailF b) = false := by simpa [h0] using h
        rw [if_pos h0, h2, h0]
        rfl
      · rw [if_neg h0]
    simp only [ZZ, YY, Ze, ite_true, ite_false, forall_const, reduceCtorEq, Nat.reduceAdd, Nat.reduceMul, Nat.reduceLeDiff, Nat.reduceLT, Nat.reduceEqDiff]
    exact to_mid [.any, .any, .any, .any, .p (.sl 9 (ltE u)), .p (int (btE u a b)), .p (.str a), .p (.str b), .p (.sl 1 (inE1 (if btE u a b = 0 then btF u a b u.length else []))), .p (int (btE u a b)), .any, .any, .any, .any, .any, .any, .any, .any, .any, .any, .any, .any, .any, .any, .any, .any, .any, .any, .any, .any, .any, .any, .any, .any, .any, .any, .any, .any, .any, .any, .any, .any, .any, .any, .any, .any, .any, .any, .any, .any, .any, .any, .any, .any, .any, .any, .any, .any, .any, .any, .any, .any, .any, .any, .any, .any, .any, .any, .any, .any, .any, .any, .any, .any, .any, .any, .any, .any, .any, .any, .any, .any, .any, .any, .any, .any, .any, .any, .any, .any] [] (by rw [hE]; (simp only [ZZ, YY, Ze, ite_true, ite_false, forall_const, reduceCtorEq, Nat.reduceAdd, Nat.reduceMul, Nat.reduceLeDiff, Nat.reduceLT, Nat.reduceEqDiff]; try trivial)) (by simp only [ZZ, YY, Ze, ite_true, ite_false, forall_const, reduceCtorEq, Nat.reduceAdd, Nat.reduceMul, Nat.reduceLeDiff, Nat.reduceLT, Nat.reduceEqDiff]) ⟨rfl, rfl⟩
  rintro fr L ⟨rfl, rfl⟩
  simp only [ZZ, YY, Ze, ite_true, ite_false, forall_const, reduceCtorEq, Nat.reduceAdd, Nat.reduceMul, Nat.reduceLeDiff, Nat.reduceLT, Nat.reduceEqDiff]
  refine br ?_ ?_
  · intro h
    simp only [ZZ, YY, Ze, ite_true, ite_false, forall_const, reduceCtorEq, Nat.reduceAdd, Nat.reduceMul, Nat.reduceLeDiff, Nat.reduceLT, Nat.reduceEqDiff]
    refine use1 (up6 threads_ok) rfl (.inl rfl) ?_
    simp only [ZZ, YY, Ze, ite_true, ite_false, forall_const, reduceCtorEq, Nat.reduceAdd, Nat.reduceMul, Nat.reduceLeDiff, Nat.reduceLT, Nat.reduceEqDiff]
    simp
  intro h
  have h0 : btE u a b = 0 := by simpa using h
  rw [h0, if_pos rfl]
  clear h
  simp only [ZZ, YY, Ze, ite_true, ite_false, forall_const, reduceCtorEq, Nat.reduceAdd, Nat.reduceMul, Nat.reduceLeDiff, Nat.reduceLT, Nat.reduceEqDiff, ltE_len]
  have hR0 : ([] : List (List PV)) = inE1 (btF u a b 0) := rfl
  rw [hR0]
  refine loop_intro (fun n fr L => ∃ (k : Nat), k ≤ u.length ∧ n = u.length - k ∧ fr = [.any, .any, .any, .any, .any, .any, .p (.str a), .p (.str b), .p (.sl 1 (inE1 (btF u a b u.length))), .p (int 0), .row (.l 10), .any, .any, .any, .any, .any, .any, .any, .any, .any, .any, .any, .any, .any, .any, .any, .any, .any, .any, .any, .any, .any, .any, .any, .any, .any, .any, .any, .any, .any, .any, .any, .any, .any, .any, .any, .any, .any, .any, .any, .any, .any, .any, .any, .any, .any, .any, .any, .p (.sl 9 (ltE u)), .p (int (u.length : Nat)), .p (int (k : Nat)), .any, .any, .any, .any, .any, .any, .any, .any, .any, .any, .any, .any, .any, .any, .any, .any, .any, .any, .any, .any, .any, .any, .any, .any, .any, .any, .any, .any, .any] ∧ L = [(.l 10, .row (inE1 (btF u a b k)) tIntW 1 true)]) (u.length) [.any, .any, .any, .any, .any, .any, .p (.str a), .p (.str b), .p (.sl 1 (inE1 (btF u a b u.length))), .p (int 0), .row (.l 10), .any, .any, .any, .any, .any, .any, .any, .any, .any, .any, .any, .any, .any, .any, .any, .any, .any, .any, .any, .any, .any, .any, .any, .any, .any, .any, .any, .any, .any, .any, .any, .any, .any, .any, .any, .any, .any, .any, .any, .any, .any, .any, .any, .any, .any, .any, .any, .p (.sl 9 (ltE u)), .p (int (u.length : Nat)), .p (int (0 : Nat)), .any, .any, .any, .any, .any, .any, .any, .any, .any, .any, .any, .any, .any, .any, .any, .any, .any, .any, .any, .any, .any, .any, .any, .any, .any, .any, .any, .any, .any] [(.l 10, .row (inE1 (btF u a b 0)) tIntW 1 true)] (by simp only [ZZ, YY, Ze, ite_true, ite_false, forall_const, reduceCtorEq, Nat.reduceAdd, Nat.reduceMul, Nat.reduceLeDiff, Nat.reduceLT, Nat.reduceEqDiff, ltE_len]; try trivial) (by (simp only [ZZ, YY, Ze, ite_true, ite_false, forall_const, reduceCtorEq, Nat.reduceAdd, Nat.reduceMul, Nat.reduceLeDiff, Nat.reduceLT, Nat.reduceEqDiff]; try trivial)) ⟨0, by omega, by omega, rfl, rfl⟩ ?_
  rintro n fr L ⟨k, hk, rfl, rfl, rfl⟩
  simp only [ir_chaselaw1_LettersBetween_L0, ZZ, YY, Ze, ite_true, ite_false, forall_const, reduceCtorEq, Nat.reduceAdd, Nat.reduceMul, Nat.reduceLeDiff, Nat.reduceLT, Nat.reduceEqDiff]
  refine br ?_ ?_
  · intro h
    have hlt : k < u.length := by have := of_decide_eq_true h; omega
    obtain ⟨x, hx⟩ : ∃ x, u[k]? = some x := ⟨_, List.getElem?_eq_getElem hlt⟩
    have hg := ltE_get hx
    simp only [ltV] at hg
    have hxd : u.getD k lt0 = x := by simp [List.getD, hx]
    have hbx := hB x (List.mem_of_getElem? hx)
    have hfl := btF_len u a b k
    have hsc := btF_succ u a b k
    have hpl : (sortF (ptsOf x)).length ≤ 1000000 := by
      have h1 := sortF_leW (ptsOf x)
      have h2 : (ptsOf x).length = x.tos.length + x.ccs.length + 1 := by simp [ptsOf]
      have h3 := hbx.2.2.2.1
      have h4 := hbx.2.2.2.2.2.1
      omega
    have e1 : decide (a ∈ sortF (ptsOf x)) = decide (a ∈ ptsOf x) := decide_eq_decide.2 (sortF_memW _ _)
    have e2 : decide (b ∈ sortF (ptsOf x)) = decide (b ∈ ptsOf x) := decide_eq_decide.2 (sortF_memW _ _)
    have hp : ptB u a b k = (decide (a ∈ ptsOf x) && decide (b ∈ ptsOf x)) := by rw [ptB, hxd]
    simp only [ZZ, YY, Ze, ite_true, ite_false, forall_const, reduceCtorEq, Nat.reduceAdd, Nat.reduceMul, Nat.reduceLeDiff, Nat.reduceLT, Nat.reduceEqDiff, hg, ltE_len]
    ((repeat' (with_reducible apply And.intro)) <;> try ((first | first | assumption | trivial | exact (fun hq => by rw [hq]; rfl) | exact i64_of (by omega) (by omega) | omega | (simp; done) | (simp; omega) | (intro hsc; have hs0 := hsc; (try have hsd := of_decide_eq_true hsc); (try simp only [Bool.not_eq_true', Bool.or_eq_false_iff, Bool.and_eq_true, Bool.or_eq_true, decide_eq_true_eq, decide_eq_false_iff_not] at hsc); (repeat' (with_reducible apply And.intro)) <;> (first | assumption | trivial | exact (fun hq => by rw [hq]; rfl) | exact i64_of (by omega) (by omega) | omega | (simp; done) | (simp; omega) | (intro hse; simp [hse, hs0]; done) | (intro hse; simp only [hse, hs0, Bool.true_and, Bool.and_true, Bool.not_false, Bool.not_true, Bool.and_self]; done))))))
    refine use1 (PartiesOf_ok x hbx) rfl (.inl rfl) ?_
    simp only [ZZ, YY, Ze, ite_true, ite_false, forall_const, reduceCtorEq, Nat.reduceAdd, Nat.reduceMul, Nat.reduceLeDiff, Nat.reduceLT, Nat.reduceEqDiff]
    refine use1 (up6 (ContainsS_ok (sortF (ptsOf x)) a (by omega))) rfl (.inl rfl) ?_
    simp only [ZZ, YY, Ze, ite_true, ite_false, forall_const, reduceCtorEq, Nat.reduceAdd, Nat.reduceMul, Nat.reduceLeDiff, Nat.reduceLT, Nat.reduceEqDiff]
    refine useG (fun _ => up6 (ContainsS_ok (sortF (ptsOf x)) b (by omega))) rfl (.inl rfl) ?_
    simp only [ZZ, YY, Ze, ite_true, ite_false, forall_const, reduceCtorEq, Nat.reduceAdd, Nat.reduceMul, Nat.reduceLeDiff, Nat.reduceLT, Nat.reduceEqDiff]
    rw [e1, e2, ← hp]
    refine br ?_ ?_
    · intro hq
      rw [if_pos hq] at hsc
      simp only [ZZ, YY, Ze, ite_true, ite_false, forall_const, reduceCtorEq, Nat.reduceAdd, Nat.reduceMul, Nat.reduceLeDiff, Nat.reduceLT, Nat.reduceEqDiff, inE1_len]
      ((repeat' (with_reducible apply And.intro)) <;> try ((first | first | assumption | trivial | exact (fun hq => by rw [hq]; rfl) | exact i64_of (by omega) (by omega) | omega | (simp; done) | (simp; omega) | (intro hsc; have hs0 := hsc; (try have hsd := of_decide_eq_true hsc); (try simp only [Bool.not_eq_true', Bool.or_eq_false_iff, Bool.and_eq_true, Bool.or_eq_true, decide_eq_true_eq, decide_eq_false_iff_not] at hsc); (repeat' (with_reducible apply And.intro)) <;> (first | assumption | trivial | exact (fun hq => by rw [hq]; rfl) | exact i64_of (by omega) (by omega) | omega | (simp; done) | (simp; omega) | (intro hse; simp [hse, hs0]; done) | (intro hse; simp only [hse, hs0, Bool.true_and, Bool.and_true, Bool.not_false, Bool.not_true, Bool.and_self]; done))))))
      refine cut_same (by simp only [ZZ, YY, Ze, ite_true, ite_false, forall_const, reduceCtorEq, Nat.reduceAdd, Nat.reduceMul, Nat.reduceLeDiff, Nat.reduceLT, Nat.reduceEqDiff]) ?_
      simp only [ZZ, YY, Ze, ite_true, ite_false, forall_const, reduceCtorEq, Nat.reduceAdd, Nat.reduceMul, Nat.reduceLeDiff, Nat.reduceLT, Nat.reduceEqDiff]
      ((repeat' (with_reducible apply And.intro)) <;> try ((first | first | assumption | trivial | exact (fun hq => by rw [hq]; rfl) | exact i64_of (by omega) (by omega) | omega | (simp; done) | (simp; omega) | (intro hsc; have hs0 := hsc; (try have hsd := of_decide_eq_true hsc); (try simp only [Bool.not_eq_true', Bool.or_eq_false_iff, Bool.and_eq_true, Bool.or_eq_true, decide_eq_true_eq, decide_eq_false_iff_not] at hsc); (repeat' (with_reducible apply And.intro)) <;> (first | assumption | trivial | exact (fun hq => by rw [hq]; rfl) | exact i64_of (by omega) (by omega) | omega | (simp; done) | (simp; omega) | (intro hse; simp [hse, hs0]; done) | (intro hse; simp only [hse, hs0, Bool.true_and, Bool.and_true, Bool.not_false, Bool.not_true, Bool.and_self]; done))))))
      rw [inE1_app, ← hsc]
      refine end_round (u.length - (k + 1)) [.any, .any, .any, .any, .any, .any, .p (.str a), .p (.str b), .p (.sl 1 (inE1 (btF u a b u.length))), .p (int 0), .row (.l 10), .any, .any, .any, .any, .any, .any, .any, .any, .any, .any, .any, .any, .any, .any, .any, .any, .any, .any, .any, .any, .any, .any, .any, .any, .any, .any, .any, .any, .any, .any, .any, .any, .any, .any, .any, .any, .any, .any, .any, .any, .any, .any, .any, .any, .any, .any, .any, .p (.sl 9 (ltE u)), .p (int (u.length : Nat)), .p (int ((k + 1) : Nat)), .any, .any, .any, .any, .any, .any, .any, .any, .any, .any, .any, .any, .any, .any, .any, .any, .any, .any, .any, .any, .any, .any, .any, .any, .any, .any, .any, .any, .any] [(.l 10, .row (inE1 (btF u a b (k + 1))) tIntW 1 true)] (by omega) (by (simp only [ZZ, YY, Ze, ite_true, ite_false, forall_const, reduceCtorEq, Nat.reduceAdd, Nat.reduceMul, Nat.reduceLeDiff, Nat.reduceLT, Nat.reduceEqDiff]; try trivial)) (by (simp only [ZZ, YY, Ze, ite_true, ite_false, forall_const, reduceCtorEq, Nat.reduceAdd, Nat.reduceMul, Nat.reduceLeDiff, Nat.reduceLT, Nat.reduceEqDiff]; try trivial)) ⟨k + 1, by omega, rfl, rfl, rfl⟩
    · intro hq
      rw [if_neg (by rw [hq]; decide), List.append_nil] at hsc
      simp only [ZZ, YY, Ze, ite_true, ite_false, forall_const, reduceCtorEq, Nat.reduceAdd, Nat.reduceMul, Nat.reduceLeDiff, Nat.reduceLT, Nat.reduceEqDiff]
      refine cut_same (by simp only [ZZ, YY, Ze, ite_true, ite_false, forall_const, reduceCtorEq, Nat.reduceAdd, Nat.reduceMul, Nat.reduceLeDiff, Nat.reduceLT, Nat.reduceEqDiff]) ?_
      simp only [ZZ, YY, Ze, ite_true, ite_false, forall_const, reduceCtorEq, Nat.reduceAdd, Nat.reduceMul, Nat.reduceLeDiff, Nat.reduceLT, Nat.reduceEqDiff]
      ((repeat' (with_reducible apply And.intro)) <;> try ((first | first | assumption | trivial | exact (fun hq => by rw [hq]; rfl) | exact i64_of (by omega) (by omega) | omega | (simp; done) | (simp; omega) | (intro hsc; have hs0 := hsc; (try have hsd := of_decide_eq_true hsc); (try simp only [Bool.not_eq_true', Bool.or_eq_false_iff, Bool.and_eq_true, Bool.or_eq_true, decide_eq_true_eq, decide_eq_false_iff_not] at hsc); (repeat' (with_reducible apply And.intro)) <;> (first | assumption | trivial | exact (fun hq => by rw [hq]; rfl) | exact i64_of (by omega) (by omega) | omega | (simp; done) | (simp; omega) | (intro hse; simp [hse, hs0]; done) | (intro hse; simp only [hse, hs0, Bool.true_and, Bool.and_true, Bool.not_false, Bool.not_true, Bool.and_self]; done))))))
      rw [← hsc]
      refine end_round (u.length - (k + 1)) [.any, .any, .any, .any, .any, .any, .p (.str a), .p (.str b), .p (.sl 1 (inE1 (btF u a b u.length))), .p (int 0), .row (.l 10), .any, .any, .any, .any, .any, .any, .any, .any, .any, .any, .any, .any, .any, .any, .any, .any, .any, .any, .any, .any, .any, .any, .any, .any, .any, .any, .any, .any, .any, .any, .any, .any, .any, .any, .any, .any, .any, .any, .any, .any, .any, .any, .any, .any, .any, .any, .any, .p (.sl 9 (ltE u)), .p (int (u.length : Nat)), .p (int ((k + 1) : Nat)), .any, .any, .any, .any, .any, .any, .any, .any, .any, .any, .any, .any, .any, .any, .any, .any, .any, .any, .any, .any, .any, .any, .any, .any, .any, .any, .any, .any, .any] [(.l 10, .row (inE1 (btF u a b (k + 1))) tIntW 1 true)] (by omega) (by (simp only [ZZ, YY, Ze, ite_true, ite_false, forall_const, reduceCtorEq, Nat.reduceAdd, Nat.reduceMul, Nat.reduceLeDiff, Nat.reduceLT, Nat.reduceEqDiff]; try trivial)) (by (simp only [ZZ, YY, Ze, ite_true, ite_false, forall_const, reduceCtorEq, Nat.reduceAdd, Nat.reduceMul, Nat.reduceLeDiff, Nat.reduceLT, Nat.reduceEqDiff]; try trivial)) ⟨k + 1, by omega, rfl, rfl, rfl⟩
  intro h
  have hge : u.length = k := by have := of_decide_eq_false h; omega
  subst hge
  have hfl := btF_len u a b u.length
  simp only [ZZ, YY, Ze, ite_true, ite_false, forall_const, reduceCtorEq, Nat.reduceAdd, Nat.reduceMul, Nat.reduceLeDiff, Nat.reduceLT, Nat.reduceEqDiff]
  refine use1 (up6 threads_ok) rfl (.inl rfl) ?_
  simp only [ZZ, YY, Ze, ite_true, ite_false, forall_const, reduceCtorEq, Nat.reduceAdd, Nat.reduceMul, Nat.reduceLeDiff, Nat.reduceLT, Nat.reduceEqDiff]
  refine useG (fun _ => EqualI_ok (btF u a b u.length) (btF u a b u.length) (by omega)) rfl (.inr rfl) ?_
  simp only [ZZ, YY, Ze, ite_true, ite_false, forall_const, reduceCtorEq, Nat.reduceAdd, Nat.reduceMul, Nat.reduceLeDiff, Nat.reduceLT, Nat.reduceEqDiff]
  simp
theorem lettersBetween_walk (a0 : Option Addr) (len0 cap0 : Nat) (z0 : List Int) (w : World) (h0 : IsRow .i64 w a0 len0 cap0 z0) (he : E6.ok w ∧ ∀ b, E6.bl b → b < w.heap.size) :
    Calls Tryz.prog 6 #[.slice a0 len0 cap0] w fun e w' => e = .returned (.bool true) ∧ Below w.heap.size w w' :=
  walk_of lettersBetween_ok a0 len0 cap0 z0 w h0 he.1 he.2
end Go.Proofs.YtidmphcocnaonaaGreatDoor
