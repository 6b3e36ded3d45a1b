
/- Own texts, put together: W7 W8 W9 N9. -/
import Derived.Test.YtidmphcocnaonaaGreatDoorZ9
import Derived.Test.YtidmphcocnaonaaGreatDoorZ7
import Derived.Test.YtidmphcocnaonaaGreatDoorZ6
import Derived.Test.YtidmphcocnaonaaGreatDoorZ4
import Derived.Test.YtidmphcocnaonaaGreatDoorLayFields
import Derived.Shelf.Strings.SplitShaped
/- Parties of letters, and letters between two addresses. -/
namespace Go.Proofs.YtidmphcocnaonaaGreatDoor
open Go.RowKit
set_option linter.unusedVariables false
set_option linter.unusedSimpArgs false
set_option linter.defProp false

/- paperchase/thread.parties -/
def ir_thread_parties_L0 : IC :=
  (.seq (.reg [⟨some 19, .bin .lss (.t 18) (.t 17), none⟩])
    (.seq (.cond (.t 19) .skip (.exit 0))
    (.seq (.block 1 (.seq (.reg [⟨some 20, .ixa 2 (.t 16) (.t 18), none⟩,
      ⟨some 21, .ld 2 true (.t 20), none⟩,
      ⟨some 5, .alc 71 [.str [], .str []], none⟩,
      ⟨none, .st 2 (.t 5) (.t 21), none⟩])
    (.reg [⟨some 22, .mov (.t 3), none⟩,
      ⟨some 23, .fla 1 (.t 5), none⟩,
      ⟨some 24, .ld 1 false (.t 23), none⟩,
      ⟨none, .mpu (.t 22) (.t 24) (.c (.bool true)), none⟩])))
    (.reg [⟨some 25, .bin .add (.t 18) (.c (.int .i64 1)), none⟩,
      ⟨some 18, .mov (.t 25), none⟩]))))
def ir_thread_parties : IC :=
  (.seq (.reg [⟨some 1, .box 74 (.t 0), none⟩,
      ⟨some 2, .mov (.c (.raw (.map none))), none⟩])
    (.seq (.reg [⟨some 6, .mkm 9 4, none⟩,
      ⟨some 7, .fla 2 (.t 1), none⟩,
      ⟨some 8, .fla 1 (.t 7), none⟩,
      ⟨some 9, .ld 1 false (.t 8), none⟩,
      ⟨none, .mpu (.t 6) (.t 9) (.c (.bool true)), none⟩,
      ⟨some 10, .mov (.t 6), none⟩,
      ⟨some 3, .mov (.t 10), none⟩])
    (.seq (.seq (.reg [⟨some 11, .fla 4 (.t 1), none⟩,
      ⟨some 12, .ld 1 false (.t 11), none⟩,
      ⟨some 13, .fla 5 (.t 1), none⟩,
      ⟨some 14, .ld 1 false (.t 13), none⟩,
      ⟨some 15, .bsl 1 [.t 12, .t 14], none⟩,
      ⟨some 16, .call 117 [.t 15], none⟩,
      ⟨some 17, .len (.t 16), none⟩,
      ⟨some 18, .mov (.c (.int .i64 0)), none⟩])
    (.block 0 (.loop ir_thread_parties_L0)))
    (.seq (.reg [⟨some 26, .mov (.t 3), none⟩,
      ⟨some 2, .mov (.t 26), none⟩])
    .ret))))
def rs_thread_parties : List IRes := [.t 2]
theorem ck_thread_parties : chkF Tryz.prog Tryz.f114 ir_thread_parties rs_thread_parties 27 = true := by kernel_rfl
/- paperchase/chaseref1.PartiesOf -/
def ir_chaseref1_PartiesOf_L0 : IC :=
  (.seq (.reg [⟨some 18, .bin .lss (.t 17) (.t 16), none⟩])
    (.seq (.cond (.t 18) .skip (.exit 0))
    (.seq (.block 1 (.seq (.reg [⟨some 19, .ixa 2 (.t 15) (.t 17), none⟩,
      ⟨some 20, .ld 2 true (.t 19), none⟩,
      ⟨some 5, .alc 71 [.str [], .str []], none⟩,
      ⟨none, .st 2 (.t 5) (.t 20), none⟩])
    (.reg [⟨some 21, .mov (.t 3), none⟩,
      ⟨some 22, .fla 1 (.t 5), none⟩,
      ⟨some 23, .ld 1 false (.t 22), none⟩,
      ⟨some 24, .bsl 1 [.t 23], none⟩,
      ⟨some 25, .app 9 1 16 (.t 21) (.t 24), none⟩,
      ⟨some 3, .mov (.t 25), none⟩])))
    (.reg [⟨some 26, .bin .add (.t 17) (.c (.int .i64 1)), none⟩,
      ⟨some 17, .mov (.t 26), none⟩]))))
def ir_chaseref1_PartiesOf : IC :=
  (.seq (.reg [⟨some 1, .box 74 (.t 0), none⟩,
      ⟨some 2, .mov (.c (.nl 1)), none⟩])
    (.seq (.reg [⟨some 6, .fla 2 (.t 1), none⟩,
      ⟨some 7, .fla 1 (.t 6), none⟩,
      ⟨some 8, .ld 1 false (.t 7), none⟩,
      ⟨some 9, .bsr 9 1 [.t 8], none⟩,
      ⟨some 3, .mov (.t 9), none⟩])
    (.seq (.seq (.reg [⟨some 10, .fla 4 (.t 1), none⟩,
      ⟨some 11, .ld 1 false (.t 10), none⟩,
      ⟨some 12, .fla 5 (.t 1), none⟩,
      ⟨some 13, .ld 1 false (.t 12), none⟩,
      ⟨some 14, .bsl 1 [.t 11, .t 13], none⟩,
      ⟨some 15, .call 117 [.t 14], none⟩,
      ⟨some 16, .len (.t 15), none⟩,
      ⟨some 17, .mov (.c (.int .i64 0)), none⟩])
    (.block 0 (.loop ir_chaseref1_PartiesOf_L0)))
    (.seq (.reg [⟨some 27, .mov (.t 3), none⟩,
      ⟨none, .fz (.t 27), none⟩,
      ⟨some 28, .call 118 [.t 27], none⟩,
      ⟨some 2, .mov (.t 28), none⟩])
    .ret))))
def rs_chaseref1_PartiesOf : List IRes := [.t 2]
theorem ck_chaseref1_PartiesOf : chkF Tryz.prog Tryz.f41 ir_chaseref1_PartiesOf rs_chaseref1_PartiesOf 29 = true := by kernel_rfl
/- paperchase/thread.Between -/
def ir_thread_Between_L0 : IC :=
  (.seq (.reg [⟨some 32, .bin .lss (.t 31) (.t 30), none⟩])
    (.seq (.cond (.t 32) .skip (.exit 0))
    (.seq (.block 1 (.seq (.reg [⟨some 33, .mov (.t 31), none⟩,
      ⟨some 34, .ixa 9 (.t 29) (.t 31), none⟩,
      ⟨some 35, .ld 9 true (.t 34), none⟩,
      ⟨some 11, .alc 74 [.str [], .int .i64 0, .str [], .str [], .nl 2, .nl 2, .nl 1, .str [], .str []], none⟩,
      ⟨some 10, .mov (.t 33), none⟩,
      ⟨none, .st 9 (.t 11) (.t 35), none⟩])
    (.seq (.reg [⟨some 36, .ld 9 true (.t 11), none⟩,
      ⟨some 37, .call 114 [.t 36], none⟩,
      ⟨some 12, .mov (.t 37), none⟩])
    (.seq (.reg [⟨some 38, .mov (.t 12), none⟩,
      ⟨some 39, .mov (.t 1), none⟩,
      ⟨some 40, .mpl false (.bool false) (.t 38) (.t 39), none⟩,
      ⟨some 41, .mov (.t 40), none⟩,
      ⟨some 42, .mov (.t 12), (some (41, true))⟩,
      ⟨some 43, .mov (.t 2), (some (41, true))⟩,
      ⟨some 44, .mpl false (.bool false) (.t 42) (.t 43), (some (41, true))⟩,
      ⟨some 45, .pick (.t 41) (.t 44) (.c (.bool false)), none⟩])
    (.cond (.t 45) (.reg [⟨some 46, .mov (.t 9), none⟩,
      ⟨some 47, .mov (.t 10), none⟩,
      ⟨some 48, .bsl 1 [.t 47], none⟩,
      ⟨some 49, .app 3 1 8 (.t 46) (.t 48), none⟩,
      ⟨some 9, .mov (.t 49), none⟩]) .skip)))))
    (.cut (.reg [⟨some 50, .bin .add (.t 31) (.c (.int .i64 1)), none⟩,
      ⟨some 31, .mov (.t 50), none⟩])))))
def ir_thread_Between : IC :=
  (.seq (.reg [⟨some 6, .mov (.c (.nl 1)), none⟩,
      ⟨some 7, .mov (.c (.int .i64 0)), none⟩])
    (.seq (.seq (.reg [⟨some 13, .mov (.t 0), none⟩,
      ⟨some 14, .call 37 [.t 13], none⟩,
      ⟨some 15, .mov (.t 1), none⟩,
      ⟨some 16, .call 113 [.t 15], none⟩,
      ⟨some 17, .not (.t 16), none⟩,
      ⟨some 18, .mov (.t 17), none⟩,
      ⟨some 19, .mov (.t 2), (some (18, false))⟩,
      ⟨some 20, .call 113 [.t 19], (some (18, false))⟩,
      ⟨some 21, .not (.t 20), (some (18, false))⟩,
      ⟨some 22, .pick (.t 18) (.c (.bool true)) (.t 21), none⟩,
      ⟨some 23, .call 69 [.t 22, .c (.int .i64 3)], none⟩,
      ⟨some 24, .bsl 1 [.t 14, .t 23], none⟩,
      ⟨some 25, .call 66 [.t 24], none⟩,
      ⟨some 8, .mov (.t 25), none⟩])
    (.seq (.reg [⟨some 26, .mov (.t 8), none⟩,
      ⟨some 27, .bin .neq (.t 26) (.c (.int .i64 0)), none⟩])
    (.cond (.t 27) (.seq (.reg [⟨some 28, .mov (.t 8), none⟩,
      ⟨some 6, .mov (.c (.nl 1)), none⟩,
      ⟨some 7, .mov (.t 28), none⟩])
    .ret) .skip)))
    (.seq (.reg [⟨some 9, .nilr 3 1, none⟩])
    (.seq (.seq (.reg [⟨some 29, .mov (.t 0), none⟩,
      ⟨some 30, .len (.t 29), none⟩,
      ⟨some 31, .mov (.c (.int .i64 0)), none⟩])
    (.block 0 (.loop ir_thread_Between_L0)))
    (.seq (.reg [⟨some 51, .mov (.t 9), none⟩,
      ⟨some 6, .mov (.t 51), none⟩,
      ⟨some 7, .mov (.c (.int .i64 0)), none⟩])
    .ret)))))
def rs_thread_Between : List IRes := [.t 6, .t 7]
theorem ck_thread_Between : chkF Tryz.prog Tryz.f39 ir_thread_Between rs_thread_Between 52 = true := by kernel_rfl

theorem zip_kv {α β : Type} : ∀ kv : List (α × β), (kv.map (·.1)).zip (kv.map (·.2)) = kv
  | [] => rfl
  | p :: r => by simp only [List.map_cons, List.zip_cons_cons, zip_kv r]
theorem parties_ok {E : Envt} (m : Ltr) (hm : LtB m) : PCall Tryz.prog E 114 [.agg (ltV m)] (fun x => ∃ kv : List (List UInt8 × PV), x = .mpv (kv.map (·.1)) (kv.map (·.2)) ∧ setOf kv (ptsOf m)) := by
  obtain ⟨b1, b2, b3, b4, b5, b6, b7, b8, b9, b10, b11⟩ := hm
  refine pcallF mixed Tryz.func114 ck_thread_parties ?_
  simp only [a0, l0, OS.ao, List.map_cons, List.map_nil, List.length_cons, List.length_nil, List.cons_append, List.nil_append, Nat.reduceSub, Nat.reduceAdd, List.replicate_succ, List.replicate_zero, ir_thread_parties, rs_thread_parties, ZZ, YY, Ze, ite_true, ite_false, forall_const, reduceCtorEq, Nat.reduceAdd, Nat.reduceMul, Nat.reduceLeDiff, Nat.reduceLT, Nat.reduceEqDiff]
  simp only [ltV, ZZ, YY, Ze, ite_true, ite_false, forall_const, reduceCtorEq, Nat.reduceAdd, Nat.reduceMul, Nat.reduceLeDiff, Nat.reduceLT, Nat.reduceEqDiff]
  refine useF (ConcatA_ok [m.tos, m.ccs] (by simp) (by simp [lenSA]; omega)) rfl rfl ?_
  rintro es rfl
  rw [cat2]
  have hAl : (m.tos ++ m.ccs).length ≤ 200000 := by simp; omega
  unfold ptsOf
  generalize m.tos ++ m.ccs = A at *
  simp only [ZZ, YY, Ze, ite_true, ite_false, forall_const, reduceCtorEq, Nat.reduceAdd, Nat.reduceMul, Nat.reduceLeDiff, Nat.reduceLT, Nat.reduceEqDiff, adrE_len]
  refine loop_intro (fun n fr L => ∃ (k : Nat) (kv : List (List UInt8 × PV)), k ≤ A.length ∧ n = A.length - k ∧ (setOf kv (m.fr.2 :: (A.take k).map (·.2))) ∧ fr = [.any, .any, .any, .mp (.l 6), .any, .any, .any, .any, .any, .any, .any, .any, .any, .any, .any, .any, .row (.l 16), .p (int (A.length : Nat)), .p (int (k : Nat)), .any, .any, .any, .any, .any, .any, .any, .any] ∧ L = [(.l 6, .map kv 9 4), (.l 16, .row (adrE A) tAdr 2 true)]) (A.length) [.any, .any, .any, .mp (.l 6), .any, .any, .any, .any, .any, .any, .any, .any, .any, .any, .any, .any, .row (.l 16), .p (int (A.length : Nat)), .p (int (0 : Nat)), .any, .any, .any, .any, .any, .any, .any, .any] [(.l 6, .map (mpS [] m.fr.2 (.bool true)) 9 4), (.l 16, .row (adrE A) tAdr 2 true)] (by simp only [ZZ, YY, Ze, ite_true, ite_false, forall_const, reduceCtorEq, Nat.reduceAdd, Nat.reduceMul, Nat.reduceLeDiff, Nat.reduceLT, Nat.reduceEqDiff, adrE_len]; try trivial) (by (simp only [ZZ, YY, Ze, ite_true, ite_false, forall_const, reduceCtorEq, Nat.reduceAdd, Nat.reduceMul, Nat.reduceLeDiff, Nat.reduceLT, Nat.reduceEqDiff]; try trivial)) ⟨0, mpS [] m.fr.2 (.bool true), by omega, by omega, by simpa using setOf_put setOf_nil m.fr.2, rfl, rfl⟩ ?_
  rintro n fr L ⟨k, kv, hk, rfl, hkv, rfl, rfl⟩
  simp only [ir_thread_parties_L0, ZZ, YY, Ze, ite_true, ite_false, forall_const, reduceCtorEq, Nat.reduceAdd, Nat.reduceMul, Nat.reduceLeDiff, Nat.reduceLT, Nat.reduceEqDiff]
  refine br ?_ ?_
  · intro h
    have hlt : k < A.length := by have := of_decide_eq_true h; omega
    obtain ⟨x, hx⟩ : ∃ x, A[k]? = some x := ⟨_, List.getElem?_eq_getElem hlt⟩
    have hg := adrE_get hx
    simp only [ZZ, YY, Ze, ite_true, ite_false, forall_const, reduceCtorEq, Nat.reduceAdd, Nat.reduceMul, Nat.reduceLeDiff, Nat.reduceLT, Nat.reduceEqDiff, hg, adrE_len]
    ((repeat' (with_reducible apply And.intro)) <;> try ((first | first | assumption | trivial | exact (fun hq => by rw [hq]; rfl) | exact i64_of (by omega) (by omega) | omega | (simp; done) | (simp; omega) | (intro hsc; have hs0 := hsc; (try have hsd := of_decide_eq_true hsc); (try simp only [Bool.not_eq_true', Bool.or_eq_false_iff, Bool.and_eq_true, Bool.or_eq_true, decide_eq_true_eq, decide_eq_false_iff_not] at hsc); (repeat' (with_reducible apply And.intro)) <;> (first | assumption | trivial | exact (fun hq => by rw [hq]; rfl) | exact i64_of (by omega) (by omega) | omega | (simp; done) | (simp; omega) | (intro hse; simp [hse, hs0]; done) | (intro hse; simp only [hse, hs0, Bool.true_and, Bool.and_true, Bool.not_false, Bool.not_true, Bool.and_self]; done))))))
    refine end_round (A.length - (k + 1)) [.any, .any, .any, .mp (.l 6), .any, .any, .any, .any, .any, .any, .any, .any, .any, .any, .any, .any, .row (.l 16), .p (int (A.length : Nat)), .p (int ((k + 1) : Nat)), .any, .any, .any, .any, .any, .any, .any, .any] [(.l 6, .map (mpS kv x.2 (.bool true)) 9 4), (.l 16, .row (adrE A) tAdr 2 true)] (by omega) (by (simp only [ZZ, YY, Ze, ite_true, ite_false, forall_const, reduceCtorEq, Nat.reduceAdd, Nat.reduceMul, Nat.reduceLeDiff, Nat.reduceLT, Nat.reduceEqDiff]; try trivial)) (by (simp only [ZZ, YY, Ze, ite_true, ite_false, forall_const, reduceCtorEq, Nat.reduceAdd, Nat.reduceMul, Nat.reduceLeDiff, Nat.reduceLT, Nat.reduceEqDiff]; try trivial)) ⟨k + 1, mpS kv x.2 (.bool true), by omega, rfl, by rw [map_take_succ _ hx]; exact setOf_put hkv x.2, rfl, rfl⟩
  intro h
  have hge : A.length ≤ k := by have := of_decide_eq_false h; omega
  rw [List.take_of_length_le hge] at hkv
  simp only [ZZ, YY, Ze, ite_true, ite_false, forall_const, reduceCtorEq, Nat.reduceAdd, Nat.reduceMul, Nat.reduceLeDiff, Nat.reduceLT, Nat.reduceEqDiff]
  exact ⟨kv, rfl, hkv⟩
theorem PartiesOf_ok {E : Envt} (m : Ltr) (hm : LtB m) : PCall Tryz.prog E 41 [.agg (ltV m)] (· = .sl 1 (strE (sortF (ptsOf m)))) := by
  obtain ⟨b1, b2, b3, b4, b5, b6, b7, b8, b9, b10, b11⟩ := hm
  refine pcallF mixed Tryz.func41 ck_chaseref1_PartiesOf ?_
  simp only [a0, l0, OS.ao, List.map_cons, List.map_nil, List.length_cons, List.length_nil, List.cons_append, List.nil_append, Nat.reduceSub, Nat.reduceAdd, List.replicate_succ, List.replicate_zero, ir_chaseref1_PartiesOf, rs_chaseref1_PartiesOf, ZZ, YY, Ze, ite_true, ite_false, forall_const, reduceCtorEq, Nat.reduceAdd, Nat.reduceMul, Nat.reduceLeDiff, Nat.reduceLT, Nat.reduceEqDiff]
  simp only [ltV, ZZ, YY, Ze, ite_true, ite_false, forall_const, reduceCtorEq, Nat.reduceAdd, Nat.reduceMul, Nat.reduceLeDiff, Nat.reduceLT, Nat.reduceEqDiff]
  refine useF (ConcatA_ok [m.tos, m.ccs] (by simp) (by simp [lenSA]; omega)) rfl rfl ?_
  rintro es rfl
  rw [cat2]
  have hAl : (m.tos ++ m.ccs).length ≤ 200000 := by simp; omega
  unfold ptsOf
  generalize m.tos ++ m.ccs = A at *
  simp only [ZZ, YY, Ze, ite_true, ite_false, forall_const, reduceCtorEq, Nat.reduceAdd, Nat.reduceMul, Nat.reduceLeDiff, Nat.reduceLT, Nat.reduceEqDiff, adrE_len]
  have hR0 : [[PV.str m.fr.2]] = strE (m.fr.2 :: (A.take 0).map (·.2)) := rfl
  rw [hR0]
  refine loop_intro (fun n fr L => ∃ (k : Nat), k ≤ A.length ∧ n = A.length - k ∧ fr = [.any, .any, .any, .row (.l 9), .any, .any, .any, .any, .any, .any, .any, .any, .any, .any, .any, .row (.l 15), .p (int (A.length : Nat)), .p (int (k : Nat)), .any, .any, .any, .any, .any, .any, .any, .any, .any, .any, .any] ∧ L = [(.l 9, .row (strE (m.fr.2 :: (A.take k).map (·.2))) 9 1 true), (.l 15, .row (adrE A) tAdr 2 true)]) (A.length) [.any, .any, .any, .row (.l 9), .any, .any, .any, .any, .any, .any, .any, .any, .any, .any, .any, .row (.l 15), .p (int (A.length : Nat)), .p (int (0 : Nat)), .any, .any, .any, .any, .any, .any, .any, .any, .any, .any, .any] [(.l 9, .row (strE (m.fr.2 :: (A.take 0).map (·.2))) 9 1 true), (.l 15, .row (adrE A) tAdr 2 true)] (by simp only [ZZ, YY, Ze, ite_true, ite_false, forall_const, reduceCtorEq, Nat.reduceAdd, Nat.reduceMul, Nat.reduceLeDiff, Nat.reduceLT, Nat.reduceEqDiff, adrE_len]; try trivial) (by (simp only [ZZ, YY, Ze, ite_true, ite_false, forall_const, reduceCtorEq, Nat.reduceAdd, Nat.reduceMul, Nat.reduceLeDiff, Nat.reduceLT, Nat.reduceEqDiff]; try trivial)) ⟨0, by omega, by omega, rfl, rfl⟩ ?_
  rintro n fr L ⟨k, hk, rfl, rfl, rfl⟩
  simp only [ir_chaseref1_PartiesOf_L0, ZZ, YY, Ze, ite_true, ite_false, forall_const, reduceCtorEq, Nat.reduceAdd, Nat.reduceMul, Nat.reduceLeDiff, Nat.reduceLT, Nat.reduceEqDiff]
  refine br ?_ ?_
  · intro h
    have hlt : k < A.length := by have := of_decide_eq_true h; omega
    obtain ⟨x, hx⟩ : ∃ x, A[k]? = some x := ⟨_, List.getElem?_eq_getElem hlt⟩
    have hg := adrE_get hx
    have hq : strE (m.fr.2 :: (A.take k).map (·.2)) ++ [[PV.str x.2]] = strE (m.fr.2 :: (A.take (k + 1)).map (·.2)) := by rw [map_take_succ _ hx, ← List.cons_append, strE_app]; rfl
    have hql : (m.fr.2 :: (A.take k).map (·.2)).length = k + 1 := by simp; omega
    simp only [ZZ, YY, Ze, ite_true, ite_false, forall_const, reduceCtorEq, Nat.reduceAdd, Nat.reduceMul, Nat.reduceLeDiff, Nat.reduceLT, Nat.reduceEqDiff, hg, adrE_len]
    simp only [strE_len, hql, ZZ, YY, Ze, ite_true, ite_false, forall_const, reduceCtorEq, Nat.reduceAdd, Nat.reduceMul, Nat.reduceLeDiff, Nat.reduceLT, Nat.reduceEqDiff]
    ((repeat' (with_reducible apply And.intro)) <;> try ((first | first | assumption | trivial | exact (fun hq => by rw [hq]; rfl) | exact i64_of (by omega) (by omega) | omega | (simp; done) | (simp; omega) | (intro hsc; have hs0 := hsc; (try have hsd := of_decide_eq_true hsc); (try simp only [Bool.not_eq_true', Bool.or_eq_false_iff, Bool.and_eq_true, Bool.or_eq_true, decide_eq_true_eq, decide_eq_false_iff_not] at hsc); (repeat' (with_reducible apply And.intro)) <;> (first | assumption | trivial | exact (fun hq => by rw [hq]; rfl) | exact i64_of (by omega) (by omega) | omega | (simp; done) | (simp; omega) | (intro hse; simp [hse, hs0]; done) | (intro hse; simp only [hse, hs0, Bool.true_and, Bool.and_true, Bool.not_false, Bool.not_true, Bool.and_self]; done))))))
    rw [hq]
    refine end_round (A.length - (k + 1)) [.any, .any, .any, .row (.l 9), .any, .any, .any, .any, .any, .any, .any, .any, .any, .any, .any, .row (.l 15), .p (int (A.length : Nat)), .p (int ((k + 1) : Nat)), .any, .any, .any, .any, .any, .any, .any, .any, .any, .any, .any] [(.l 9, .row (strE (m.fr.2 :: (A.take (k + 1)).map (·.2))) 9 1 true), (.l 15, .row (adrE A) tAdr 2 true)] (by omega) (by (simp only [ZZ, YY, Ze, ite_true, ite_false, forall_const, reduceCtorEq, Nat.reduceAdd, Nat.reduceMul, Nat.reduceLeDiff, Nat.reduceLT, Nat.reduceEqDiff]; try trivial)) (by (simp only [ZZ, YY, Ze, ite_true, ite_false, forall_const, reduceCtorEq, Nat.reduceAdd, Nat.reduceMul, Nat.reduceLeDiff, Nat.reduceLT, Nat.reduceEqDiff]; try trivial)) ⟨k + 1, by omega, rfl, rfl, rfl⟩
  intro h
  have hge : A.length ≤ k := by have := of_decide_eq_false h; omega
  rw [List.take_of_length_le hge]
  simp only [ZZ, YY, Ze, ite_true, ite_false, forall_const, reduceCtorEq, Nat.reduceAdd, Nat.reduceMul, Nat.reduceLeDiff, Nat.reduceLT, Nat.reduceEqDiff]
  refine use1 (sorted_ok _ (by simp; omega)) rfl (.inl rfl) ?_
  simp only [ZZ, YY, Ze, ite_true, ite_false, forall_const, reduceCtorEq, Nat.reduceAdd, Nat.reduceMul, Nat.reduceLeDiff, Nat.reduceLT, Nat.reduceEqDiff]
def ptB (l : List Ltr) (a b : List UInt8) (i : Nat) : Bool := decide (a ∈ ptsOf (l.getD i lt0)) && decide (b ∈ ptsOf (l.getD i lt0))
def btF (l : List Ltr) (a b : List UInt8) (k : Nat) : List Int := ((List.range k).filter (ptB l a b)).map fun i => ((i : Nat) : Int)
theorem btF_len (l : List Ltr) (a b : List UInt8) (k : Nat) : (btF l a b k).length ≤ k := by
  unfold btF
  rw [List.length_map]
  exact Nat.le_trans (List.length_filter_le _ _) (by simp)
theorem btF_succ (l : List Ltr) (a b : List UInt8) (k : Nat) : btF l a b (k + 1) = btF l a b k ++ if ptB l a b k = true then [(k : Int)] else [] := by
  unfold btF
  rw [List.range_succ, List.filter_append, List.map_append]
  congr 1
  by_cases h : ptB l a b k = true
  · simp [h]
  · simp [h]
def btE (l : List Ltr) (a b : List UInt8) : Int := firstE [ltsF l, whenE (!mailF a || !mailF b) 3]
def inE1 (l : List Int) : List (List PV) := l.map fun x => [int x]
theorem inE1_len (l : List Int) : (inE1 l).length = l.length := by simp [inE1]
theorem inE1_app (l : List Int) (x : Int) : inE1 l ++ [[int x]] = inE1 (l ++ [x]) := by simp [inE1]
theorem Between_ok (l : List Ltr) (hl : l.length ≤ 1000000) (hb : ∀ m ∈ l, LtB m) (a b : List UInt8) (ha : a.length ≤ 1000000) (hbl : b.length ≤ 1000000) : PCall Tryz.prog E0 39 [.sl 9 (ltE l), .str a, .str b] (· = .tup [.sl 1 (inE1 (if btE l a b = 0 then btF l a b l.length else [])), int (btE l a b)]) := by
  refine pcallF mixed Tryz.func39 ck_thread_Between ?_
  simp only [a0, l0, OS.ao, List.map_cons, List.map_nil, List.length_cons, List.length_nil, List.cons_append, List.nil_append, Nat.reduceSub, Nat.reduceAdd, List.replicate_succ, List.replicate_zero, ir_thread_Between, rs_thread_Between, ZZ, YY, Ze, ite_true, ite_false, forall_const, reduceCtorEq, Nat.reduceAdd, Nat.reduceMul, Nat.reduceLeDiff, Nat.reduceLT, Nat.reduceEqDiff]
  refine use1 (CheckMails_ok l hb) rfl (.inl rfl) ?_
  simp only [ZZ, YY, Ze, ite_true, ite_false, forall_const, reduceCtorEq, Nat.reduceAdd, Nat.reduceMul, Nat.reduceLeDiff, Nat.reduceLT, Nat.reduceEqDiff]
  refine use1 (IsMail_ok a (by omega)) rfl (.inl rfl) ?_
  simp only [ZZ, YY, Ze, ite_true, ite_false, forall_const, reduceCtorEq, Nat.reduceAdd, Nat.reduceMul, Nat.reduceLeDiff, Nat.reduceLT, Nat.reduceEqDiff]
  refine useG (fun _ => IsMail_ok b (by omega)) rfl (.inl rfl) ?_
  simp only [ZZ, YY, Ze, ite_true, ite_false, forall_const, reduceCtorEq, Nat.reduceAdd, Nat.reduceMul, Nat.reduceLeDiff, Nat.reduceLT, Nat.reduceEqDiff]
  refine ⟨fun h => by rw [h]; rfl, ?_⟩
  refine use1 (When_ok _ 3) rfl (.inl rfl) ?_
  simp only [ZZ, YY, Ze, ite_true, ite_false, forall_const, reduceCtorEq, Nat.reduceAdd, Nat.reduceMul, Nat.reduceLeDiff, Nat.reduceLT, Nat.reduceEqDiff]
  refine use1 (First_ok [ltsF l, whenE (!mailF a || !mailF b) 3] (by simp)) rfl (.inl rfl) ?_
  rw [show firstE [ltsF l, whenE (!mailF a || !mailF b) 3] = btE l a b from rfl]
  simp only [ZZ, YY, Ze, ite_true, ite_false, forall_const, reduceCtorEq, Nat.reduceAdd, Nat.reduceMul, Nat.reduceLeDiff, Nat.reduceLT, Nat.reduceEqDiff]
  refine br ?_ ?_
  · intro h
    have h1 : ¬ btE l a b = 0 := by simpa using h
    simp only [ZZ, YY, Ze, ite_true, ite_false, forall_const, reduceCtorEq, Nat.reduceAdd, Nat.reduceMul, Nat.reduceLeDiff, Nat.reduceLT, Nat.reduceEqDiff]
    rw [if_neg h1]
    rfl
  intro h
  have h1 : btE l a b = 0 := by simpa using h
  rw [h1, if_pos rfl]
  clear h h1
  simp only [ZZ, YY, Ze, ite_true, ite_false, forall_const, reduceCtorEq, Nat.reduceAdd, Nat.reduceMul, Nat.reduceLeDiff, Nat.reduceLT, Nat.reduceEqDiff, ltE_len]
  have hR0 : ([] : List (List PV)) = inE1 (btF l a b 0) := rfl
  rw [hR0]
  refine loop_intro (fun n fr L => ∃ (k : Nat), k ≤ l.length ∧ n = l.length - k ∧ fr = [.any, .p (.str a), .p (.str b), .any, .any, .any, .any, .any, .any, .row (.l 9), .any, .any, .any, .any, .any, .any, .any, .any, .any, .any, .any, .any, .any, .any, .any, .any, .any, .any, .any, .p (.sl 9 (ltE l)), .p (int (l.length : Nat)), .p (int (k : Nat)), .any, .any, .any, .any, .any, .any, .any, .any, .any, .any, .any, .any, .any, .any, .any, .any, .any, .any, .any, .any] ∧ L = [(.l 9, .row (inE1 (btF l a b k)) 3 1 true)]) (l.length) [.any, .p (.str a), .p (.str b), .any, .any, .any, .any, .any, .any, .row (.l 9), .any, .any, .any, .any, .any, .any, .any, .any, .any, .any, .any, .any, .any, .any, .any, .any, .any, .any, .any, .p (.sl 9 (ltE l)), .p (int (l.length : Nat)), .p (int (0 : Nat)), .any, .any, .any, .any, .any, .any, .any, .any, .any, .any, .any, .any, .any, .any, .any, .any, .any, .any, .any, .any] [(.l 9, .row (inE1 (btF l a b 0)) 3 1 true)] (by simp only [ZZ, YY, Ze, ite_true, ite_false, forall_const, reduceCtorEq, Nat.reduceAdd, Nat.reduceMul, Nat.reduceLeDiff, Nat.reduceLT, Nat.reduceEqDiff, ltE_len]; try trivial) (by (simp only [ZZ, YY, Ze, ite_true, ite_false, forall_const, reduceCtorEq, Nat.reduceAdd, Nat.reduceMul, Nat.reduceLeDiff, Nat.reduceLT, Nat.reduceEqDiff]; try trivial)) ⟨0, by omega, by omega, rfl, rfl⟩ ?_
  rintro n fr L ⟨k, hk, rfl, rfl, rfl⟩
  simp only [ir_thread_Between_L0, ZZ, YY, Ze, ite_true, ite_false, forall_const, reduceCtorEq, Nat.reduceAdd, Nat.reduceMul, Nat.reduceLeDiff, Nat.reduceLT, Nat.reduceEqDiff]
  refine br ?_ ?_
  · intro h
    have hlt : k < l.length := by have := of_decide_eq_true h; omega
    obtain ⟨x, hx⟩ : ∃ x, l[k]? = some x := ⟨_, List.getElem?_eq_getElem hlt⟩
    have hg := ltE_get hx
    simp only [ltV] at hg
    have hxd : l.getD k lt0 = x := by simp [List.getD, hx]
    have hbx := hb x (List.mem_of_getElem? hx)
    have hfl := btF_len l a b k
    have hsc := btF_succ l a b k
    simp only [ZZ, YY, Ze, ite_true, ite_false, forall_const, reduceCtorEq, Nat.reduceAdd, Nat.reduceMul, Nat.reduceLeDiff, Nat.reduceLT, Nat.reduceEqDiff, hg, ltE_len]
    ((repeat' (with_reducible apply And.intro)) <;> try ((first | first | assumption | trivial | exact (fun hq => by rw [hq]; rfl) | exact i64_of (by omega) (by omega) | omega | (simp; done) | (simp; omega) | (intro hsc; have hs0 := hsc; (try have hsd := of_decide_eq_true hsc); (try simp only [Bool.not_eq_true', Bool.or_eq_false_iff, Bool.and_eq_true, Bool.or_eq_true, decide_eq_true_eq, decide_eq_false_iff_not] at hsc); (repeat' (with_reducible apply And.intro)) <;> (first | assumption | trivial | exact (fun hq => by rw [hq]; rfl) | exact i64_of (by omega) (by omega) | omega | (simp; done) | (simp; omega) | (intro hse; simp [hse, hs0]; done) | (intro hse; simp only [hse, hs0, Bool.true_and, Bool.and_true, Bool.not_false, Bool.not_true, Bool.and_self]; done))))))
    refine use (parties_ok x hbx) rfl (.inl rfl) ?_
    rintro _ ⟨kv, rfl, hkv⟩
    have hp : ptB l a b k = (decide (a ∈ ptsOf x) && decide (b ∈ ptsOf x)) := by rw [ptB, hxd]
    simp only [ZZ, YY, Ze, ite_true, ite_false, forall_const, reduceCtorEq, Nat.reduceAdd, Nat.reduceMul, Nat.reduceLeDiff, Nat.reduceLT, Nat.reduceEqDiff, zip_kv, hkv a, hkv b]
    rw [← hp]
    refine br ?_ ?_
    · intro hq
      rw [if_pos hq] at hsc
      simp only [ZZ, YY, Ze, ite_true, ite_false, forall_const, reduceCtorEq, Nat.reduceAdd, Nat.reduceMul, Nat.reduceLeDiff, Nat.reduceLT, Nat.reduceEqDiff, inE1_len]
      ((repeat' (with_reducible apply And.intro)) <;> try ((first | first | assumption | trivial | exact (fun hq => by rw [hq]; rfl) | exact i64_of (by omega) (by omega) | omega | (simp; done) | (simp; omega) | (intro hsc; have hs0 := hsc; (try have hsd := of_decide_eq_true hsc); (try simp only [Bool.not_eq_true', Bool.or_eq_false_iff, Bool.and_eq_true, Bool.or_eq_true, decide_eq_true_eq, decide_eq_false_iff_not] at hsc); (repeat' (with_reducible apply And.intro)) <;> (first | assumption | trivial | exact (fun hq => by rw [hq]; rfl) | exact i64_of (by omega) (by omega) | omega | (simp; done) | (simp; omega) | (intro hse; simp [hse, hs0]; done) | (intro hse; simp only [hse, hs0, Bool.true_and, Bool.and_true, Bool.not_false, Bool.not_true, Bool.and_self]; done))))))
      refine cut_same (by simp only [ZZ, YY, Ze, ite_true, ite_false, forall_const, reduceCtorEq, Nat.reduceAdd, Nat.reduceMul, Nat.reduceLeDiff, Nat.reduceLT, Nat.reduceEqDiff]) ?_
      simp only [ZZ, YY, Ze, ite_true, ite_false, forall_const, reduceCtorEq, Nat.reduceAdd, Nat.reduceMul, Nat.reduceLeDiff, Nat.reduceLT, Nat.reduceEqDiff]
      ((repeat' (with_reducible apply And.intro)) <;> try ((first | first | assumption | trivial | exact (fun hq => by rw [hq]; rfl) | exact i64_of (by omega) (by omega) | omega | (simp; done) | (simp; omega) | (intro hsc; have hs0 := hsc; (try have hsd := of_decide_eq_true hsc); (try simp only [Bool.not_eq_true', Bool.or_eq_false_iff, Bool.and_eq_true, Bool.or_eq_true, decide_eq_true_eq, decide_eq_false_iff_not] at hsc); (repeat' (with_reducible apply And.intro)) <;> (first | assumption | trivial | exact (fun hq => by rw [hq]; rfl) | exact i64_of (by omega) (by omega) | omega | (simp; done) | (simp; omega) | (intro hse; simp [hse, hs0]; done) | (intro hse; simp only [hse, hs0, Bool.true_and, Bool.and_true, Bool.not_false, Bool.not_true, Bool.and_self]; done))))))
      rw [inE1_app, ← hsc]
      refine end_round (l.length - (k + 1)) [.any, .p (.str a), .p (.str b), .any, .any, .any, .any, .any, .any, .row (.l 9), .any, .any, .any, .any, .any, .any, .any, .any, .any, .any, .any, .any, .any, .any, .any, .any, .any, .any, .any, .p (.sl 9 (ltE l)), .p (int (l.length : Nat)), .p (int ((k + 1) : Nat)), .any, .any, .any, .any, .any, .any, .any, .any, .any, .any, .any, .any, .any, .any, .any, .any, .any, .any, .any, .any] [(.l 9, .row (inE1 (btF l a b (k + 1))) 3 1 true)] (by omega) (by (simp only [ZZ, YY, Ze, ite_true, ite_false, forall_const, reduceCtorEq, Nat.reduceAdd, Nat.reduceMul, Nat.reduceLeDiff, Nat.reduceLT, Nat.reduceEqDiff]; try trivial)) (by (simp only [ZZ, YY, Ze, ite_true, ite_false, forall_const, reduceCtorEq, Nat.reduceAdd, Nat.reduceMul, Nat.reduceLeDiff, Nat.reduceLT, Nat.reduceEqDiff]; try trivial)) ⟨k + 1, by omega, rfl, rfl, rfl⟩
    · intro hq
      rw [if_neg (by rw [hq]; decide), List.append_nil] at hsc
      simp only [ZZ, YY, Ze, ite_true, ite_false, forall_const, reduceCtorEq, Nat.reduceAdd, Nat.reduceMul, Nat.reduceLeDiff, Nat.reduceLT, Nat.reduceEqDiff]
      refine cut_same (by simp only [ZZ, YY, Ze, ite_true, ite_false, forall_const, reduceCtorEq, Nat.reduceAdd, Nat.reduceMul, Nat.reduceLeDiff, Nat.reduceLT, Nat.reduceEqDiff]) ?_
      simp only [ZZ, YY, Ze, ite_true, ite_false, forall_const, reduceCtorEq, Nat.reduceAdd, Nat.reduceMul, Nat.reduceLeDiff, Nat.reduceLT, Nat.reduceEqDiff]
      ((repeat' (with_reducible apply And.intro)) <;> try ((first | first | assumption | trivial | exact (fun hq => by rw [hq]; rfl) | exact i64_of (by omega) (by omega) | omega | (simp; done) | (simp; omega) | (intro hsc; have hs0 := hsc; (try have hsd := of_decide_eq_true hsc); (try simp only [Bool.not_eq_true', Bool.or_eq_false_iff, Bool.and_eq_true, Bool.or_eq_true, decide_eq_true_eq, decide_eq_false_iff_not] at hsc); (repeat' (with_reducible apply And.intro)) <;> (first | assumption | trivial | exact (fun hq => by rw [hq]; rfl) | exact i64_of (by omega) (by omega) | omega | (simp; done) | (simp; omega) | (intro hse; simp [hse, hs0]; done) | (intro hse; simp only [hse, hs0, Bool.true_and, Bool.and_true, Bool.not_false, Bool.not_true, Bool.and_self]; done))))))
      rw [← hsc]
      refine end_round (l.length - (k + 1)) [.any, .p (.str a), .p (.str b), .any, .any, .any, .any, .any, .any, .row (.l 9), .any, .any, .any, .any, .any, .any, .any, .any, .any, .any, .any, .any, .any, .any, .any, .any, .any, .any, .any, .p (.sl 9 (ltE l)), .p (int (l.length : Nat)), .p (int ((k + 1) : Nat)), .any, .any, .any, .any, .any, .any, .any, .any, .any, .any, .any, .any, .any, .any, .any, .any, .any, .any, .any, .any] [(.l 9, .row (inE1 (btF l a b (k + 1))) 3 1 true)] (by omega) (by (simp only [ZZ, YY, Ze, ite_true, ite_false, forall_const, reduceCtorEq, Nat.reduceAdd, Nat.reduceMul, Nat.reduceLeDiff, Nat.reduceLT, Nat.reduceEqDiff]; try trivial)) (by (simp only [ZZ, YY, Ze, ite_true, ite_false, forall_const, reduceCtorEq, Nat.reduceAdd, Nat.reduceMul, Nat.reduceLeDiff, Nat.reduceLT, Nat.reduceEqDiff]; try trivial)) ⟨k + 1, by omega, rfl, rfl, rfl⟩
  intro h
  have hge : l.length = k := by have := of_decide_eq_false h; omega
  subst hge
  simp only [ZZ, YY, Ze, ite_true, ite_false, forall_const, reduceCtorEq, Nat.reduceAdd, Nat.reduceMul, Nat.reduceLeDiff, Nat.reduceLT, Nat.reduceEqDiff]
end Go.Proofs.YtidmphcocnaonaaGreatDoor

/- Numbers in some order; the people of the makers. -/
namespace Go.Proofs.YtidmphcocnaonaaGreatDoor
open Go.RowKit
set_option linter.unusedVariables false
set_option linter.unusedSimpArgs false
set_option linter.defProp false

/- (*paperchase/chasemake.Stream).Order -/
def ir_chasemake_Stream_Order_L1 : IC :=
  (.seq (.seq (.reg [⟨some 20, .mov (.t 7), none⟩,
      ⟨some 21, .bin .gtr (.t 20) (.c (.int .i64 0)), none⟩])
    (.cond (.t 21) .skip (.exit 2)))
    (.seq (.block 3 (.seq (.reg [⟨some 24, .mov (.t 0), none⟩,
      ⟨some 25, .mov (.t 7), none⟩,
      ⟨some 26, .bin .add (.t 25) (.c (.int .i64 1)), none⟩,
      ⟨some 27, .call 58 [.t 24, .t 26], none⟩,
      ⟨some 8, .mov (.t 27), none⟩])
    (.drg [⟨some 28, .mov (.t 5), none⟩,
      ⟨some 29, .mov (.t 7), none⟩,
      ⟨some 30, .mov (.t 5), none⟩,
      ⟨some 31, .mov (.t 8), none⟩,
      ⟨some 32, .mov (.t 5), none⟩,
      ⟨some 33, .mov (.t 8), none⟩,
      ⟨some 34, .ixa 1 (.t 32) (.t 33), none⟩,
      ⟨some 35, .ld 1 false (.t 34), none⟩,
      ⟨some 36, .mov (.t 5), none⟩,
      ⟨some 37, .mov (.t 7), none⟩,
      ⟨some 38, .ixa 1 (.t 36) (.t 37), none⟩,
      ⟨some 39, .ld 1 false (.t 38), none⟩,
      ⟨some 40, .ixa 1 (.t 28) (.t 29), none⟩,
      ⟨none, .st 1 (.t 40) (.t 35), none⟩,
      ⟨some 41, .ixa 1 (.t 30) (.t 31), none⟩,
      ⟨none, .st 1 (.t 41) (.t 39), none⟩])))
    (.reg [⟨some 22, .mov (.t 7), none⟩,
      ⟨some 23, .bin .sub (.t 22) (.c (.int .i64 1)), none⟩,
      ⟨some 7, .mov (.t 23), none⟩])))
def ir_chasemake_Stream_Order_L0 : IC :=
  (.seq (.reg [⟨some 11, .bin .lss (.t 10) (.t 9), none⟩])
    (.seq (.cond (.t 11) .skip (.exit 0))
    (.seq (.block 1 (.seq (.reg [⟨some 12, .mov (.t 10), none⟩,
      ⟨some 6, .mov (.t 12), none⟩])
    (.reg [⟨some 13, .mov (.t 5), none⟩,
      ⟨some 14, .mov (.t 6), none⟩,
      ⟨some 15, .bsl 1 [.t 14], none⟩,
      ⟨some 16, .app 3 1 8 (.t 13) (.t 15), none⟩,
      ⟨some 5, .mov (.t 16), none⟩])))
    (.reg [⟨some 17, .bin .add (.t 10) (.c (.int .i64 1)), none⟩,
      ⟨some 10, .mov (.t 17), none⟩]))))
def ir_chasemake_Stream_Order : IC :=
  (.seq (.reg [⟨some 4, .mov (.c (.nl 1)), none⟩])
    (.seq (.reg [⟨some 5, .nilr 3 1, none⟩])
    (.seq (.seq (.reg [⟨some 9, .mov (.t 1), none⟩,
      ⟨some 10, .mov (.c (.int .i64 0)), none⟩])
    (.block 0 (.loop ir_chasemake_Stream_Order_L0)))
    (.seq (.seq (.reg [⟨some 18, .mov (.t 1), none⟩,
      ⟨some 19, .bin .sub (.t 18) (.c (.int .i64 1)), none⟩,
      ⟨some 7, .mov (.t 19), none⟩])
    (.block 2 (.loop ir_chasemake_Stream_Order_L1)))
    (.seq (.reg [⟨some 42, .mov (.t 5), none⟩,
      ⟨some 4, .mov (.t 42), none⟩])
    .ret)))))
def rs_chasemake_Stream_Order : List IRes := [.t 4]
theorem ck_chasemake_Stream_Order : chkF Tryz.prog Tryz.f184 ir_chasemake_Stream_Order rs_chasemake_Stream_Order 43 = true := by kernel_rfl
/- paperchase/chasemake.people -/
def ir_chasemake_people : IC :=
  (.seq (.reg [⟨some 0, .mov (.c (.nl 1)), none⟩])
    (.seq (.reg [⟨some 1, .bsl 1 [.c (.str [97, 110, 110, 64, 102, 105, 114, 109, 46, 100, 101]), .c (.str [98, 111, 64, 102, 105, 114, 109, 46, 100, 101]), .c (.str [108, 97, 119, 64, 111, 117, 114, 115, 46, 100, 101]), .c (.str [97, 105, 100, 64, 111, 117, 114, 115, 46, 100, 101]), .c (.str [99, 121, 64, 101, 108, 115, 101, 46, 100, 101]), .c (.str [97, 108, 108, 64, 102, 105, 114, 109, 46, 100, 101]), .c (.str [100, 101, 101, 64, 120, 46, 102, 105, 114, 109, 46, 100, 101])], none⟩,
      ⟨some 0, .mov (.t 1), none⟩])
    .ret))
def rs_chasemake_people : List IRes := [.t 0]
theorem ck_chasemake_people : chkF Tryz.prog Tryz.f254 ir_chasemake_people rs_chasemake_people 2 = true := by kernel_rfl

section
variable {E : Envt}
abbrev tIntW : Nat := 3
def inR (n : Nat) (o : List Int) : Prop := ∀ x ∈ o, 0 ≤ x ∧ x < n
theorem inE1_get {o : List Int} {k : Nat} {x : Int} (h : o[k]? = some x) : (inE1 o).getD k [] = [int x] := getD_map h
theorem inE1_set (o : List Int) (k : Nat) (x : Int) : (inE1 o).set k [int x] = inE1 (o.set k x) := by simp [inE1]
theorem Order_ok (l : List Int) (k : Nat) (z : Nat) (hk : k ≤ 900000) (hl : l.length ≤ 9223372036854775807) (hn : z ≤ 1000) :
    SFresh Tryz.prog E 184 T (stm l k) [int (z : Nat)] tIntW 1 (fun es cs' => ∃ (o : List Int) (k' : Nat), es = inE1 o ∧ o.length = z ∧ inR z o ∧ cs' = stm l k' ∧ k' ≤ k + z) := by
  unfold SFresh
  refine gcallR mixed Tryz.func184 ck_chasemake_Stream_Order ?_
  simp only [a0, l0, OS.ao, List.map_cons, List.map_nil, List.length_cons, List.length_nil, List.cons_append, List.nil_append, Nat.reduceSub, Nat.reduceAdd, List.replicate_succ, List.replicate_zero, ir_chasemake_Stream_Order, rs_chasemake_Stream_Order, ZZ, YY, Ze, ite_true, ite_false, forall_const, reduceCtorEq, Nat.reduceAdd, Nat.reduceMul, Nat.reduceLeDiff, Nat.reduceLT, Nat.reduceEqDiff]
  have hR0 : ([] : List (List PV)) = inE1 [] := rfl
  rw [hR0]
  refine loop_intro (fun n fr L => ∃ (i : Nat) (o : List Int), i ≤ z ∧ n = z - i ∧ (o.length = i) ∧ (inR z o) ∧ fr = [.adr (.b 0) 0, .p (int (z : Nat)), .any, .any, .any, .row (.l 5), .any, .any, .any, .p (int (z : Nat)), .p (int (i : Nat)), .any, .any, .any, .any, .any, .any, .any, .any, .any, .any, .any, .any, .any, .any, .any, .any, .any, .any, .any, .any, .any, .any, .any, .any, .any, .any, .any, .any, .any, .any, .any, .any] ∧ L = [(.b 0, .box ((stm l k).map .p) T), (.l 5, .row (inE1 o) tIntW 1 true)]) (z) [.adr (.b 0) 0, .p (int (z : Nat)), .any, .any, .any, .row (.l 5), .any, .any, .any, .p (int (z : Nat)), .p (int (0 : Nat)), .any, .any, .any, .any, .any, .any, .any, .any, .any, .any, .any, .any, .any, .any, .any, .any, .any, .any, .any, .any, .any, .any, .any, .any, .any, .any, .any, .any, .any, .any, .any, .any] [(.b 0, .box ((stm l k).map .p) T), (.l 5, .row (inE1 []) tIntW 1 true)] (by (simp only [ZZ, YY, Ze, ite_true, ite_false, forall_const, reduceCtorEq, Nat.reduceAdd, Nat.reduceMul, Nat.reduceLeDiff, Nat.reduceLT, Nat.reduceEqDiff]; try trivial)) (by (simp only [ZZ, YY, Ze, ite_true, ite_false, forall_const, reduceCtorEq, Nat.reduceAdd, Nat.reduceMul, Nat.reduceLeDiff, Nat.reduceLT, Nat.reduceEqDiff]; try trivial)) ⟨0, [], by omega, by omega, rfl, (fun x hx => by cases hx), rfl, rfl⟩ ?_
  rintro n fr L ⟨i, o, hi, rfl, ho, hr, rfl, rfl⟩
  simp only [ir_chasemake_Stream_Order_L0, ZZ, YY, Ze, ite_true, ite_false, forall_const, reduceCtorEq, Nat.reduceAdd, Nat.reduceMul, Nat.reduceLeDiff, Nat.reduceLT, Nat.reduceEqDiff]
  refine br ?_ ?_
  · intro h
    have hlt : i < z := by have := of_decide_eq_true h; omega
    simp only [ZZ, YY, Ze, ite_true, ite_false, forall_const, reduceCtorEq, Nat.reduceAdd, Nat.reduceMul, Nat.reduceLeDiff, Nat.reduceLT, Nat.reduceEqDiff, inE1_len, ho]
    ((repeat' (with_reducible apply And.intro)) <;> try ((first | first | assumption | trivial | exact (fun hq => by rw [hq]; rfl) | exact i64_of (by omega) (by omega) | omega | (simp; done) | (simp; omega) | (intro hsc; have hs0 := hsc; (try have hsd := of_decide_eq_true hsc); (try simp only [Bool.not_eq_true', Bool.or_eq_false_iff, Bool.and_eq_true, Bool.or_eq_true, decide_eq_true_eq, decide_eq_false_iff_not] at hsc); (repeat' (with_reducible apply And.intro)) <;> (first | assumption | trivial | exact (fun hq => by rw [hq]; rfl) | exact i64_of (by omega) (by omega) | omega | (simp; done) | (simp; omega) | (intro hse; simp [hse, hs0]; done) | (intro hse; simp only [hse, hs0, Bool.true_and, Bool.and_true, Bool.not_false, Bool.not_true, Bool.and_self]; done))))))
    rw [inE1_app]
    refine end_round (z - (i + 1)) [.adr (.b 0) 0, .p (int (z : Nat)), .any, .any, .any, .row (.l 5), .any, .any, .any, .p (int (z : Nat)), .p (int ((i + 1) : Nat)), .any, .any, .any, .any, .any, .any, .any, .any, .any, .any, .any, .any, .any, .any, .any, .any, .any, .any, .any, .any, .any, .any, .any, .any, .any, .any, .any, .any, .any, .any, .any, .any] [(.b 0, .box ((stm l k).map .p) T), (.l 5, .row (inE1 (o ++ [(i : Int)])) tIntW 1 true)] (by omega) (by (simp only [ZZ, YY, Ze, ite_true, ite_false, forall_const, reduceCtorEq, Nat.reduceAdd, Nat.reduceMul, Nat.reduceLeDiff, Nat.reduceLT, Nat.reduceEqDiff]; try trivial)) (by (simp only [ZZ, YY, Ze, ite_true, ite_false, forall_const, reduceCtorEq, Nat.reduceAdd, Nat.reduceMul, Nat.reduceLeDiff, Nat.reduceLT, Nat.reduceEqDiff]; try trivial)) ⟨i + 1, o ++ [(i : Int)], by omega, rfl, by simp [ho], by intro x hx; rcases List.mem_append.1 hx with hx | hx; exact hr x hx; rw [List.mem_singleton] at hx; subst hx; omega, rfl, rfl⟩
  intro h
  have hge : z = i := by have := of_decide_eq_false h; omega
  subst hge
  simp only [ZZ, YY, Ze, ite_true, ite_false, forall_const, reduceCtorEq, Nat.reduceAdd, Nat.reduceMul, Nat.reduceLeDiff, Nat.reduceLT, Nat.reduceEqDiff]
  ((repeat' (with_reducible apply And.intro)) <;> try ((first | first | assumption | trivial | exact (fun hq => by rw [hq]; rfl) | exact i64_of (by omega) (by omega) | omega | (simp; done) | (simp; omega) | (intro hsc; have hs0 := hsc; (try have hsd := of_decide_eq_true hsc); (try simp only [Bool.not_eq_true', Bool.or_eq_false_iff, Bool.and_eq_true, Bool.or_eq_true, decide_eq_true_eq, decide_eq_false_iff_not] at hsc); (repeat' (with_reducible apply And.intro)) <;> (first | assumption | trivial | exact (fun hq => by rw [hq]; rfl) | exact i64_of (by omega) (by omega) | omega | (simp; done) | (simp; omega) | (intro hse; simp [hse, hs0]; done) | (intro hse; simp only [hse, hs0, Bool.true_and, Bool.and_true, Bool.not_false, Bool.not_true, Bool.and_self]; done))))))
  refine loop_intro (fun n fr L => ∃ (j : Nat) (k' : Nat) (u : List Int), j = n ∧ (j ≤ z) ∧ (k' + j ≤ k + z) ∧ (u.length = z) ∧ (inR z u) ∧ fr = [.adr (.b 0) 0, .any, .any, .any, .any, .row (.l 5), .any, .p (int ((j : Nat) - 1)), .any, .any, .any, .any, .any, .any, .any, .any, .any, .any, .any, .any, .any, .any, .any, .any, .any, .any, .any, .any, .any, .any, .any, .any, .any, .any, .any, .any, .any, .any, .any, .any, .any, .any, .any] ∧ L = [(.b 0, .box ((stm l k').map .p) T), (.l 5, .row (inE1 u) tIntW 1 true)]) (z) [.adr (.b 0) 0, .any, .any, .any, .any, .row (.l 5), .any, .p (int ((z : Nat) - 1)), .any, .any, .any, .any, .any, .any, .any, .any, .any, .any, .any, .any, .any, .any, .any, .any, .any, .any, .any, .any, .any, .any, .any, .any, .any, .any, .any, .any, .any, .any, .any, .any, .any, .any, .any] [(.b 0, .box ((stm l k).map .p) T), (.l 5, .row (inE1 o) tIntW 1 true)] (by (simp only [ZZ, YY, Ze, ite_true, ite_false, forall_const, reduceCtorEq, Nat.reduceAdd, Nat.reduceMul, Nat.reduceLeDiff, Nat.reduceLT, Nat.reduceEqDiff]; try trivial)) (by (simp only [ZZ, YY, Ze, ite_true, ite_false, forall_const, reduceCtorEq, Nat.reduceAdd, Nat.reduceMul, Nat.reduceLeDiff, Nat.reduceLT, Nat.reduceEqDiff]; try trivial)) ⟨z, k, o, rfl, Nat.le_refl _, Nat.le_refl _, ho, hr, rfl, rfl⟩ ?_
  rintro n fr L ⟨j, k', u, rfl, hj, hk', hu, hur, rfl, rfl⟩
  simp only [ir_chasemake_Stream_Order_L1, ZZ, YY, Ze, ite_true, ite_false, forall_const, reduceCtorEq, Nat.reduceAdd, Nat.reduceMul, Nat.reduceLeDiff, Nat.reduceLT, Nat.reduceEqDiff]
  refine br ?_ ?_
  · intro h
    have h2 : 2 ≤ j := by have := of_decide_eq_true h; omega
    obtain ⟨i, rfl⟩ : ∃ i, j = i + 1 := ⟨j - 1, by omega⟩
    have e1 : (((i + 1 : Nat) : Int) - 1) = (i : Int) := by omega
    simp only [ZZ, YY, Ze, ite_true, ite_false, forall_const, reduceCtorEq, Nat.reduceAdd, Nat.reduceMul, Nat.reduceLeDiff, Nat.reduceLT, Nat.reduceEqDiff, e1]
    ((repeat' (with_reducible apply And.intro)) <;> try ((first | first | assumption | trivial | exact (fun hq => by rw [hq]; rfl) | exact i64_of (by omega) (by omega) | omega | (simp; done) | (simp; omega) | (intro hsc; have hs0 := hsc; (try have hsd := of_decide_eq_true hsc); (try simp only [Bool.not_eq_true', Bool.or_eq_false_iff, Bool.and_eq_true, Bool.or_eq_true, decide_eq_true_eq, decide_eq_false_iff_not] at hsc); (repeat' (with_reducible apply And.intro)) <;> (first | assumption | trivial | exact (fun hq => by rw [hq]; rfl) | exact i64_of (by omega) (by omega) | omega | (simp; done) | (simp; omega) | (intro hse; simp [hse, hs0]; done) | (intro hse; simp only [hse, hs0, Bool.true_and, Bool.and_true, Bool.not_false, Bool.not_true, Bool.and_self]; done))))))
    refine useS (Next_ok l k' _ (by omega) hl (by omega)) rfl rfl rfl (by simp only [ZZ, YY, Ze, ite_true, ite_false, forall_const, reduceCtorEq, Nat.reduceAdd, Nat.reduceMul, Nat.reduceLeDiff, Nat.reduceLT, Nat.reduceEqDiff]) ?_
    rintro x cs' ⟨y, rfl, rfl⟩
    have q1 := below_lo y ((i : Int) + 1)
    have q2 := below_hi y ((i : Int) + 1) (by omega)
    obtain ⟨p, hp⟩ : ∃ p : Nat, below y ((i : Int) + 1) = (p : Nat) := ⟨(below y ((i : Int) + 1)).toNat, by omega⟩
    rw [hp] at q1 q2 ⊢
    clear hp
    obtain ⟨s, hs⟩ : ∃ s, u[i]? = some s := ⟨_, List.getElem?_eq_getElem (by omega)⟩
    obtain ⟨t, ht⟩ : ∃ t, u[p]? = some t := ⟨_, List.getElem?_eq_getElem (by omega)⟩
    have g1 := inE1_get hs
    have g2 := inE1_get ht
    simp only [ZZ, YY, Ze, ite_true, ite_false, forall_const, reduceCtorEq, Nat.reduceAdd, Nat.reduceMul, Nat.reduceLeDiff, Nat.reduceLT, Nat.reduceEqDiff]
    refine drg0 ?_
    simp only [ZZ, YY, Ze, ite_true, ite_false, forall_const, reduceCtorEq, Nat.reduceAdd, Nat.reduceMul, Nat.reduceLeDiff, Nat.reduceLT, Nat.reduceEqDiff, g1, g2, inE1_len, hu]
    have g3 : ((inE1 u).set i [int t]).set p ((((inE1 u).set i [int t]).getD p []).set 0 (int s)) = inE1 ((u.set i t).set p s) := by
      rw [inE1_set]
      obtain ⟨v, hv⟩ : ∃ v, (u.set i t)[p]? = some v := ⟨_, List.getElem?_eq_getElem (by rw [List.length_set]; omega)⟩
      rw [inE1_get hv]
      exact inE1_set _ _ _
    have g4 : ((inE1 u).set i [int t]).length = z := by rw [List.length_set, inE1_len, hu]
    have g5 := hur s (List.mem_of_getElem? hs)
    have g6 := hur t (List.mem_of_getElem? ht)
    rw [g3, g4]
    refine ⟨⟨by omega, by omega⟩, by omega, ⟨by omega, by omega⟩, by omega, ⟨by omega, by omega⟩, by omega, ⟨by omega, by omega⟩, by omega, i64_of (by omega) (by omega), ?_⟩
    refine end_round ((i)) [.adr (.b 0) 0, .any, .any, .any, .any, .row (.l 5), .any, .p (int (((i) : Nat) - 1)), .any, .any, .any, .any, .any, .any, .any, .any, .any, .any, .any, .any, .any, .any, .any, .any, .any, .any, .any, .any, .any, .any, .any, .any, .any, .any, .any, .any, .any, .any, .any, .any, .any, .any, .any] [(.b 0, .box ((stm l (k' + 1)).map .p) T), (.l 5, .row (inE1 ((u.set i t).set p s)) tIntW 1 true)] (by omega) (by (simp only [ZZ, YY, Ze, ite_true, ite_false, forall_const, reduceCtorEq, Nat.reduceAdd, Nat.reduceMul, Nat.reduceLeDiff, Nat.reduceLT, Nat.reduceEqDiff]; try trivial)) (by (simp only [ZZ, YY, Ze, ite_true, ite_false, forall_const, reduceCtorEq, Nat.reduceAdd, Nat.reduceMul, Nat.reduceLeDiff, Nat.reduceLT, Nat.reduceEqDiff]; try trivial)) ⟨i, k' + 1, (u.set i t).set p s, rfl, by omega, by omega, by simp [hu], by intro x hx; rcases List.mem_or_eq_of_mem_set hx with hx | rfl; (rcases List.mem_or_eq_of_mem_set hx with hx | rfl; (exact hur x hx); (exact g6)); exact g5, rfl, rfl⟩
  intro h
  simp only [ZZ, YY, Ze, ite_true, ite_false, forall_const, reduceCtorEq, Nat.reduceAdd, Nat.reduceMul, Nat.reduceLeDiff, Nat.reduceLT, Nat.reduceEqDiff]
  exact fin_SF 5 _ (stm l k') rfl rfl rfl ⟨u, k', rfl, hu, hur, rfl, by omega⟩
def peA : List (List UInt8) := [[97, 110, 110, 64, 102, 105, 114, 109, 46, 100, 101], [98, 111, 64, 102, 105, 114, 109, 46, 100, 101], [108, 97, 119, 64, 111, 117, 114, 115, 46, 100, 101], [97, 105, 100, 64, 111, 117, 114, 115, 46, 100, 101], [99, 121, 64, 101, 108, 115, 101, 46, 100, 101], [97, 108, 108, 64, 102, 105, 114, 109, 46, 100, 101], [100, 101, 101, 64, 120, 46, 102, 105, 114, 109, 46, 100, 101]]
theorem peA_len : ∀ s ∈ peA, s.length ≤ 60 := by decide
theorem people_ok : PCall Tryz.prog E 254 [] (· = strs peA) := by
  refine pcallF mixed Tryz.func254 ck_chasemake_people ?_
  simp only [a0, l0, OS.ao, List.map_cons, List.map_nil, List.length_cons, List.length_nil, List.cons_append, List.nil_append, Nat.reduceSub, Nat.reduceAdd, List.replicate_succ, List.replicate_zero, ir_chasemake_people, rs_chasemake_people, ZZ, YY, Ze, ite_true, ite_false, forall_const, reduceCtorEq, Nat.reduceAdd, Nat.reduceMul, Nat.reduceLeDiff, Nat.reduceLT, Nat.reduceEqDiff]
  rfl
end
end Go.Proofs.YtidmphcocnaonaaGreatDoor

/- A letter with a change. -/
namespace Go.Proofs.YtidmphcocnaonaaGreatDoor
open Go.RowKit
set_option linter.unusedVariables false
set_option linter.unusedSimpArgs false
set_option linter.defProp false

/- slices.Clone[[]paperchase/api.Address,paperchase/api.Address] -/
def ir_slices_Clone_api_Address_api_Address : IC :=
  (.seq (.reg [⟨some 2, .nilr 71 2, none⟩])
    (.seq (.seq (.reg [⟨some 3, .mov (.t 0), none⟩,
      ⟨some 4, .isn (.t 3), none⟩])
    (.cond (.t 4) (.seq (.reg [⟨some 2, .nilr 71 2, none⟩])
    .ret) .skip))
    (.seq (.reg [⟨some 5, .bsr 71 2 [], none⟩,
      ⟨some 6, .mov (.t 0), none⟩,
      ⟨some 7, .app 71 2 32 (.t 5) (.t 6), none⟩,
      ⟨some 2, .mov (.t 7), none⟩])
    .ret)))
def rs_slices_Clone_api_Address_api_Address : List IRes := [.t 2]
theorem ck_slices_Clone_api_Address_api_Address : chkF Tryz.prog Tryz.f186 ir_slices_Clone_api_Address_api_Address rs_slices_Clone_api_Address_api_Address 8 = true := by kernel_rfl
/- (*paperchase/chasemake.Stream).SpoiledLetter -/
def ir_chasemake_Stream_SpoiledLetter : IC :=
  (.seq (.reg [⟨some 3, .box 74 (.t 1), none⟩,
      ⟨some 4, .alc 74 [.str [], .int .i64 0, .str [], .str [], .nl 2, .nl 2, .nl 1, .str [], .str []], none⟩])
    (.seq (.seq (.reg [⟨some 5, .mov (.t 0), none⟩,
      ⟨some 6, .call 58 [.t 5, .c (.int .i64 9)], none⟩])
    (.block 0 (.seq (.reg [⟨some 15, .bin .eql (.t 6) (.c (.int .i64 0)), none⟩,
      ⟨some 14, .mov (.t 15), none⟩])
    (.cond (.t 14) (.reg [⟨some 16, .mov (.t 0), none⟩,
      ⟨some 17, .call 46 [.c (.str [105]), .c (.int .i64 80)], none⟩,
      ⟨some 18, .call 46 [.c (.str [105]), .c (.int .i64 81)], none⟩,
      ⟨some 19, .bsl 1 [.c (.str []), .c (.str [97, 32, 98]), .c (.str [60, 120, 62]), .t 17, .t 18], none⟩,
      ⟨some 20, .call 45 [.t 16, .t 19], none⟩,
      ⟨some 21, .fla 0 (.t 3), none⟩,
      ⟨none, .st 1 (.t 21) (.t 20), none⟩]) (.seq (.reg [⟨some 23, .bin .eql (.t 6) (.c (.int .i64 1)), none⟩,
      ⟨some 22, .mov (.t 23), none⟩])
    (.cond (.t 22) (.reg [⟨some 24, .mov (.t 0), none⟩,
      ⟨some 25, .bsl 1 [.c (.int .i64 (-1)), .c (.int .i64 5761440)], none⟩,
      ⟨some 26, .call 59 [.t 24, .t 25], none⟩,
      ⟨some 27, .fla 1 (.t 3), none⟩,
      ⟨none, .st 1 (.t 27) (.t 26), none⟩]) (.seq (.reg [⟨some 29, .bin .eql (.t 6) (.c (.int .i64 2)), none⟩,
      ⟨some 28, .mov (.t 29), none⟩])
    (.cond (.t 28) (.reg [⟨some 30, .mov (.t 0), none⟩,
      ⟨some 31, .bsl 1 [.c (.str []), .c (.str [97, 110, 110]), .c (.str [65, 110, 110, 64, 98, 46, 100, 101])], none⟩,
      ⟨some 32, .call 45 [.t 30, .t 31], none⟩,
      ⟨some 33, .fla 2 (.t 3), none⟩,
      ⟨some 34, .fla 1 (.t 33), none⟩,
      ⟨none, .st 1 (.t 34) (.t 32), none⟩]) (.seq (.reg [⟨some 36, .bin .eql (.t 6) (.c (.int .i64 3)), none⟩,
      ⟨some 35, .mov (.t 36), none⟩])
    (.cond (.t 35) (.reg [⟨some 37, .mov (.t 0), none⟩,
      ⟨some 38, .call 46 [.c (.str [110]), .c (.int .i64 61)], none⟩,
      ⟨some 39, .bsl 1 [.c (.str [32, 120]), .c (.str [97, 32, 32, 98]), .c (.str [97, 34, 98]), .t 38], none⟩,
      ⟨some 40, .call 45 [.t 37, .t 39], none⟩,
      ⟨some 41, .fla 2 (.t 3), none⟩,
      ⟨some 42, .fla 0 (.t 41), none⟩,
      ⟨none, .st 1 (.t 42) (.t 40), none⟩]) (.seq (.reg [⟨some 44, .bin .eql (.t 6) (.c (.int .i64 4)), none⟩,
      ⟨some 43, .mov (.t 44), none⟩])
    (.cond (.t 43) (.reg [⟨some 45, .fla 4 (.t 3), none⟩,
      ⟨some 46, .ld 1 false (.t 45), none⟩,
      ⟨some 47, .call 186 [.t 46], none⟩,
      ⟨some 48, .mov (.t 0), none⟩,
      ⟨some 49, .bsl 1 [.c (.str [97, 110, 110, 64, 102, 105, 114, 109, 46, 100, 101]), .c (.str [98, 111, 64, 102, 105, 114, 109, 46, 100, 101]), .c (.str [])], none⟩,
      ⟨some 50, .call 45 [.t 48, .t 49], none⟩,
      ⟨none, .fz (.t 50), none⟩,
      ⟨some 51, .bld [.str [], .str []] [(1, 1, .t 50)], none⟩,
      ⟨some 52, .bsl 2 [.t 51], none⟩,
      ⟨some 53, .app 71 2 32 (.t 47) (.t 52), none⟩,
      ⟨some 54, .fla 4 (.t 3), none⟩,
      ⟨none, .st 1 (.t 54) (.t 53), none⟩]) (.seq (.reg [⟨some 56, .bin .eql (.t 6) (.c (.int .i64 5)), none⟩,
      ⟨some 55, .mov (.t 56), none⟩])
    (.cond (.t 55) (.drg [⟨none, .fz (.t 64), none⟩,
      ⟨none, .hole 59, none⟩,
      ⟨some 57, .fla 6 (.t 3), none⟩,
      ⟨some 58, .ldl 1 false (.t 57), none⟩,
      ⟨some 59, .fcl 0 50 [.t 58] 9 1, none⟩,
      ⟨some 60, .mov (.t 0), none⟩,
      ⟨some 61, .fla 0 (.t 3), none⟩,
      ⟨some 62, .ldl 1 false (.t 61), none⟩,
      ⟨some 63, .bsl 1 [.t 62, .c (.str [103, 111, 110, 101, 49]), .c (.str [103, 111, 110, 101, 49]), .c (.str [])], none⟩,
      ⟨some 64, .dcall true 45 [.t 60, .t 63], none⟩,
      ⟨some 65, .bsl 1 [.t 64], none⟩,
      ⟨some 66, .app 9 1 16 (.t 59) (.t 65), none⟩,
      ⟨some 67, .fla 6 (.t 3), none⟩,
      ⟨none, .st 1 (.t 67) (.t 66), none⟩]) (.seq (.reg [⟨some 69, .bin .eql (.t 6) (.c (.int .i64 6)), none⟩,
      ⟨some 68, .mov (.t 69), none⟩])
    (.cond (.t 68) (.reg [⟨some 70, .mov (.t 0), none⟩,
      ⟨some 71, .call 46 [.c (.str [115]), .c (.int .i64 200)], none⟩,
      ⟨some 72, .call 46 [.c (.str [115]), .c (.int .i64 201)], none⟩,
      ⟨some 73, .bsl 1 [.c (.str [32, 120]), .c (.str [97, 32, 32, 98]), .t 71, .t 72, .c (.str [97, 9, 98])], none⟩,
      ⟨some 74, .call 45 [.t 70, .t 73], none⟩,
      ⟨some 75, .fla 7 (.t 3), none⟩,
      ⟨none, .st 1 (.t 75) (.t 74), none⟩]) (.seq (.reg [⟨some 77, .bin .eql (.t 6) (.c (.int .i64 7)), none⟩,
      ⟨some 76, .mov (.t 77), none⟩])
    (.cond (.t 76) (.reg [⟨some 78, .mov (.t 0), none⟩,
      ⟨some 79, .call 46 [.c (.str [98]), .c (.int .i64 20000)], none⟩,
      ⟨some 80, .bin .add (.t 79) (.c (.str [10])), none⟩,
      ⟨some 81, .bsl 1 [.c (.str [120]), .c (.str [97, 9, 98, 10]), .c (.str [255, 10]), .t 80], none⟩,
      ⟨some 82, .call 45 [.t 78, .t 81], none⟩,
      ⟨some 83, .fla 8 (.t 3), none⟩,
      ⟨none, .st 1 (.t 83) (.t 82), none⟩]) (.drg [⟨none, .hole 9, none⟩,
      ⟨some 7, .fla 5 (.t 3), none⟩,
      ⟨some 8, .ld 1 false (.t 7), none⟩,
      ⟨some 9, .fcl 0 186 [.t 8] 71 2, none⟩,
      ⟨some 10, .fla 4 (.t 3), none⟩,
      ⟨some 11, .ld 1 false (.t 10), none⟩,
      ⟨some 12, .app 71 2 32 (.t 9) (.t 11), none⟩,
      ⟨some 13, .fla 5 (.t 3), none⟩,
      ⟨none, .st 1 (.t 13) (.t 12), none⟩])))))))))))))))))))
    (.cut (.seq (.reg [⟨some 84, .ld 9 true (.t 3), none⟩,
      ⟨none, .st 9 (.t 4) (.t 84), none⟩])
    .ret))))
def rs_chasemake_Stream_SpoiledLetter : List IRes := [.c 4 9 true]
theorem ck_chasemake_Stream_SpoiledLetter : chkF Tryz.prog Tryz.f108 ir_chasemake_Stream_SpoiledLetter rs_chasemake_Stream_SpoiledLetter 85 = true := by kernel_rfl

/-- Letters as the makers make them: their sizes. -/
structure LtM (N : Nat) (m : Ltr) : Prop where
  b1 : m.id.length ≤ 30000
  b2 : m.fr.1.length ≤ 30000
  b3 : m.fr.2.length ≤ 30000
  b4 : m.tos.length ≤ N
  b5 : ∀ a ∈ m.tos, a.1.length ≤ 30000 ∧ a.2.length ≤ 30000
  b6 : m.ccs.length ≤ N
  b7 : ∀ a ∈ m.ccs, a.1.length ≤ 30000 ∧ a.2.length ≤ 30000
  b8 : m.refs.length ≤ N
  b9 : ∀ r ∈ m.refs, r.length ≤ 30000
  b10 : m.sub.length ≤ 30000
  b11 : m.body.length ≤ 30000
theorem LtM.big {N : Nat} {m : Ltr} (h : LtM N m) (hN : N ≤ 100000) : LtB m :=
  ⟨by have := h.b1; omega, by have := h.b2; omega, by have := h.b3; omega, by have := h.b4; omega, fun a ha => by have := h.b5 a ha; omega, by have := h.b6; omega, fun a ha => by have := h.b7 a ha; omega, by have := h.b8; omega, fun a ha => by have := h.b9 a ha; omega, by have := h.b10; omega, by have := h.b11; omega⟩
theorem LtM.le {N M : Nat} {m : Ltr} (h : LtM N m) (hN : N ≤ M) : LtM M m :=
  ⟨h.b1, h.b2, h.b3, Nat.le_trans h.b4 hN, h.b5, Nat.le_trans h.b6 hN, h.b7, Nat.le_trans h.b8 hN, h.b9, h.b10, h.b11⟩
section
variable {E : Envt}
theorem CloneA_ok (es : List (List PV)) (hn : es.length ≤ 1000000) : FCall Tryz.prog E 186 [.sl 2 es] tAdr 2 (· = es) := by
  unfold FCall
  refine gcallR mixed Tryz.func186 ck_slices_Clone_api_Address_api_Address ?_
  simp only [a0, l0, OS.ao, List.map_cons, List.map_nil, List.length_cons, List.length_nil, List.cons_append, List.nil_append, Nat.reduceSub, Nat.reduceAdd, List.replicate_succ, List.replicate_zero, ir_slices_Clone_api_Address_api_Address, rs_slices_Clone_api_Address_api_Address, ZZ, YY, Ze, ite_true, ite_false, forall_const, reduceCtorEq, Nat.reduceAdd, Nat.reduceMul, Nat.reduceLeDiff, Nat.reduceLT, Nat.reduceEqDiff]
  intro b hb
  refine br ?_ ?_
  · intro h
    have := hb h
    simp only [ZZ, YY, Ze, ite_true, ite_false, forall_const, reduceCtorEq, Nat.reduceAdd, Nat.reduceMul, Nat.reduceLeDiff, Nat.reduceLT, Nat.reduceEqDiff]
    exact fin_F 2 [] rfl rfl this.symm
  · intro h
    simp only [ZZ, YY, Ze, ite_true, ite_false, forall_const, reduceCtorEq, Nat.reduceAdd, Nat.reduceMul, Nat.reduceLeDiff, Nat.reduceLT, Nat.reduceEqDiff]
    exact ⟨by omega, fin_F 5 es rfl rfl rfl⟩
theorem Spoiled_ok (l : List Int) (k : Nat) (m : Ltr) (hm : LtM 100 m) (hk : k ≤ 900000) (hl : l.length ≤ 9223372036854775807) :
    SCall Tryz.prog E 108 T (stm l k) [.agg (ltV m)] (fun x cs' => ∃ m' k', x = .agg (ltV m') ∧ LtM 300 m' ∧ cs' = stm l k' ∧ k' ≤ k + 5) := by
  have hM := hm.le (M := 300) (by omega)
  unfold SCall
  refine gcallP mixed Tryz.func108 ck_chasemake_Stream_SpoiledLetter ?_
  simp only [a0, l0, OS.ao, List.map_cons, List.map_nil, List.length_cons, List.length_nil, List.cons_append, List.nil_append, Nat.reduceSub, Nat.reduceAdd, List.replicate_succ, List.replicate_zero, ir_chasemake_Stream_SpoiledLetter, rs_chasemake_Stream_SpoiledLetter, ZZ, YY, Ze, ite_true, ite_false, forall_const, reduceCtorEq, Nat.reduceAdd, Nat.reduceMul, Nat.reduceLeDiff, Nat.reduceLT, Nat.reduceEqDiff]
  simp only [ltV, ZZ, YY, Ze, ite_true, ite_false, forall_const, reduceCtorEq, Nat.reduceAdd, Nat.reduceMul, Nat.reduceLeDiff, Nat.reduceLT, Nat.reduceEqDiff]
  refine useS (Next_ok l k 9 (by omega) hl (by decide)) rfl rfl rfl (by simp only [ZZ, YY, Ze, ite_true, ite_false, forall_const, reduceCtorEq, Nat.reduceAdd, Nat.reduceMul, Nat.reduceLeDiff, Nat.reduceLT, Nat.reduceEqDiff]) ?_
  rintro x cs' ⟨y, rfl, rfl⟩
  generalize below y 9 = c
  simp only [ZZ, YY, Ze, ite_true, ite_false, forall_const, reduceCtorEq, Nat.reduceAdd, Nat.reduceMul, Nat.reduceLeDiff, Nat.reduceLT, Nat.reduceEqDiff]
  refine br ?_ ?_
  · intro _
    simp only [ZZ, YY, Ze, ite_true, ite_false, forall_const, reduceCtorEq, Nat.reduceAdd, Nat.reduceMul, Nat.reduceLeDiff, Nat.reduceLT, Nat.reduceEqDiff]
    refine use1 (RepeatG_ok [105] 80 (by omega) (by simp)) rfl (.inl rfl) ?_
    have g0 : (Lib.repeatL [105] 80).length = 80 := by rw [Lib.repeatL_length]; rfl
    generalize Lib.repeatL [105] 80 = r0 at g0 ⊢
    simp only [ZZ, YY, Ze, ite_true, ite_false, forall_const, reduceCtorEq, Nat.reduceAdd, Nat.reduceMul, Nat.reduceLeDiff, Nat.reduceLT, Nat.reduceEqDiff]
    refine use1 (RepeatG_ok [105] 81 (by omega) (by simp)) rfl (.inl rfl) ?_
    have g1 : (Lib.repeatL [105] 81).length = 81 := by rw [Lib.repeatL_length]; rfl
    generalize Lib.repeatL [105] 81 = r1 at g1 ⊢
    simp only [ZZ, YY, Ze, ite_true, ite_false, forall_const, reduceCtorEq, Nat.reduceAdd, Nat.reduceMul, Nat.reduceLeDiff, Nat.reduceLT, Nat.reduceEqDiff]
    refine useS (one_ok l (k + 1) [[], [97, 32, 98], [60, 120, 62], r0, r1] (by omega) hl (by simp) (by simp)) rfl rfl rfl (by simp only [ZZ, YY, Ze, ite_true, ite_false, forall_const, reduceCtorEq, Nat.reduceAdd, Nat.reduceMul, Nat.reduceLeDiff, Nat.reduceLT, Nat.reduceEqDiff]) ?_
    rintro x cs' ⟨u, rfl, hu, rfl⟩
    have hu : u.length ≤ 30000 := by simp only [List.mem_cons, List.not_mem_nil, or_false] at hu; rcases hu with rfl | rfl | rfl | rfl | rfl <;> first | omega | decide
    simp only [ZZ, YY, Ze, ite_true, ite_false, forall_const, reduceCtorEq, Nat.reduceAdd, Nat.reduceMul, Nat.reduceLeDiff, Nat.reduceLT, Nat.reduceEqDiff]
    refine cut_same (by simp only [ZZ, YY, Ze, ite_true, ite_false, forall_const, reduceCtorEq, Nat.reduceAdd, Nat.reduceMul, Nat.reduceLeDiff, Nat.reduceLT, Nat.reduceEqDiff]) ?_
    simp only [ZZ, YY, Ze, ite_true, ite_false, forall_const, reduceCtorEq, Nat.reduceAdd, Nat.reduceMul, Nat.reduceLeDiff, Nat.reduceLT, Nat.reduceEqDiff]
    exact fin_S (stm l (k + 1 + 1)) rfl ⟨{ m with id := u }, _, rfl, ⟨hu, hM.b2, hM.b3, hM.b4, hM.b5, hM.b6, hM.b7, hM.b8, hM.b9, hM.b10, hM.b11⟩, rfl, by omega⟩
  intro _
  simp only [ZZ, YY, Ze, ite_true, ite_false, forall_const, reduceCtorEq, Nat.reduceAdd, Nat.reduceMul, Nat.reduceLeDiff, Nat.reduceLT, Nat.reduceEqDiff]
  refine br ?_ ?_
  · intro _
    simp only [ZZ, YY, Ze, ite_true, ite_false, forall_const, reduceCtorEq, Nat.reduceAdd, Nat.reduceMul, Nat.reduceLeDiff, Nat.reduceLT, Nat.reduceEqDiff]
    refine useS (Pick_ok l (k + 1) [-1, 5761440] (by omega) hl (by simp) (by simp)) rfl rfl rfl (by simp only [ZZ, YY, Ze, ite_true, ite_false, forall_const, reduceCtorEq, Nat.reduceAdd, Nat.reduceMul, Nat.reduceLeDiff, Nat.reduceLT, Nat.reduceEqDiff]) ?_
    rintro x cs' ⟨u, rfl, hu, rfl⟩
    simp only [ZZ, YY, Ze, ite_true, ite_false, forall_const, reduceCtorEq, Nat.reduceAdd, Nat.reduceMul, Nat.reduceLeDiff, Nat.reduceLT, Nat.reduceEqDiff]
    refine cut_same (by simp only [ZZ, YY, Ze, ite_true, ite_false, forall_const, reduceCtorEq, Nat.reduceAdd, Nat.reduceMul, Nat.reduceLeDiff, Nat.reduceLT, Nat.reduceEqDiff]) ?_
    simp only [ZZ, YY, Ze, ite_true, ite_false, forall_const, reduceCtorEq, Nat.reduceAdd, Nat.reduceMul, Nat.reduceLeDiff, Nat.reduceLT, Nat.reduceEqDiff]
    exact fin_S (stm l (k + 1 + 1)) rfl ⟨{ m with at_ := u }, _, rfl, ⟨hM.b1, hM.b2, hM.b3, hM.b4, hM.b5, hM.b6, hM.b7, hM.b8, hM.b9, hM.b10, hM.b11⟩, rfl, by omega⟩
  intro _
  simp only [ZZ, YY, Ze, ite_true, ite_false, forall_const, reduceCtorEq, Nat.reduceAdd, Nat.reduceMul, Nat.reduceLeDiff, Nat.reduceLT, Nat.reduceEqDiff]
  refine br ?_ ?_
  · intro _
    simp only [ZZ, YY, Ze, ite_true, ite_false, forall_const, reduceCtorEq, Nat.reduceAdd, Nat.reduceMul, Nat.reduceLeDiff, Nat.reduceLT, Nat.reduceEqDiff]
    refine useS (one_ok l (k + 1) [[], [97, 110, 110], [65, 110, 110, 64, 98, 46, 100, 101]] (by omega) hl (by simp) (by simp)) rfl rfl rfl (by simp only [ZZ, YY, Ze, ite_true, ite_false, forall_const, reduceCtorEq, Nat.reduceAdd, Nat.reduceMul, Nat.reduceLeDiff, Nat.reduceLT, Nat.reduceEqDiff]) ?_
    rintro x cs' ⟨u, rfl, hu, rfl⟩
    have hu : u.length ≤ 30000 := by simp only [List.mem_cons, List.not_mem_nil, or_false] at hu; rcases hu with rfl | rfl | rfl <;> first | omega | decide
    simp only [ZZ, YY, Ze, ite_true, ite_false, forall_const, reduceCtorEq, Nat.reduceAdd, Nat.reduceMul, Nat.reduceLeDiff, Nat.reduceLT, Nat.reduceEqDiff]
    refine cut_same (by simp only [ZZ, YY, Ze, ite_true, ite_false, forall_const, reduceCtorEq, Nat.reduceAdd, Nat.reduceMul, Nat.reduceLeDiff, Nat.reduceLT, Nat.reduceEqDiff]) ?_
    simp only [ZZ, YY, Ze, ite_true, ite_false, forall_const, reduceCtorEq, Nat.reduceAdd, Nat.reduceMul, Nat.reduceLeDiff, Nat.reduceLT, Nat.reduceEqDiff]
    exact fin_S (stm l (k + 1 + 1)) rfl ⟨{ m with fr := (m.fr.1, u) }, _, rfl, ⟨hM.b1, hM.b2, hu, hM.b4, hM.b5, hM.b6, hM.b7, hM.b8, hM.b9, hM.b10, hM.b11⟩, rfl, by omega⟩
  intro _
  simp only [ZZ, YY, Ze, ite_true, ite_false, forall_const, reduceCtorEq, Nat.reduceAdd, Nat.reduceMul, Nat.reduceLeDiff, Nat.reduceLT, Nat.reduceEqDiff]
  refine br ?_ ?_
  · intro _
    simp only [ZZ, YY, Ze, ite_true, ite_false, forall_const, reduceCtorEq, Nat.reduceAdd, Nat.reduceMul, Nat.reduceLeDiff, Nat.reduceLT, Nat.reduceEqDiff]
    refine use1 (RepeatG_ok [110] 61 (by omega) (by simp)) rfl (.inl rfl) ?_
    have g0 : (Lib.repeatL [110] 61).length = 61 := by rw [Lib.repeatL_length]; rfl
    generalize Lib.repeatL [110] 61 = r0 at g0 ⊢
    simp only [ZZ, YY, Ze, ite_true, ite_false, forall_const, reduceCtorEq, Nat.reduceAdd, Nat.reduceMul, Nat.reduceLeDiff, Nat.reduceLT, Nat.reduceEqDiff]
    refine useS (one_ok l (k + 1) [[32, 120], [97, 32, 32, 98], [97, 34, 98], r0] (by omega) hl (by simp) (by simp)) rfl rfl rfl (by simp only [ZZ, YY, Ze, ite_true, ite_false, forall_const, reduceCtorEq, Nat.reduceAdd, Nat.reduceMul, Nat.reduceLeDiff, Nat.reduceLT, Nat.reduceEqDiff]) ?_
    rintro x cs' ⟨u, rfl, hu, rfl⟩
    have hu : u.length ≤ 30000 := by simp only [List.mem_cons, List.not_mem_nil, or_false] at hu; rcases hu with rfl | rfl | rfl | rfl <;> first | omega | decide
    simp only [ZZ, YY, Ze, ite_true, ite_false, forall_const, reduceCtorEq, Nat.reduceAdd, Nat.reduceMul, Nat.reduceLeDiff, Nat.reduceLT, Nat.reduceEqDiff]
    refine cut_same (by simp only [ZZ, YY, Ze, ite_true, ite_false, forall_const, reduceCtorEq, Nat.reduceAdd, Nat.reduceMul, Nat.reduceLeDiff, Nat.reduceLT, Nat.reduceEqDiff]) ?_
    simp only [ZZ, YY, Ze, ite_true, ite_false, forall_const, reduceCtorEq, Nat.reduceAdd, Nat.reduceMul, Nat.reduceLeDiff, Nat.reduceLT, Nat.reduceEqDiff]
    exact fin_S (stm l (k + 1 + 1)) rfl ⟨{ m with fr := (u, m.fr.2) }, _, rfl, ⟨hM.b1, hu, hM.b3, hM.b4, hM.b5, hM.b6, hM.b7, hM.b8, hM.b9, hM.b10, hM.b11⟩, rfl, by omega⟩
  intro _
  simp only [ZZ, YY, Ze, ite_true, ite_false, forall_const, reduceCtorEq, Nat.reduceAdd, Nat.reduceMul, Nat.reduceLeDiff, Nat.reduceLT, Nat.reduceEqDiff]
  refine br ?_ ?_
  · intro _
    simp only [ZZ, YY, Ze, ite_true, ite_false, forall_const, reduceCtorEq, Nat.reduceAdd, Nat.reduceMul, Nat.reduceLeDiff, Nat.reduceLT, Nat.reduceEqDiff]
    refine useF (CloneA_ok (adrE m.tos) (by rw [adrE_len]; have := hm.b4; omega)) rfl rfl ?_
    rintro es rfl
    simp only [ZZ, YY, Ze, ite_true, ite_false, forall_const, reduceCtorEq, Nat.reduceAdd, Nat.reduceMul, Nat.reduceLeDiff, Nat.reduceLT, Nat.reduceEqDiff]
    refine useS (one_ok l (k + 1) [[97, 110, 110, 64, 102, 105, 114, 109, 46, 100, 101], [98, 111, 64, 102, 105, 114, 109, 46, 100, 101], []] (by omega) hl (by simp) (by simp)) rfl rfl rfl (by simp only [ZZ, YY, Ze, ite_true, ite_false, forall_const, reduceCtorEq, Nat.reduceAdd, Nat.reduceMul, Nat.reduceLeDiff, Nat.reduceLT, Nat.reduceEqDiff]) ?_
    rintro x cs' ⟨u, rfl, hu, rfl⟩
    have hu : u.length ≤ 30000 := by simp only [List.mem_cons, List.not_mem_nil, or_false] at hu; rcases hu with rfl | rfl | rfl <;> first | omega | decide
    simp only [ZZ, YY, Ze, ite_true, ite_false, forall_const, reduceCtorEq, Nat.reduceAdd, Nat.reduceMul, Nat.reduceLeDiff, Nat.reduceLT, Nat.reduceEqDiff]
    have g4 := hm.b4
    refine ⟨by rw [adrE_len]; omega, ?_⟩
    refine cut_re _ _ (re_row (k := .l 47) rfl) ?_
    simp only [ZZ, YY, Ze, ite_true, ite_false, forall_const, reduceCtorEq, Nat.reduceAdd, Nat.reduceMul, Nat.reduceLeDiff, Nat.reduceLT, Nat.reduceEqDiff]
    exact fin_S (stm l (k + 1 + 1)) rfl ⟨{ m with tos := m.tos ++ [([], u)] }, _, by simp only [ltV, adrE, List.map_append]; rfl, ⟨hM.b1, hM.b2, hM.b3, (by simp; omega), (fun a ha => by rcases List.mem_append.1 ha with ha | ha; exact hM.b5 a ha; rw [List.mem_singleton] at ha; subst ha; exact ⟨by simp, hu⟩), hM.b6, hM.b7, hM.b8, hM.b9, hM.b10, hM.b11⟩, rfl, by omega⟩
  intro _
  simp only [ZZ, YY, Ze, ite_true, ite_false, forall_const, reduceCtorEq, Nat.reduceAdd, Nat.reduceMul, Nat.reduceLeDiff, Nat.reduceLT, Nat.reduceEqDiff]
  refine br ?_ ?_
  · intro _
    simp only [ZZ, YY, Ze, ite_true, ite_false, forall_const, reduceCtorEq, Nat.reduceAdd, Nat.reduceMul, Nat.reduceLeDiff, Nat.reduceLT, Nat.reduceEqDiff]
    refine drg1 (x1 := .sl 1 (strE m.refs)) ?_
    simp only [ZZ, YY, Ze, ite_true, ite_false, forall_const, reduceCtorEq, Nat.reduceAdd, Nat.reduceMul, Nat.reduceLeDiff, Nat.reduceLT, Nat.reduceEqDiff]
    have g8 := hm.b8
    refine ⟨useFD (CloneS_ok (strE m.refs) (by rw [strE_len]; omega)), ?_⟩
    refine useD (one_ok l (k + 1) [m.id, [103, 111, 110, 101, 49], [103, 111, 110, 101, 49], []] (by omega) hl (by simp) (by simp)) ⟨_, _, m.id, rfl, by simp, rfl⟩ rfl rfl rfl (by simp only [ZZ, YY, Ze, ite_true, ite_false, forall_const, reduceCtorEq, Nat.reduceAdd, Nat.reduceMul, Nat.reduceLeDiff, Nat.reduceLT, Nat.reduceEqDiff]) (fun _ => ⟨0, rfl⟩) ?_
    rintro x cs' ⟨u, rfl, hu, rfl⟩
    have hu : u.length ≤ 30000 := by simp only [List.mem_cons, List.not_mem_nil, or_false] at hu; rcases hu with rfl | rfl | rfl | rfl <;> first | exact hM.b1 | decide
    simp only [ZZ, YY, Ze, ite_true, ite_false, forall_const, reduceCtorEq, Nat.reduceAdd, Nat.reduceMul, Nat.reduceLeDiff, Nat.reduceLT, Nat.reduceEqDiff]
    refine ⟨by rw [strE_len]; omega, ?_⟩
    refine cut_re _ _ (re_row (k := .l 59) rfl) ?_
    simp only [ZZ, YY, Ze, ite_true, ite_false, forall_const, reduceCtorEq, Nat.reduceAdd, Nat.reduceMul, Nat.reduceLeDiff, Nat.reduceLT, Nat.reduceEqDiff]
    exact fin_S (stm l (k + 1 + 1)) rfl ⟨{ m with refs := m.refs ++ [u] }, _, by simp only [ltV, strE_app]; rfl, ⟨hM.b1, hM.b2, hM.b3, hM.b4, hM.b5, hM.b6, hM.b7, (by simp; have := hm.b8; omega), (fun a ha => by rcases List.mem_append.1 ha with ha | ha; exact hM.b9 a ha; rw [List.mem_singleton] at ha; subst ha; exact hu), hM.b10, hM.b11⟩, rfl, by omega⟩
  intro _
  simp only [ZZ, YY, Ze, ite_true, ite_false, forall_const, reduceCtorEq, Nat.reduceAdd, Nat.reduceMul, Nat.reduceLeDiff, Nat.reduceLT, Nat.reduceEqDiff]
  refine br ?_ ?_
  · intro _
    simp only [ZZ, YY, Ze, ite_true, ite_false, forall_const, reduceCtorEq, Nat.reduceAdd, Nat.reduceMul, Nat.reduceLeDiff, Nat.reduceLT, Nat.reduceEqDiff]
    refine use1 (RepeatG_ok [115] 200 (by omega) (by simp)) rfl (.inl rfl) ?_
    have g0 : (Lib.repeatL [115] 200).length = 200 := by rw [Lib.repeatL_length]; rfl
    generalize Lib.repeatL [115] 200 = r0 at g0 ⊢
    simp only [ZZ, YY, Ze, ite_true, ite_false, forall_const, reduceCtorEq, Nat.reduceAdd, Nat.reduceMul, Nat.reduceLeDiff, Nat.reduceLT, Nat.reduceEqDiff]
    refine use1 (RepeatG_ok [115] 201 (by omega) (by simp)) rfl (.inl rfl) ?_
    have g1 : (Lib.repeatL [115] 201).length = 201 := by rw [Lib.repeatL_length]; rfl
    generalize Lib.repeatL [115] 201 = r1 at g1 ⊢
    simp only [ZZ, YY, Ze, ite_true, ite_false, forall_const, reduceCtorEq, Nat.reduceAdd, Nat.reduceMul, Nat.reduceLeDiff, Nat.reduceLT, Nat.reduceEqDiff]
    refine useS (one_ok l (k + 1) [[32, 120], [97, 32, 32, 98], r0, r1, [97, 9, 98]] (by omega) hl (by simp) (by simp)) rfl rfl rfl (by simp only [ZZ, YY, Ze, ite_true, ite_false, forall_const, reduceCtorEq, Nat.reduceAdd, Nat.reduceMul, Nat.reduceLeDiff, Nat.reduceLT, Nat.reduceEqDiff]) ?_
    rintro x cs' ⟨u, rfl, hu, rfl⟩
    have hu : u.length ≤ 30000 := by simp only [List.mem_cons, List.not_mem_nil, or_false] at hu; rcases hu with rfl | rfl | rfl | rfl | rfl <;> first | omega | decide
    simp only [ZZ, YY, Ze, ite_true, ite_false, forall_const, reduceCtorEq, Nat.reduceAdd, Nat.reduceMul, Nat.reduceLeDiff, Nat.reduceLT, Nat.reduceEqDiff]
    refine cut_same (by simp only [ZZ, YY, Ze, ite_true, ite_false, forall_const, reduceCtorEq, Nat.reduceAdd, Nat.reduceMul, Nat.reduceLeDiff, Nat.reduceLT, Nat.reduceEqDiff]) ?_
    simp only [ZZ, YY, Ze, ite_true, ite_false, forall_const, reduceCtorEq, Nat.reduceAdd, Nat.reduceMul, Nat.reduceLeDiff, Nat.reduceLT, Nat.reduceEqDiff]
    exact fin_S (stm l (k + 1 + 1)) rfl ⟨{ m with sub := u }, _, rfl, ⟨hM.b1, hM.b2, hM.b3, hM.b4, hM.b5, hM.b6, hM.b7, hM.b8, hM.b9, hu, hM.b11⟩, rfl, by omega⟩
  intro _
  simp only [ZZ, YY, Ze, ite_true, ite_false, forall_const, reduceCtorEq, Nat.reduceAdd, Nat.reduceMul, Nat.reduceLeDiff, Nat.reduceLT, Nat.reduceEqDiff]
  refine br ?_ ?_
  · intro _
    simp only [ZZ, YY, Ze, ite_true, ite_false, forall_const, reduceCtorEq, Nat.reduceAdd, Nat.reduceMul, Nat.reduceLeDiff, Nat.reduceLT, Nat.reduceEqDiff]
    refine use1 (RepeatG_ok [98] 20000 (by omega) (by simp)) rfl (.inl rfl) ?_
    have g0 : (Lib.repeatL [98] 20000).length = 20000 := by rw [Lib.repeatL_length]; rfl
    generalize Lib.repeatL [98] 20000 = r0 at g0 ⊢
    simp only [ZZ, YY, Ze, ite_true, ite_false, forall_const, reduceCtorEq, Nat.reduceAdd, Nat.reduceMul, Nat.reduceLeDiff, Nat.reduceLT, Nat.reduceEqDiff]
    refine ⟨by simp [g0], ?_⟩
    refine useS (one_ok l (k + 1) [[120], [97, 9, 98, 10], [255, 10], r0 ++ [10]] (by omega) hl (by simp) (by simp)) rfl rfl rfl (by simp only [ZZ, YY, Ze, ite_true, ite_false, forall_const, reduceCtorEq, Nat.reduceAdd, Nat.reduceMul, Nat.reduceLeDiff, Nat.reduceLT, Nat.reduceEqDiff]) ?_
    rintro x cs' ⟨u, rfl, hu, rfl⟩
    have hu : u.length ≤ 30000 := by simp only [List.mem_cons, List.not_mem_nil, or_false] at hu; rcases hu with rfl | rfl | rfl | rfl <;> first | decide | (rw [List.length_append, g0]; decide)
    simp only [ZZ, YY, Ze, ite_true, ite_false, forall_const, reduceCtorEq, Nat.reduceAdd, Nat.reduceMul, Nat.reduceLeDiff, Nat.reduceLT, Nat.reduceEqDiff]
    refine cut_same (by simp only [ZZ, YY, Ze, ite_true, ite_false, forall_const, reduceCtorEq, Nat.reduceAdd, Nat.reduceMul, Nat.reduceLeDiff, Nat.reduceLT, Nat.reduceEqDiff]) ?_
    simp only [ZZ, YY, Ze, ite_true, ite_false, forall_const, reduceCtorEq, Nat.reduceAdd, Nat.reduceMul, Nat.reduceLeDiff, Nat.reduceLT, Nat.reduceEqDiff]
    exact fin_S (stm l (k + 1 + 1)) rfl ⟨{ m with body := u }, _, rfl, ⟨hM.b1, hM.b2, hM.b3, hM.b4, hM.b5, hM.b6, hM.b7, hM.b8, hM.b9, hM.b10, hu⟩, rfl, by omega⟩
  intro _
  simp only [ZZ, YY, Ze, ite_true, ite_false, forall_const, reduceCtorEq, Nat.reduceAdd, Nat.reduceMul, Nat.reduceLeDiff, Nat.reduceLT, Nat.reduceEqDiff]
  refine drg1 (x1 := .sl 2 (adrE m.ccs)) ?_
  simp only [ZZ, YY, Ze, ite_true, ite_false, forall_const, reduceCtorEq, Nat.reduceAdd, Nat.reduceMul, Nat.reduceLeDiff, Nat.reduceLT, Nat.reduceEqDiff]
  have g4 := hm.b4
  have g6 := hm.b6
  refine ⟨useFD (CloneA_ok (adrE m.ccs) (by rw [adrE_len]; omega)), ?_⟩
  refine ⟨by rw [adrE_len, adrE_len]; omega, ?_⟩
  refine cut_re _ _ (re_row (k := .l 9) rfl) ?_
  simp only [ZZ, YY, Ze, ite_true, ite_false, forall_const, reduceCtorEq, Nat.reduceAdd, Nat.reduceMul, Nat.reduceLeDiff, Nat.reduceLT, Nat.reduceEqDiff]
  exact fin_S (stm l (k + 1)) rfl ⟨{ m with ccs := m.ccs ++ m.tos }, _, by simp only [ltV, adrE, List.map_append], ⟨hM.b1, hM.b2, hM.b3, hM.b4, hM.b5, (by simp; have := hm.b4; have := hm.b6; omega), (fun a ha => (List.mem_append.1 ha).elim (hM.b7 a) (hM.b5 a)), hM.b8, hM.b9, hM.b10, hM.b11⟩, rfl, by omega⟩
end
end Go.Proofs.YtidmphcocnaonaaGreatDoor

/- Fields of strings: the library's variable for it beside the others. -/
namespace Go.Proofs.YtidmphcocnaonaaGreatDoor
open Go.RowKit
set_option linter.unusedVariables false
set_option linter.unusedSimpArgs false
set_option linter.defProp false

theorem var_block6 {P : Program} {w w' : World} {n : String} {g : Nat} (hg : P.globalNamed n = some g) (hb : w'.heap[g]? = w.heap[g]?) : w'.var? P n = w.var? P n := by
  simp only [World.var?, hg, Option.bind_some, hb]
/-- E0, and the variable that fields read. -/
def E6 : Envt where
  ok w := E0.ok w ∧ Lib.TabIs Tryz.prog w "strings.asciiSpace" .u8 Lib.asciiSpaceTab
  bl b := E0.bl b ∨ b = 1
  mono w w' hb h := ⟨E0.mono w w' (fun b hbb => hb b (.inl hbb)) h.1, (var_block6 (by kernel_rfl) (hb _ (.inr rfl))).trans h.2⟩
theorem up6 {f : FuncId} {args : List PV} {φ : PV → Prop} (h : PCall Tryz.prog E0 f args φ) : PCall Tryz.prog E6 f args φ := fun w U vs hU hE hEb hA => h w U vs hU hE.1 (fun c hc => hEb c (.inl hc)) hA
theorem repE_fl6 {w : World} {U : Nat → Prop} {b : Nat} : ∀ (l : List (List UInt8)) (off : Nat), (∀ i x, l[i]? = some x → w.cell? ⟨b, off + i, none⟩ = some (.string ⟨x.toArray⟩)) → PRepE w U b 1 off (strE l)
  | [], off, h => trivial
  | x :: r, off, h => by
    refine ⟨rfl, ⟨⟨.string ⟨x.toArray⟩, by simpa using h 0 _ rfl, rfl, rfl⟩, trivial⟩, repE_fl6 r (off + 1) fun i u hu => ?_⟩
    have := h (i + 1) u (by simpa using hu)
    rwa [show off + (i + 1) = off + 1 + i from by omega] at this
theorem Fields6_ok (s : List UInt8) (hs : s.length ≤ 1000000) (ha : s.all (fun b => decide (b.toNat < 128)) = true) : PCall Tryz.prog E6 176 [.str s] (· = .sl 1 (strE (Lib.fields s))) := by
  intro w U vs hU hE hEb hA
  have : vs = [.string ⟨s.toArray⟩] := (PRepL.valD rfl).1 hA
  subst this
  have hdt : (⟨s.toArray⟩ : ByteArray).data.toList = s := by simp
  refine (Any.strings_Fields_laid Tryz.layFields ⟨s.toArray⟩ w (by rw [ba_size]; omega) (fun j b hb => of_decide_eq_true (List.all_eq_true.1 ha b (List.mem_of_getElem? (by simpa using hb)))) hE.2).mono ?_
  rw [hdt]
  rintro e w' ⟨rfl, rfl⟩
  refine ⟨_, _, rfl, rfl, ?_, ⟨rfl, rfl, rfl, by simp, fun k hk _ => Lib.alloc_old w _ k hk⟩⟩
  refine ⟨some ⟨w.heap.size, 0, none⟩, (Lib.fields s).length, by rw [strE_len], by rw [strE_len]; exact Nat.le_refl _, fun _ => ⟨w.heap.size, 0, rfl, by simp, fun h => by have := hU _ h; omega, ?_⟩⟩
  refine repE_fl6 _ 0 fun i x hx => ?_
  rw [Lib.cell_of_heap (heap_alloc_new w _)]
  simp [hx]
end Go.Proofs.YtidmphcocnaonaaGreatDoor
