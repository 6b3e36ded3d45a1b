
/- Own texts, put together: C6 N1 N2 M2 N3 M3. -/
import Derived.Test.YthfpehmbellmcaaGreatDoorZ5
import Derived.Test.YthfpehmbellmcaaGreatDoorSpec
import Derived.Test.YthfpehmbellmcaaGreatDoorLaySplit
import Derived.Lib.SplitLaws
import Derived.Test.YthfpehmbellmcaaGreatDoorZ1
/- Letters and words. -/
namespace Go.Proofs.YthfpehmbellmcaaGreatDoor
open Go.RowKit
set_option linter.unusedVariables false
set_option linter.unusedSimpArgs false
set_option linter.defProp false

/- paperchase/base.Digit -/
def ir_base_Digit : IC :=
  (.seq (.reg [⟨some 2, .mov (.c (.bool false)), none⟩])
    (.seq (.reg [⟨some 3, .mov (.t 0), none⟩,
      ⟨some 4, .bin .geq (.t 3) (.c (.int .u8 48)), none⟩,
      ⟨some 5, .mov (.t 4), none⟩,
      ⟨some 6, .mov (.t 0), (some (5, true))⟩,
      ⟨some 7, .bin .leq (.t 6) (.c (.int .u8 57)), (some (5, true))⟩,
      ⟨some 8, .pick (.t 5) (.t 7) (.c (.bool false)), none⟩,
      ⟨some 2, .mov (.t 8), none⟩])
    .ret))
def rs_base_Digit : List IRes := [.t 2]
theorem ck_base_Digit : chkF Tryz.prog Tryz.f148 ir_base_Digit rs_base_Digit 9 = true := by kernel_rfl
/- paperchase/near.letter -/
def ir_near_letter : IC :=
  (.seq (.reg [⟨some 2, .mov (.c (.bool false)), none⟩])
    (.seq (.reg [⟨some 3, .mov (.t 0), none⟩,
      ⟨some 4, .bin .geq (.t 3) (.c (.int .u8 97)), none⟩,
      ⟨some 5, .mov (.t 4), none⟩,
      ⟨some 6, .mov (.t 0), (some (5, true))⟩,
      ⟨some 7, .bin .leq (.t 6) (.c (.int .u8 122)), (some (5, true))⟩,
      ⟨some 8, .pick (.t 5) (.t 7) (.c (.bool false)), none⟩,
      ⟨some 9, .mov (.t 8), none⟩,
      ⟨some 10, .mov (.t 0), (some (9, false))⟩,
      ⟨some 11, .bin .geq (.t 10) (.c (.int .u8 65)), (some (9, false))⟩,
      ⟨some 12, .mov (.t 11), (some (9, false))⟩,
      ⟨some 13, .mov (.t 0), (some (12, true))⟩,
      ⟨some 14, .bin .leq (.t 13) (.c (.int .u8 90)), (some (12, true))⟩,
      ⟨some 15, .pick (.t 12) (.t 14) (.c (.bool false)), (some (9, false))⟩,
      ⟨some 16, .pick (.t 9) (.c (.bool true)) (.t 15), none⟩,
      ⟨some 17, .mov (.t 16), none⟩,
      ⟨some 18, .mov (.t 0), (some (17, false))⟩,
      ⟨some 19, .call 148 [.t 18], (some (17, false))⟩,
      ⟨some 20, .pick (.t 17) (.c (.bool true)) (.t 19), none⟩,
      ⟨some 21, .mov (.t 20), none⟩,
      ⟨some 22, .mov (.t 0), (some (21, false))⟩,
      ⟨some 23, .bin .geq (.t 22) (.c (.int .u8 128)), (some (21, false))⟩,
      ⟨some 24, .pick (.t 21) (.c (.bool true)) (.t 23), none⟩,
      ⟨some 2, .mov (.t 24), none⟩])
    .ret))
def rs_near_letter : List IRes := [.t 2]
theorem ck_near_letter : chkF Tryz.prog Tryz.f149 ir_near_letter rs_near_letter 25 = true := by kernel_rfl
/- paperchase/near.Words -/
def ir_near_Words_L0 : IC :=
  (.seq (.seq (.reg [⟨some 7, .mov (.t 5), none⟩,
      ⟨some 8, .mov (.t 0), none⟩,
      ⟨some 9, .sln (.t 8), none⟩,
      ⟨some 10, .bin .leq (.t 7) (.t 9), none⟩])
    (.cond (.t 10) .skip (.exit 0)))
    (.seq (.block 1 (.seq (.reg [⟨some 13, .mov (.t 5), none⟩,
      ⟨some 14, .mov (.t 0), none⟩,
      ⟨some 15, .sln (.t 14), none⟩,
      ⟨some 16, .bin .lss (.t 13) (.t 15), none⟩,
      ⟨some 17, .mov (.t 16), none⟩,
      ⟨some 18, .mov (.t 0), (some (17, true))⟩,
      ⟨some 19, .mov (.t 5), (some (17, true))⟩,
      ⟨some 20, .idx (.t 18) (.t 19), (some (17, true))⟩,
      ⟨some 21, .call 149 [.t 20], (some (17, true))⟩,
      ⟨some 22, .pick (.t 17) (.t 21) (.c (.bool false)), none⟩,
      ⟨some 6, .mov (.t 22), none⟩])
    (.seq (.seq (.reg [⟨some 23, .mov (.t 6), none⟩,
      ⟨some 24, .mov (.t 23), none⟩,
      ⟨some 25, .mov (.t 4), (some (24, true))⟩,
      ⟨some 26, .bin .lss (.t 25) (.c (.int .i64 0)), (some (24, true))⟩,
      ⟨some 27, .pick (.t 24) (.t 26) (.c (.bool false)), none⟩])
    (.cond (.t 27) (.reg [⟨some 28, .mov (.t 5), none⟩,
      ⟨some 4, .mov (.t 28), none⟩]) .skip))
    (.cut (.seq (.reg [⟨some 29, .mov (.t 6), none⟩,
      ⟨some 30, .not (.t 29), none⟩,
      ⟨some 31, .mov (.t 30), none⟩,
      ⟨some 32, .mov (.t 4), (some (31, true))⟩,
      ⟨some 33, .bin .geq (.t 32) (.c (.int .i64 0)), (some (31, true))⟩,
      ⟨some 34, .pick (.t 31) (.t 33) (.c (.bool false)), none⟩])
    (.cond (.t 34) (.seq (.reg [⟨some 35, .mov (.t 3), none⟩,
      ⟨some 36, .mov (.t 0), none⟩,
      ⟨some 37, .mov (.t 4), none⟩,
      ⟨some 38, .mov (.t 5), none⟩,
      ⟨some 39, .ssl (.t 36) (some (.t 37)) (some (.t 38)), none⟩,
      ⟨some 40, .call 150 [.t 39], none⟩,
      ⟨some 41, .bsl 1 [.t 40], none⟩,
      ⟨some 42, .app 9 1 16 (.t 35) (.t 41), none⟩,
      ⟨some 3, .mov (.t 42), none⟩])
    (.reg [⟨some 4, .mov (.c (.int .i64 (-1))), none⟩])) .skip))))))
    (.cut (.reg [⟨some 11, .mov (.t 5), none⟩,
      ⟨some 12, .bin .add (.t 11) (.c (.int .i64 1)), none⟩,
      ⟨some 5, .mov (.t 12), none⟩]))))
def ir_near_Words : IC :=
  (.seq (.reg [⟨some 2, .mov (.c (.nl 1)), none⟩])
    (.seq (.reg [⟨some 3, .nilr 9 1, none⟩])
    (.seq (.reg [⟨some 4, .mov (.c (.int .i64 (-1))), none⟩])
    (.seq (.seq (.reg [⟨some 5, .mov (.c (.int .i64 0)), none⟩])
    (.block 0 (.loop ir_near_Words_L0)))
    (.seq (.reg [⟨some 43, .mov (.t 3), none⟩,
      ⟨some 2, .mov (.t 43), none⟩])
    .ret)))))
def rs_near_Words : List IRes := [.t 2]
theorem ck_near_Words : chkF Tryz.prog Tryz.f111 ir_near_Words rs_near_Words 44 = true := by kernel_rfl
abbrev tStr : Nat := 9
def digB (c : UInt8) : Bool := decide (48 ≤ (c.toNat : Int)) && decide ((c.toNat : Int) ≤ 57)
def letB (c : UInt8) : Bool := ((decide (97 ≤ (c.toNat : Int)) && decide ((c.toNat : Int) ≤ 122) || decide (65 ≤ (c.toNat : Int)) && decide ((c.toNat : Int) ≤ 90)) || digB c) || decide (128 ≤ (c.toNat : Int))
theorem letB_spec (c : UInt8) : letB c = Sp.isLet c := all256 (p := fun c => letB c = Sp.isLet c) (by decide +kernel) c
section
variable {E : Envt}
theorem Digit_ok (c : UInt8) : PCall Tryz.prog E 148 [.int .u8 (c.toNat : Nat)] (· = .bool (digB c)) := by
  refine pcallF mixed Tryz.func148 ck_base_Digit ?_
  simp only [a0, l0, OS.ao, List.map_cons, List.map_nil, List.length_cons, List.length_nil, List.cons_append, List.nil_append, Nat.reduceSub, Nat.reduceAdd, List.replicate_succ, List.replicate_zero, ir_base_Digit, rs_base_Digit, ZZ, YY, Ze, ite_true, ite_false, forall_const, reduceCtorEq, Nat.reduceAdd, Nat.reduceMul, Nat.reduceLeDiff, Nat.reduceLT, Nat.reduceEqDiff]
  ((repeat' (with_reducible apply And.intro)) <;> try ((first | first | assumption | trivial | exact (fun hq => by rw [hq]; rfl) | exact i64_of (by omega) (by omega) | omega | (simp; done) | (simp; omega) | (intro hsc; have hs0 := hsc; (try have hsd := of_decide_eq_true hsc); (try simp only [Bool.not_eq_true', Bool.or_eq_false_iff, Bool.and_eq_true, Bool.or_eq_true, decide_eq_true_eq, decide_eq_false_iff_not] at hsc); (repeat' (with_reducible apply And.intro)) <;> (first | assumption | trivial | exact (fun hq => by rw [hq]; rfl) | exact i64_of (by omega) (by omega) | omega | (simp; done) | (simp; omega) | (intro hse; simp [hse, hs0]; done) | (intro hse; simp only [hse, hs0, Bool.true_and, Bool.and_true, Bool.not_false, Bool.not_true, Bool.and_self]; done))))))
theorem letter_ok (c : UInt8) : PCall Tryz.prog E 149 [.int .u8 (c.toNat : Nat)] (· = .bool (letB c)) := by
  refine pcallF mixed Tryz.func149 ck_near_letter ?_
  simp only [a0, l0, OS.ao, List.map_cons, List.map_nil, List.length_cons, List.length_nil, List.cons_append, List.nil_append, Nat.reduceSub, Nat.reduceAdd, List.replicate_succ, List.replicate_zero, ir_near_letter, rs_near_letter, ZZ, YY, Ze, ite_true, ite_false, forall_const, reduceCtorEq, Nat.reduceAdd, Nat.reduceMul, Nat.reduceLeDiff, Nat.reduceLT, Nat.reduceEqDiff]
  ((repeat' (with_reducible apply And.intro)) <;> try ((first | first | assumption | trivial | exact (fun hq => by rw [hq]; rfl) | exact i64_of (by omega) (by omega) | omega | (simp; done) | (simp; omega) | (intro hsc; have hs0 := hsc; (try have hsd := of_decide_eq_true hsc); (try simp only [Bool.not_eq_true', Bool.or_eq_false_iff, Bool.and_eq_true, Bool.or_eq_true, decide_eq_true_eq, decide_eq_false_iff_not] at hsc); (repeat' (with_reducible apply And.intro)) <;> (first | assumption | trivial | exact (fun hq => by rw [hq]; rfl) | exact i64_of (by omega) (by omega) | omega | (simp; done) | (simp; omega) | (intro hse; simp [hse, hs0]; done) | (intro hse; simp only [hse, hs0, Bool.true_and, Bool.and_true, Bool.not_false, Bool.not_true, Bool.and_self]; done))))))
  refine useG (fun _ => Digit_ok c) rfl (.inl rfl) ?_
  simp only [ZZ, YY, Ze, ite_true, ite_false, forall_const, reduceCtorEq, Nat.reduceAdd, Nat.reduceMul, Nat.reduceLeDiff, Nat.reduceLT, Nat.reduceEqDiff]
  ((repeat' (with_reducible apply And.intro)) <;> try ((first | first | assumption | trivial | exact (fun hq => by rw [hq]; rfl) | exact i64_of (by omega) (by omega) | omega | (simp; done) | (simp; omega) | (intro hsc; have hs0 := hsc; (try have hsd := of_decide_eq_true hsc); (try simp only [Bool.not_eq_true', Bool.or_eq_false_iff, Bool.and_eq_true, Bool.or_eq_true, decide_eq_true_eq, decide_eq_false_iff_not] at hsc); (repeat' (with_reducible apply And.intro)) <;> (first | assumption | trivial | exact (fun hq => by rw [hq]; rfl) | exact i64_of (by omega) (by omega) | omega | (simp; done) | (simp; omega) | (intro hse; simp [hse, hs0]; done) | (intro hse; simp only [hse, hs0, Bool.true_and, Bool.and_true, Bool.not_false, Bool.not_true, Bool.and_self]; done))))))
def wordF (t : List UInt8) (p : Nat × Nat) : List UInt8 := lowF (Sp.part t p)
def wordsF (t : List UInt8) : List (List UInt8) := (Sp.spans t).map (wordF t)
def strE (l : List (List UInt8)) : List (List PV) := l.map fun x => [PV.str x]
theorem strE_len (l : List (List UInt8)) : (strE l).length = l.length := by simp [strE]
theorem strE_app (l m : List (List UInt8)) : strE (l ++ m) = strE l ++ strE m := by simp [strE]
theorem strs_eq (l : List (List UInt8)) : strs l = .sl 1 (strE l) := rfl
theorem strE_get {l : List (List UInt8)} {k : Nat} {x : List UInt8} (h : l[k]? = some x) : (strE l).getD k [] = [.str x] := getD_map h
theorem strE_one (x : List UInt8) : [[PV.str x]] = strE [x] := rfl
def fromI (f : Option Nat) : Int := match f with | none => -1 | some a => (a : Int)
theorem Words_ok (t : List UInt8) (ht : t.length ≤ 1000000000) : PCall Tryz.prog E 111 [.str t] (· = strs (wordsF t)) := by
  refine pcallF mixed Tryz.func111 ck_near_Words ?_
  simp only [a0, l0, OS.ao, List.map_cons, List.map_nil, List.length_cons, List.length_nil, List.cons_append, List.nil_append, Nat.reduceSub, Nat.reduceAdd, List.replicate_succ, List.replicate_zero, ir_near_Words, rs_near_Words, ZZ, YY, Ze, ite_true, ite_false, forall_const, reduceCtorEq, Nat.reduceAdd, Nat.reduceMul, Nat.reduceLeDiff, Nat.reduceLT, Nat.reduceEqDiff]
  refine loop_intro (fun n fr L => ∃ (i : Nat) (f : Option Nat) (l : List (List UInt8)), t.length + 1 - i = n ∧ (i ≤ t.length + 1) ∧ (∀ a, f = some a → a < i ∧ i ≤ t.length) ∧ (l.length ≤ i) ∧ (l ++ (Sp.wsp i f (t.drop i)).map (wordF t) = wordsF t) ∧ fr = [.p (.str t), .any, .any, .row (.l 3), .p (int (fromI f)), .p (int (i : Nat)), .any, .any, .any, .any, .any, .any, .any, .any, .any, .any, .any, .any, .any, .any, .any, .any, .any, .any, .any, .any, .any, .any, .any, .any, .any, .any, .any, .any, .any, .any, .any, .any, .any, .any, .any, .any, .any, .any] ∧ L = [(.l 3, .row (strE l) tStr 1 true)]) (t.length + 1 - 0) [.p (.str t), .any, .any, .row (.l 3), .p (int (fromI none)), .p (int (0 : Nat)), .any, .any, .any, .any, .any, .any, .any, .any, .any, .any, .any, .any, .any, .any, .any, .any, .any, .any, .any, .any, .any, .any, .any, .any, .any, .any, .any, .any, .any, .any, .any, .any, .any, .any, .any, .any, .any, .any] [(.l 3, .row (strE []) tStr 1 true)] (by (simp only [ZZ, YY, Ze, ite_true, ite_false, forall_const, reduceCtorEq, Nat.reduceAdd, Nat.reduceMul, Nat.reduceLeDiff, Nat.reduceLT, Nat.reduceEqDiff]; try trivial)) (by (simp only [ZZ, YY, Ze, ite_true, ite_false, forall_const, reduceCtorEq, Nat.reduceAdd, Nat.reduceMul, Nat.reduceLeDiff, Nat.reduceLT, Nat.reduceEqDiff]; try trivial)) ⟨0, none, [], rfl, by omega, by simp, by simp, rfl, rfl, rfl⟩ ?_
  rintro n fr L ⟨i, f, l, rfl, hi1, hf, hll, hl, rfl, rfl⟩
  simp only [ir_near_Words_L0, ZZ, YY, Ze, ite_true, ite_false, forall_const, reduceCtorEq, Nat.reduceAdd, Nat.reduceMul, Nat.reduceLeDiff, Nat.reduceLT, Nat.reduceEqDiff]
  refine br ?_ ?_
  · intro h
    have hle : i ≤ t.length := by have := of_decide_eq_true h; omega
    simp only [ZZ, YY, Ze, ite_true, ite_false, forall_const, reduceCtorEq, Nat.reduceAdd, Nat.reduceMul, Nat.reduceLeDiff, Nat.reduceLT, Nat.reduceEqDiff]
    ((repeat' (with_reducible apply And.intro)) <;> try ((first | first | assumption | trivial | exact (fun hq => by rw [hq]; rfl) | exact i64_of (by omega) (by omega) | omega | (simp; done) | (simp; omega) | (intro hsc; have hs0 := hsc; (try have hsd := of_decide_eq_true hsc); (try simp only [Bool.not_eq_true', Bool.or_eq_false_iff, Bool.and_eq_true, Bool.or_eq_true, decide_eq_true_eq, decide_eq_false_iff_not] at hsc); (repeat' (with_reducible apply And.intro)) <;> (first | assumption | trivial | exact (fun hq => by rw [hq]; rfl) | exact i64_of (by omega) (by omega) | omega | (simp; done) | (simp; omega) | (intro hse; simp [hse, hs0]; done) | (intro hse; simp only [hse, hs0, Bool.true_and, Bool.and_true, Bool.not_false, Bool.not_true, Bool.and_self]; done))))))
    refine useG (fun _ => letter_ok (t.getD i 0)) rfl (.inl rfl) ?_
    simp only [ZZ, YY, Ze, ite_true, ite_false, forall_const, reduceCtorEq, Nat.reduceAdd, Nat.reduceMul, Nat.reduceLeDiff, Nat.reduceLT, Nat.reduceEqDiff]
    ((repeat' (with_reducible apply And.intro)) <;> try ((first | first | assumption | trivial | exact (fun hq => by rw [hq]; rfl) | exact i64_of (by omega) (by omega) | omega | (simp; done) | (simp; omega) | (intro hsc; have hs0 := hsc; (try have hsd := of_decide_eq_true hsc); (try simp only [Bool.not_eq_true', Bool.or_eq_false_iff, Bool.and_eq_true, Bool.or_eq_true, decide_eq_true_eq, decide_eq_false_iff_not] at hsc); (repeat' (with_reducible apply And.intro)) <;> (first | assumption | trivial | exact (fun hq => by rw [hq]; rfl) | exact i64_of (by omega) (by omega) | omega | (simp; done) | (simp; omega) | (intro hse; simp [hse, hs0]; done) | (intro hse; simp only [hse, hs0, Bool.true_and, Bool.and_true, Bool.not_false, Bool.not_true, Bool.and_self]; done))))))
    have hin : (decide ((i : Int) < t.length) && letB (t.getD i 0)) = true → ∃ hh : i < t.length, Sp.isLet t[i] = true := by
      intro hb
      simp only [Bool.and_eq_true, decide_eq_true_eq] at hb
      have hh : i < t.length := by omega
      refine ⟨hh, ?_⟩
      rw [← letB_spec, ← hb.2]
      simp [List.getD, hh]
    have hout : (decide ((i : Int) < t.length) && letB (t.getD i 0)) = false → ∀ hh : i < t.length, Sp.isLet t[i] = false := by
      intro hb hh
      rw [show decide ((i : Int) < t.length) = true from by simp [hh], Bool.true_and] at hb
      rw [← letB_spec, ← hb]
      simp [List.getD, hh]
    generalize (decide ((i : Int) < t.length) && letB (t.getD i 0)) = b at hin hout ⊢
    cases f with
    | none =>
      have e1 : decide (fromI none < 0) = true := by decide
      have e2 : decide (0 ≤ fromI none) = false := by decide
      cases b with
      | true =>
        obtain ⟨hh, hlet⟩ := hin rfl
        have e3 : decide (0 ≤ (i : Int)) = true := by simp
        have hnx := Sp.wsp_let t i none hh _ rfl hlet
        simp only [ZZ, YY, Ze, ite_true, ite_false, forall_const, reduceCtorEq, Nat.reduceAdd, Nat.reduceMul, Nat.reduceLeDiff, Nat.reduceLT, Nat.reduceEqDiff, e1, e2, e3, Bool.false_and]
        refine cut_same (by simp only [ZZ, YY, Ze, ite_true, ite_false, forall_const, reduceCtorEq, Nat.reduceAdd, Nat.reduceMul, Nat.reduceLeDiff, Nat.reduceLT, Nat.reduceEqDiff]) ?_
        simp only [ZZ, YY, Ze, ite_true, ite_false, forall_const, reduceCtorEq, Nat.reduceAdd, Nat.reduceMul, Nat.reduceLeDiff, Nat.reduceLT, Nat.reduceEqDiff, e1, e2, e3, Bool.false_and]
        refine cut_same (by simp only [ZZ, YY, Ze, ite_true, ite_false, forall_const, reduceCtorEq, Nat.reduceAdd, Nat.reduceMul, Nat.reduceLeDiff, Nat.reduceLT, Nat.reduceEqDiff]) ?_
        simp only [ZZ, YY, Ze, ite_true, ite_false, forall_const, reduceCtorEq, Nat.reduceAdd, Nat.reduceMul, Nat.reduceLeDiff, Nat.reduceLT, Nat.reduceEqDiff]
        ((repeat' (with_reducible apply And.intro)) <;> try ((first | first | assumption | trivial | exact (fun hq => by rw [hq]; rfl) | exact i64_of (by omega) (by omega) | omega | (simp; done) | (simp; omega) | (intro hsc; have hs0 := hsc; (try have hsd := of_decide_eq_true hsc); (try simp only [Bool.not_eq_true', Bool.or_eq_false_iff, Bool.and_eq_true, Bool.or_eq_true, decide_eq_true_eq, decide_eq_false_iff_not] at hsc); (repeat' (with_reducible apply And.intro)) <;> (first | assumption | trivial | exact (fun hq => by rw [hq]; rfl) | exact i64_of (by omega) (by omega) | omega | (simp; done) | (simp; omega) | (intro hse; simp [hse, hs0]; done) | (intro hse; simp only [hse, hs0, Bool.true_and, Bool.and_true, Bool.not_false, Bool.not_true, Bool.and_self]; done))))))
        refine end_round (t.length + 1 - (i + 1)) [.p (.str t), .any, .any, .row (.l 3), .p (int (fromI (some i))), .p (int ((i + 1) : Nat)), .any, .any, .any, .any, .any, .any, .any, .any, .any, .any, .any, .any, .any, .any, .any, .any, .any, .any, .any, .any, .any, .any, .any, .any, .any, .any, .any, .any, .any, .any, .any, .any, .any, .any, .any, .any, .any, .any] [(.l 3, .row (strE l) tStr 1 true)] (by omega) (by (simp only [ZZ, YY, Ze, ite_true, ite_false, forall_const, reduceCtorEq, Nat.reduceAdd, Nat.reduceMul, Nat.reduceLeDiff, Nat.reduceLT, Nat.reduceEqDiff]; try trivial)) (by (simp only [ZZ, YY, Ze, ite_true, ite_false, forall_const, reduceCtorEq, Nat.reduceAdd, Nat.reduceMul, Nat.reduceLeDiff, Nat.reduceLT, Nat.reduceEqDiff]; try trivial)) ⟨i + 1, some i, l, rfl, by omega, by intro a ha; cases ha; omega, by omega, by rw [← hl, hnx]; rfl, rfl, rfl⟩
      | false =>
        have hnx : Sp.wsp i none (t.drop i) = Sp.wsp (i + 1) none (t.drop (i + 1)) := by
          by_cases hh : i < t.length
          · exact Sp.wsp_non t i hh _ rfl (hout rfl hh)
          · rw [Sp.wsp_out t i (by omega), Sp.wsp_out t (i + 1) (by omega)]
        simp only [ZZ, YY, Ze, ite_true, ite_false, forall_const, reduceCtorEq, Nat.reduceAdd, Nat.reduceMul, Nat.reduceLeDiff, Nat.reduceLT, Nat.reduceEqDiff, e1, e2, Bool.false_and]
        refine cut_same (by simp only [ZZ, YY, Ze, ite_true, ite_false, forall_const, reduceCtorEq, Nat.reduceAdd, Nat.reduceMul, Nat.reduceLeDiff, Nat.reduceLT, Nat.reduceEqDiff]) ?_
        simp only [ZZ, YY, Ze, ite_true, ite_false, forall_const, reduceCtorEq, Nat.reduceAdd, Nat.reduceMul, Nat.reduceLeDiff, Nat.reduceLT, Nat.reduceEqDiff, e1, e2, Bool.false_and]
        refine cut_same (by simp only [ZZ, YY, Ze, ite_true, ite_false, forall_const, reduceCtorEq, Nat.reduceAdd, Nat.reduceMul, Nat.reduceLeDiff, Nat.reduceLT, Nat.reduceEqDiff]) ?_
        simp only [ZZ, YY, Ze, ite_true, ite_false, forall_const, reduceCtorEq, Nat.reduceAdd, Nat.reduceMul, Nat.reduceLeDiff, Nat.reduceLT, Nat.reduceEqDiff]
        ((repeat' (with_reducible apply And.intro)) <;> try ((first | first | assumption | trivial | exact (fun hq => by rw [hq]; rfl) | exact i64_of (by omega) (by omega) | omega | (simp; done) | (simp; omega) | (intro hsc; have hs0 := hsc; (try have hsd := of_decide_eq_true hsc); (try simp only [Bool.not_eq_true', Bool.or_eq_false_iff, Bool.and_eq_true, Bool.or_eq_true, decide_eq_true_eq, decide_eq_false_iff_not] at hsc); (repeat' (with_reducible apply And.intro)) <;> (first | assumption | trivial | exact (fun hq => by rw [hq]; rfl) | exact i64_of (by omega) (by omega) | omega | (simp; done) | (simp; omega) | (intro hse; simp [hse, hs0]; done) | (intro hse; simp only [hse, hs0, Bool.true_and, Bool.and_true, Bool.not_false, Bool.not_true, Bool.and_self]; done))))))
        refine end_round (t.length + 1 - (i + 1)) [.p (.str t), .any, .any, .row (.l 3), .p (int (fromI (none))), .p (int ((i + 1) : Nat)), .any, .any, .any, .any, .any, .any, .any, .any, .any, .any, .any, .any, .any, .any, .any, .any, .any, .any, .any, .any, .any, .any, .any, .any, .any, .any, .any, .any, .any, .any, .any, .any, .any, .any, .any, .any, .any, .any] [(.l 3, .row (strE l) tStr 1 true)] (by omega) (by (simp only [ZZ, YY, Ze, ite_true, ite_false, forall_const, reduceCtorEq, Nat.reduceAdd, Nat.reduceMul, Nat.reduceLeDiff, Nat.reduceLT, Nat.reduceEqDiff]; try trivial)) (by (simp only [ZZ, YY, Ze, ite_true, ite_false, forall_const, reduceCtorEq, Nat.reduceAdd, Nat.reduceMul, Nat.reduceLeDiff, Nat.reduceLT, Nat.reduceEqDiff]; try trivial)) ⟨i + 1, none, l, rfl, by omega, by simp, by omega, by rw [← hl, hnx], rfl, rfl⟩
    | some a =>
      obtain ⟨ha1, ha2⟩ := hf a rfl
      have e1 : decide (fromI (some a) < 0) = false := decide_eq_false (by simp only [fromI]; omega)
      have e2 : decide (0 ≤ fromI (some a)) = true := decide_eq_true (by simp only [fromI]; omega)
      cases b with
      | true =>
        obtain ⟨hh, hlet⟩ := hin rfl
        have hnx := Sp.wsp_let t i (some a) hh _ rfl hlet
        simp only [ZZ, YY, Ze, ite_true, ite_false, forall_const, reduceCtorEq, Nat.reduceAdd, Nat.reduceMul, Nat.reduceLeDiff, Nat.reduceLT, Nat.reduceEqDiff, e1, e2, Bool.false_and]
        refine cut_same (by simp only [ZZ, YY, Ze, ite_true, ite_false, forall_const, reduceCtorEq, Nat.reduceAdd, Nat.reduceMul, Nat.reduceLeDiff, Nat.reduceLT, Nat.reduceEqDiff]) ?_
        simp only [ZZ, YY, Ze, ite_true, ite_false, forall_const, reduceCtorEq, Nat.reduceAdd, Nat.reduceMul, Nat.reduceLeDiff, Nat.reduceLT, Nat.reduceEqDiff, e1, e2, Bool.false_and]
        refine cut_same (by simp only [ZZ, YY, Ze, ite_true, ite_false, forall_const, reduceCtorEq, Nat.reduceAdd, Nat.reduceMul, Nat.reduceLeDiff, Nat.reduceLT, Nat.reduceEqDiff]) ?_
        simp only [ZZ, YY, Ze, ite_true, ite_false, forall_const, reduceCtorEq, Nat.reduceAdd, Nat.reduceMul, Nat.reduceLeDiff, Nat.reduceLT, Nat.reduceEqDiff]
        ((repeat' (with_reducible apply And.intro)) <;> try ((first | first | assumption | trivial | exact (fun hq => by rw [hq]; rfl) | exact i64_of (by omega) (by omega) | omega | (simp; done) | (simp; omega) | (intro hsc; have hs0 := hsc; (try have hsd := of_decide_eq_true hsc); (try simp only [Bool.not_eq_true', Bool.or_eq_false_iff, Bool.and_eq_true, Bool.or_eq_true, decide_eq_true_eq, decide_eq_false_iff_not] at hsc); (repeat' (with_reducible apply And.intro)) <;> (first | assumption | trivial | exact (fun hq => by rw [hq]; rfl) | exact i64_of (by omega) (by omega) | omega | (simp; done) | (simp; omega) | (intro hse; simp [hse, hs0]; done) | (intro hse; simp only [hse, hs0, Bool.true_and, Bool.and_true, Bool.not_false, Bool.not_true, Bool.and_self]; done))))))
        refine end_round (t.length + 1 - (i + 1)) [.p (.str t), .any, .any, .row (.l 3), .p (int (fromI (some a))), .p (int ((i + 1) : Nat)), .any, .any, .any, .any, .any, .any, .any, .any, .any, .any, .any, .any, .any, .any, .any, .any, .any, .any, .any, .any, .any, .any, .any, .any, .any, .any, .any, .any, .any, .any, .any, .any, .any, .any, .any, .any, .any, .any] [(.l 3, .row (strE l) tStr 1 true)] (by omega) (by (simp only [ZZ, YY, Ze, ite_true, ite_false, forall_const, reduceCtorEq, Nat.reduceAdd, Nat.reduceMul, Nat.reduceLeDiff, Nat.reduceLT, Nat.reduceEqDiff]; try trivial)) (by (simp only [ZZ, YY, Ze, ite_true, ite_false, forall_const, reduceCtorEq, Nat.reduceAdd, Nat.reduceMul, Nat.reduceLeDiff, Nat.reduceLT, Nat.reduceEqDiff]; try trivial)) ⟨i + 1, some a, l, rfl, by omega, by intro q hq; cases hq; omega, by omega, by rw [← hl, hnx]; rfl, rfl, rfl⟩
      | false =>
        have hnx : Sp.wsp i (some a) (t.drop i) = (a, i) :: Sp.wsp (i + 1) none (t.drop (i + 1)) := by
          by_cases hh : i < t.length
          · exact Sp.wsp_end t i a hh _ rfl (hout rfl hh)
          · exact Sp.wsp_fin t i a (by omega)
        simp only [ZZ, YY, Ze, ite_true, ite_false, forall_const, reduceCtorEq, Nat.reduceAdd, Nat.reduceMul, Nat.reduceLeDiff, Nat.reduceLT, Nat.reduceEqDiff, e1, e2, Bool.false_and]
        refine cut_same (by simp only [ZZ, YY, Ze, ite_true, ite_false, forall_const, reduceCtorEq, Nat.reduceAdd, Nat.reduceMul, Nat.reduceLeDiff, Nat.reduceLT, Nat.reduceEqDiff]) ?_
        have e4 : decide (0 ≤ ((a : Nat) : Int)) = true := by simp
        simp only [ZZ, YY, Ze, ite_true, ite_false, forall_const, reduceCtorEq, Nat.reduceAdd, Nat.reduceMul, Nat.reduceLeDiff, Nat.reduceLT, Nat.reduceEqDiff, e1, e2, e4, fromI, Bool.false_and]
        ((repeat' (with_reducible apply And.intro)) <;> try ((first | first | assumption | trivial | exact (fun hq => by rw [hq]; rfl) | exact i64_of (by omega) (by omega) | omega | (simp; done) | (simp; omega) | (intro hsc; have hs0 := hsc; (try have hsd := of_decide_eq_true hsc); (try simp only [Bool.not_eq_true', Bool.or_eq_false_iff, Bool.and_eq_true, Bool.or_eq_true, decide_eq_true_eq, decide_eq_false_iff_not] at hsc); (repeat' (with_reducible apply And.intro)) <;> (first | assumption | trivial | exact (fun hq => by rw [hq]; rfl) | exact i64_of (by omega) (by omega) | omega | (simp; done) | (simp; omega) | (intro hse; simp [hse, hs0]; done) | (intro hse; simp only [hse, hs0, Bool.true_and, Bool.and_true, Bool.not_false, Bool.not_true, Bool.and_self]; done))))))
        refine use1 (Lower_ok (Sp.part t (a, i)) (by have := Sp.part_len t a i; omega)) rfl (.inl rfl) ?_
        simp only [ZZ, YY, Ze, ite_true, ite_false, forall_const, reduceCtorEq, Nat.reduceAdd, Nat.reduceMul, Nat.reduceLeDiff, Nat.reduceLT, Nat.reduceEqDiff]
        simp only [strE_len, strE_one, ← strE_app]
        ((repeat' (with_reducible apply And.intro)) <;> try ((first | first | assumption | trivial | exact (fun hq => by rw [hq]; rfl) | exact i64_of (by omega) (by omega) | omega | (simp; done) | (simp; omega) | (intro hsc; have hs0 := hsc; (try have hsd := of_decide_eq_true hsc); (try simp only [Bool.not_eq_true', Bool.or_eq_false_iff, Bool.and_eq_true, Bool.or_eq_true, decide_eq_true_eq, decide_eq_false_iff_not] at hsc); (repeat' (with_reducible apply And.intro)) <;> (first | assumption | trivial | exact (fun hq => by rw [hq]; rfl) | exact i64_of (by omega) (by omega) | omega | (simp; done) | (simp; omega) | (intro hse; simp [hse, hs0]; done) | (intro hse; simp only [hse, hs0, Bool.true_and, Bool.and_true, Bool.not_false, Bool.not_true, Bool.and_self]; done))))))
        refine cut_same (by simp only [ZZ, YY, Ze, ite_true, ite_false, forall_const, reduceCtorEq, Nat.reduceAdd, Nat.reduceMul, Nat.reduceLeDiff, Nat.reduceLT, Nat.reduceEqDiff]) ?_
        simp only [ZZ, YY, Ze, ite_true, ite_false, forall_const, reduceCtorEq, Nat.reduceAdd, Nat.reduceMul, Nat.reduceLeDiff, Nat.reduceLT, Nat.reduceEqDiff]
        ((repeat' (with_reducible apply And.intro)) <;> try ((first | first | assumption | trivial | exact (fun hq => by rw [hq]; rfl) | exact i64_of (by omega) (by omega) | omega | (simp; done) | (simp; omega) | (intro hsc; have hs0 := hsc; (try have hsd := of_decide_eq_true hsc); (try simp only [Bool.not_eq_true', Bool.or_eq_false_iff, Bool.and_eq_true, Bool.or_eq_true, decide_eq_true_eq, decide_eq_false_iff_not] at hsc); (repeat' (with_reducible apply And.intro)) <;> (first | assumption | trivial | exact (fun hq => by rw [hq]; rfl) | exact i64_of (by omega) (by omega) | omega | (simp; done) | (simp; omega) | (intro hse; simp [hse, hs0]; done) | (intro hse; simp only [hse, hs0, Bool.true_and, Bool.and_true, Bool.not_false, Bool.not_true, Bool.and_self]; done))))))
        refine end_round (t.length + 1 - (i + 1)) [.p (.str t), .any, .any, .row (.l 3), .p (int (fromI (none))), .p (int ((i + 1) : Nat)), .any, .any, .any, .any, .any, .any, .any, .any, .any, .any, .any, .any, .any, .any, .any, .any, .any, .any, .any, .any, .any, .any, .any, .any, .any, .any, .any, .any, .any, .any, .any, .any, .any, .any, .any, .any, .any, .any] [(.l 3, .row (strE (l ++ [lowF (Sp.part t (a, i))])) tStr 1 true)] (by omega) (by (simp only [ZZ, YY, Ze, ite_true, ite_false, forall_const, reduceCtorEq, Nat.reduceAdd, Nat.reduceMul, Nat.reduceLeDiff, Nat.reduceLT, Nat.reduceEqDiff]; try trivial)) (by (simp only [ZZ, YY, Ze, ite_true, ite_false, forall_const, reduceCtorEq, Nat.reduceAdd, Nat.reduceMul, Nat.reduceLeDiff, Nat.reduceLT, Nat.reduceEqDiff]; try trivial)) ⟨i + 1, none, l ++ [lowF (Sp.part t (a, i))], rfl, by omega, by simp, by rw [List.length_append]; simp; omega, by rw [← hl, hnx]; simp [wordF], rfl, rfl⟩
  · intro h
    have hgt : i = t.length + 1 := by have := of_decide_eq_false h; omega
    have hfn : f = none := by
      cases f with
      | none => rfl
      | some a => have := (hf a rfl).2; omega
    subst hfn
    rw [Sp.wsp_out t i (by omega)] at hl
    simp only [List.map_nil, List.append_nil] at hl
    simp only [ZZ, YY, Ze, ite_true, ite_false, forall_const, reduceCtorEq, Nat.reduceAdd, Nat.reduceMul, Nat.reduceLeDiff, Nat.reduceLT, Nat.reduceEqDiff]
    rw [strs_eq, hl]
end
section
variable {E : Envt}
end
end Go.Proofs.YthfpehmbellmcaaGreatDoor

/- strings.Split at one byte: its pieces. -/
namespace Go.Proofs.YthfpehmbellmcaaGreatDoor
open Go.RowKit
set_option linter.unusedVariables false
set_option linter.unusedSimpArgs false
set_option linter.defProp false

/-- Pieces. -/
def splF (s : List UInt8) (c : UInt8) : List (List UInt8) := (Lib.splitB ⟨#[c]⟩ 0 (Lib.countB ⟨s.toArray⟩ ⟨#[c]⟩) ⟨s.toArray⟩).map (·.data.toList)
theorem splitB_sizes (sep : ByteArray) : ∀ (k : Nat) (s : ByteArray), (Lib.splitB sep 0 k s).length ≤ k + 1 ∧ ∀ x ∈ Lib.splitB sep 0 k s, x.size ≤ s.size := by
  intro k
  induction k with
  | zero => intro s; simp [Lib.splitB]
  | succ k ih =>
    intro s
    unfold Lib.splitB
    split
    · simp
    · have := ih (s.extract ((Lib.indexB s sep).toNat + sep.size) s.size)
      refine ⟨by simp; omega, fun x hx => ?_⟩
      simp only [List.mem_cons] at hx
      rcases hx with rfl | hx
      · simp; omega
      · have := this.2 x hx; simp at this; omega
theorem splF_len (s : List UInt8) (c : UInt8) : (splF s c).length ≤ s.length + 1 := by
  have h1 := (splitB_sizes ⟨#[c]⟩ (Lib.countB ⟨s.toArray⟩ ⟨#[c]⟩) ⟨s.toArray⟩).1
  have h2 := Lib.countB_le ⟨#[c]⟩ (Nat.le_refl 1) (⟨s.toArray⟩ : ByteArray).size ⟨s.toArray⟩ (Nat.le_refl _)
  rw [ba_size] at h2
  simp only [splF, List.length_map]
  omega
theorem splF_mem (s : List UInt8) (c : UInt8) : ∀ x ∈ splF s c, x.length ≤ s.length := by
  intro x hx
  simp only [splF, List.mem_map] at hx
  obtain ⟨y, hy, rfl⟩ := hx
  have := (splitB_sizes ⟨#[c]⟩ (Lib.countB ⟨s.toArray⟩ ⟨#[c]⟩) ⟨s.toArray⟩).2 y hy
  rw [ba_size] at this
  rw [Array.length_toList]
  exact this
theorem repE_strs' {w : World} {U : Nat → Prop} {b : Nat} : ∀ (l : List ByteArray) (off : Nat), (∀ i x, l[i]? = some x → w.cell? ⟨b, off + i, none⟩ = some (.string x)) → PRepE w U b 1 off ((l.map (·.data.toList)).map fun x => [.str x])
  | [], off, h => trivial
  | x :: r, off, h => by
    refine ⟨rfl, ⟨⟨.string x, by simpa using h 0 _ rfl, rfl, ?_⟩, trivial⟩, repE_strs' r (off + 1) fun i u hu => ?_⟩
    · simp [PRep]
    · have := h (i + 1) u (by simpa using hu)
      rwa [show off + (i + 1) = off + 1 + i from by omega] at this
theorem splInfo : (Tryz.prog.info? 9).map (fun i => (i.zero, i.size, i.bytes)) = some (some (.string ByteArray.empty), 1, 16) := by kernel_rfl
theorem Split_ok (s : List UInt8) (c : UInt8) (hs : s.length ≤ 1000000000) : PCall Tryz.prog E0 87 [.str s, .str [c]] (· = strs (splF s c)) := by
  intro w U vs hU hE hEb hA
  obtain ⟨_, m, hm⟩ := hE
  simp only [PRepL, PRep] at hA
  obtain ⟨v, r, rfl, rfl, v2, r2, rfl, rfl, rfl⟩ := hA
  refine (Any.strings_Split Tryz.laySplit splInfo ⟨s.toArray⟩ ⟨#[c]⟩ m w (by rw [ba_size]; omega) hm (Nat.le_refl 1)).mono ?_
  rintro e w' ⟨rfl, rfl⟩
  have hl := Lib.splitB_all ⟨#[c]⟩ (Nat.le_refl 1) 0 _ (⟨s.toArray⟩ : ByteArray) rfl
  refine ⟨_, _, rfl, rfl, ?_, ⟨rfl, rfl, rfl, by simp, fun k hk _ => Lib.alloc_old w _ k hk⟩⟩
  have hln : (List.map (fun x => [PV.str x]) (splF s c)).length = Lib.countB ⟨s.toArray⟩ ⟨#[c]⟩ + 1 := by simp [splF, hl]
  refine ⟨some ⟨w.heap.size, 0, none⟩, Lib.countB ⟨s.toArray⟩ ⟨#[c]⟩ + 1, by rw [hln], by rw [hln]; exact Nat.le_refl _, fun _ => ⟨w.heap.size, 0, rfl, by simp, fun h => by have := hU _ h; omega, ?_⟩⟩
  · refine repE_strs' _ 0 fun i x hx => ?_
    rw [Lib.cell_of_heap (heap_alloc_new w _)]
    simp [hx]
end Go.Proofs.YthfpehmbellmcaaGreatDoor

/- Pieces of strings between bytes, in plain Lean. -/
namespace Go.Proofs.YthfpehmbellmcaaGreatDoor
open Go.RowKit
set_option linter.unusedVariables false
set_option linter.unusedSimpArgs false
set_option linter.defProp false

/-- The pieces of a string between bytes c. -/
def sp (c : UInt8) : List UInt8 → List (List UInt8)
  | [] => [[]]
  | x :: s => if x = c then [] :: sp c s else (x :: (sp c s).headD []) :: (sp c s).tail
theorem sp_ne (c : UInt8) (s : List UInt8) : sp c s ≠ [] := by
  cases s with
  | nil => simp [sp]
  | cons x s => unfold sp; split <;> simp
theorem split_miss {s : List UInt8} {c : UInt8} (h : Lib.index s [c] = -1) : Lib.split s [c] = [s] := by
  unfold Lib.split
  rw [Lib.count_miss h]
  rfl
theorem split_hit {s : List UInt8} {c : UInt8} {i : Nat} (h : Lib.index s [c] = i) : Lib.split s [c] = s.take i :: Lib.split (s.drop (i + 1)) [c] := by
  unfold Lib.split
  rw [Lib.count_hit (by simp) h, Nat.add_comm, Lib.splitK, if_neg (by rw [h]; simp), h]
  simp
theorem split_sp (c : UInt8) : ∀ s : List UInt8, Lib.split s [c] = sp c s := by
  intro s
  induction s with
  | nil => rw [split_miss (by rfl)]; rfl
  | cons x s ih =>
    by_cases hx : x = c
    · subst hx
      have h0 : Lib.index (x :: s) [x] = ((0 : Nat) : Int) := by rw [Lib.index_one]; simp [Lib.indexByte]
      rw [split_hit h0, sp, if_pos rfl, ← ih]
      simp
    · have hi : Lib.index (x :: s) [c] = if Lib.index s [c] = -1 then -1 else Lib.index s [c] + 1 := by
        rw [Lib.index_one, Lib.index_one, Lib.indexByte]
        simp [hx]
      rw [sp, if_neg hx, ← ih]
      by_cases hm : Lib.index s [c] = -1
      · rw [if_pos hm] at hi
        rw [split_miss hi, split_miss hm]
        rfl
      · rw [if_neg hm] at hi
        have hge := Lib.indexByte_ge s c
        rw [← Lib.index_one] at hge
        obtain ⟨i, hi2⟩ : ∃ i : Nat, Lib.index s [c] = i := ⟨(Lib.index s [c]).toNat, by omega⟩
        rw [hi2] at hi
        rw [split_hit (i := i + 1) (by rw [hi]; simp), split_hit hi2]
        simp
theorem splF_sp (s : List UInt8) (c : UInt8) : splF s c = sp c s := by
  rw [← split_sp]
  unfold splF Lib.split
  rw [Lib.splitB_data]
theorem sp_free (c : UInt8) : ∀ s : List UInt8, ∀ x ∈ sp c s, c ∉ x := by
  intro s
  induction s with
  | nil => simp [sp]
  | cons y s ih =>
    intro x hx
    rw [sp] at hx
    split at hx
    · rcases List.mem_cons.1 hx with rfl | hx
      · simp
      · exact ih x hx
    · rename_i hy
      cases h : sp c s with
      | nil => exact absurd h (sp_ne c s)
      | cons z r =>
        rw [h] at hx ih
        rcases List.mem_cons.1 hx with rfl | hx
        · have := ih z (by simp)
          simp only [List.headD_cons, List.mem_cons, not_or]
          exact ⟨fun e => hy e.symm, this⟩
        · exact ih x (by simp only [List.tail_cons] at hx; exact List.mem_cons_of_mem _ hx)
theorem sp_one {c : UInt8} : ∀ {s : List UInt8}, c ∉ s → sp c s = [s] := by
  intro s
  induction s with
  | nil => intro _; rfl
  | cons y s ih =>
    intro h
    simp only [List.mem_cons, not_or] at h
    rw [sp, if_neg (fun e => h.1 e.symm), ih h.2]
    rfl
/-- What pieces weigh: their bytes, and one more for each. -/
def wgt : List (List UInt8) → Nat
  | [] => 0
  | x :: r => x.length + 1 + wgt r
theorem wgt_app (a b : List (List UInt8)) : wgt (a ++ b) = wgt a + wgt b := by
  induction a with
  | nil => simp [wgt]
  | cons x a ih => simp only [List.cons_append, wgt, ih]; omega
theorem wgt_filter (p : List UInt8 → Bool) (a : List (List UInt8)) : wgt (a.filter p) ≤ wgt a := by
  induction a with
  | nil => simp [wgt]
  | cons x a ih =>
    rw [List.filter_cons]
    split
    · simp only [wgt]; omega
    · simp only [wgt]; omega
theorem wgt_len (a : List (List UInt8)) : a.length ≤ wgt a := by
  induction a with
  | nil => simp
  | cons x a ih => simp only [wgt, List.length_cons]; omega
theorem sp_wgt (c : UInt8) : ∀ s : List UInt8, wgt (sp c s) = s.length + 1 := by
  intro s
  induction s with
  | nil => simp [sp, wgt]
  | cons y s ih =>
    rw [sp]
    split
    · simp only [wgt, ih, List.length_cons, List.length_nil]; omega
    · cases h : sp c s with
      | nil => exact absurd h (sp_ne c s)
      | cons z r =>
        rw [h] at ih
        simp only [wgt, List.headD_cons, List.tail_cons, List.length_cons] at ih ⊢
        omega
end Go.Proofs.YthfpehmbellmcaaGreatDoor

/- Tokens of strings, on both sides. -/
namespace Go.Proofs.YthfpehmbellmcaaGreatDoor
open Go.RowKit
set_option linter.unusedVariables false
set_option linter.unusedSimpArgs false
set_option linter.defProp false

/- paperchase/near.Tokens -/
def ir_near_Tokens_L1 : IC :=
  (.seq (.reg [⟨some 25, .bin .lss (.t 24) (.t 23), none⟩])
    (.seq (.cond (.t 25) .skip (.exit 2))
    (.seq (.block 3 (.seq (.reg [⟨some 26, .ixa 1 (.t 22) (.t 24), none⟩,
      ⟨some 27, .ld 1 false (.t 26), none⟩,
      ⟨some 7, .mov (.t 27), none⟩])
    (.seq (.reg [⟨some 28, .mov (.t 7), none⟩,
      ⟨some 29, .bin .neq (.t 28) (.c (.str [])), none⟩])
    (.cond (.t 29) (.reg [⟨some 30, .mov (.t 3), none⟩,
      ⟨some 31, .mov (.t 7), none⟩,
      ⟨some 32, .bsl 1 [.t 31], none⟩,
      ⟨some 33, .app 9 1 16 (.t 30) (.t 32), none⟩,
      ⟨some 3, .mov (.t 33), none⟩]) .skip))))
    (.cut (.reg [⟨some 34, .bin .add (.t 24) (.c (.int .i64 1)), none⟩,
      ⟨some 24, .mov (.t 34), none⟩])))))
def ir_near_Tokens_L0 : IC :=
  (.seq (.reg [⟨some 12, .bin .lss (.t 11) (.t 10), none⟩])
    (.seq (.cond (.t 12) .skip (.exit 0))
    (.seq (.block 1 (.seq (.reg [⟨some 13, .mov (.t 11), none⟩,
      ⟨some 14, .ixa 1 (.t 9) (.t 11), none⟩,
      ⟨some 15, .ld 1 false (.t 14), none⟩,
      ⟨some 4, .mov (.t 13), none⟩,
      ⟨some 5, .mov (.t 15), none⟩])
    (.seq (.seq (.reg [⟨some 16, .mov (.t 4), none⟩,
      ⟨some 17, .bin .gtr (.t 16) (.c (.int .i64 0)), none⟩])
    (.cond (.t 17) (.reg [⟨some 18, .mov (.t 3), none⟩,
      ⟨some 19, .bsl 1 [.c (.str [10])], none⟩,
      ⟨some 20, .app 9 1 16 (.t 18) (.t 19), none⟩,
      ⟨some 3, .mov (.t 20), none⟩]) .skip))
    (.cut (.seq (.reg [⟨some 21, .mov (.t 5), none⟩,
      ⟨some 22, .call 87 [.t 21, .c (.str [32])], none⟩,
      ⟨some 23, .len (.t 22), none⟩,
      ⟨some 24, .mov (.c (.int .i64 0)), none⟩])
    (.block 2 (.loop ir_near_Tokens_L1)))))))
    (.reg [⟨some 35, .bin .add (.t 11) (.c (.int .i64 1)), none⟩,
      ⟨some 11, .mov (.t 35), none⟩]))))
def ir_near_Tokens : IC :=
  (.seq (.reg [⟨some 2, .mov (.c (.nl 1)), none⟩])
    (.seq (.reg [⟨some 3, .nilr 9 1, none⟩])
    (.seq (.seq (.reg [⟨some 8, .mov (.t 0), none⟩,
      ⟨some 9, .call 87 [.t 8, .c (.str [10])], none⟩,
      ⟨some 10, .len (.t 9), none⟩,
      ⟨some 11, .mov (.c (.int .i64 0)), none⟩])
    (.block 0 (.loop ir_near_Tokens_L0)))
    (.seq (.reg [⟨some 36, .mov (.t 3), none⟩,
      ⟨some 2, .mov (.t 36), none⟩])
    .ret))))
def rs_near_Tokens : List IRes := [.t 2]
theorem ck_near_Tokens : chkF Tryz.prog Tryz.f143 ir_near_Tokens rs_near_Tokens 37 = true := by kernel_rfl
/- paperchase/chaseref1.TokensOf -/
def ir_chaseref1_TokensOf_L1 : IC :=
  (.seq (.reg [⟨some 25, .bin .lss (.t 24) (.t 23), none⟩])
    (.seq (.cond (.t 25) .skip (.exit 2))
    (.seq (.block 3 (.seq (.reg [⟨some 26, .ixa 1 (.t 22) (.t 24), none⟩,
      ⟨some 27, .ld 1 false (.t 26), none⟩,
      ⟨some 7, .mov (.t 27), none⟩])
    (.seq (.reg [⟨some 28, .mov (.t 7), none⟩,
      ⟨some 29, .bin .neq (.t 28) (.c (.str [])), none⟩])
    (.cond (.t 29) (.reg [⟨some 30, .mov (.t 3), none⟩,
      ⟨some 31, .mov (.t 7), none⟩,
      ⟨some 32, .bsl 1 [.t 31], none⟩,
      ⟨some 33, .app 9 1 16 (.t 30) (.t 32), none⟩,
      ⟨some 3, .mov (.t 33), none⟩]) .skip))))
    (.cut (.reg [⟨some 34, .bin .add (.t 24) (.c (.int .i64 1)), none⟩,
      ⟨some 24, .mov (.t 34), none⟩])))))
def ir_chaseref1_TokensOf_L0 : IC :=
  (.seq (.reg [⟨some 12, .bin .lss (.t 11) (.t 10), none⟩])
    (.seq (.cond (.t 12) .skip (.exit 0))
    (.seq (.block 1 (.seq (.reg [⟨some 13, .mov (.t 11), none⟩,
      ⟨some 14, .ixa 1 (.t 9) (.t 11), none⟩,
      ⟨some 15, .ld 1 false (.t 14), none⟩,
      ⟨some 4, .mov (.t 13), none⟩,
      ⟨some 5, .mov (.t 15), none⟩])
    (.seq (.seq (.reg [⟨some 16, .mov (.t 4), none⟩,
      ⟨some 17, .bin .gtr (.t 16) (.c (.int .i64 0)), none⟩])
    (.cond (.t 17) (.reg [⟨some 18, .mov (.t 3), none⟩,
      ⟨some 19, .bsl 1 [.c (.str [10])], none⟩,
      ⟨some 20, .app 9 1 16 (.t 18) (.t 19), none⟩,
      ⟨some 3, .mov (.t 20), none⟩]) .skip))
    (.cut (.seq (.reg [⟨some 21, .mov (.t 5), none⟩,
      ⟨some 22, .call 87 [.t 21, .c (.str [32])], none⟩,
      ⟨some 23, .len (.t 22), none⟩,
      ⟨some 24, .mov (.c (.int .i64 0)), none⟩])
    (.block 2 (.loop ir_chaseref1_TokensOf_L1)))))))
    (.reg [⟨some 35, .bin .add (.t 11) (.c (.int .i64 1)), none⟩,
      ⟨some 11, .mov (.t 35), none⟩]))))
def ir_chaseref1_TokensOf : IC :=
  (.seq (.reg [⟨some 2, .mov (.c (.nl 1)), none⟩])
    (.seq (.reg [⟨some 3, .nilr 9 1, none⟩])
    (.seq (.seq (.reg [⟨some 8, .mov (.t 0), none⟩,
      ⟨some 9, .call 87 [.t 8, .c (.str [10])], none⟩,
      ⟨some 10, .len (.t 9), none⟩,
      ⟨some 11, .mov (.c (.int .i64 0)), none⟩])
    (.block 0 (.loop ir_chaseref1_TokensOf_L0)))
    (.seq (.reg [⟨some 36, .mov (.t 3), none⟩,
      ⟨some 2, .mov (.t 36), none⟩])
    .ret))))
def rs_chaseref1_TokensOf : List IRes := [.t 2]
theorem ck_chaseref1_TokensOf : chkF Tryz.prog Tryz.f98 ir_chaseref1_TokensOf rs_chaseref1_TokensOf 37 = true := by kernel_rfl

def nem (x : List UInt8) : Bool := !x.isEmpty
/-- The tokens of a line that is not the first. -/
def tkS (acc : List (List UInt8)) (k : Nat) (x : List UInt8) : List (List UInt8) := (acc ++ if 0 < k then [[10]] else []) ++ (splF x 32).filter nem
def tkL (ls : List (List UInt8)) : Nat → List (List UInt8)
  | 0 => []
  | k + 1 => tkS (tkL ls k) k (ls.getD k [])
def tokF (s : List UInt8) : List (List UInt8) := tkL (splF s 10) (splF s 10).length
theorem splF_wgt (s : List UInt8) (c : UInt8) : wgt (splF s c) = s.length + 1 := by rw [splF_sp, sp_wgt]
theorem tkS_wgt (acc : List (List UInt8)) (k : Nat) (x : List UInt8) : wgt (tkS acc k x) ≤ wgt acc + 2 + x.length + 1 := by
  unfold tkS
  have h1 := wgt_filter nem (splF x 32)
  rw [splF_wgt] at h1
  rw [wgt_app, wgt_app]
  split <;> simp [wgt] <;> omega
theorem wgt_takeS : ∀ (l : List (List UInt8)) (k : Nat), wgt (l.take k) ≤ wgt l
  | [], k => by simp
  | x :: r, 0 => by simp [wgt]
  | x :: r, k + 1 => by have := wgt_takeS r k; simp only [List.take_succ_cons, wgt]; omega
theorem wgt_stepS : ∀ (l : List (List UInt8)) (k : Nat), k < l.length → wgt (l.take (k + 1)) = wgt (l.take k) + (l.getD k []).length + 1
  | [], k, h => by simp at h
  | x :: r, 0, h => by simp [wgt]
  | x :: r, k + 1, h => by
    have := wgt_stepS r k (by simpa using h)
    simp only [List.take_succ_cons, wgt, List.getD_cons_succ] at this ⊢
    omega
theorem tkL_wgt (ls : List (List UInt8)) : ∀ k, k ≤ ls.length → wgt (tkL ls k) ≤ 3 * wgt (ls.take k)
  | 0, h => by simp [tkL, wgt]
  | k + 1, h => by
    have h1 := tkL_wgt ls k (by omega)
    have h2 := tkS_wgt (tkL ls k) k (ls.getD k [])
    have h3 := wgt_stepS ls k (by omega)
    simp only [tkL]
    omega
theorem tokF_wgt (s : List UInt8) : wgt (tokF s) ≤ 3 * (s.length + 1) := by
  have h1 := tkL_wgt (splF s 10) (splF s 10).length (Nat.le_refl _)
  rw [List.take_length, splF_wgt] at h1
  exact h1
theorem tokF_len (s : List UInt8) : (tokF s).length ≤ 3 * (s.length + 1) := Nat.le_trans (wgt_len _) (tokF_wgt s)
theorem filt_step {l : List (List UInt8)} {k : Nat} {x : List UInt8} (h : l[k]? = some x) : (l.take (k + 1)).filter nem = (l.take k).filter nem ++ if nem x then [x] else [] := by
  rw [List.take_add_one, h]
  simp only [Option.toList_some, List.filter_append, List.filter_cons, List.filter_nil]
theorem filt_len (l : List (List UInt8)) (k : Nat) : ((l.take k).filter nem).length ≤ l.length := Nat.le_trans (List.length_filter_le _ _) (by simp; omega)
set_option maxHeartbeats 4000000 in
theorem Tokens_ok (s : List UInt8) (hs : s.length ≤ 1000000000) : FCall Tryz.prog E0 143 [.str s] tStr 1 (· = strE (tokF s)) := by
  unfold FCall
  refine gcallR mixed Tryz.func143 ck_near_Tokens ?_
  simp only [a0, l0, OS.ao, List.map_cons, List.map_nil, List.length_cons, List.length_nil, List.cons_append, List.nil_append, Nat.reduceSub, Nat.reduceAdd, List.replicate_succ, List.replicate_zero, ir_near_Tokens, rs_near_Tokens, ZZ, YY, Ze, ite_true, ite_false, forall_const, reduceCtorEq, Nat.reduceAdd, Nat.reduceMul, Nat.reduceLeDiff, Nat.reduceLT, Nat.reduceEqDiff]
  refine use1 (Split_ok s 10 hs) rfl (.inl rfl) ?_
  have hw : ∀ k, k ≤ (splF s 10).length → (tkL (splF s 10) k).length ≤ 3000000003 := fun k hk => by
    have h1 := tkL_wgt (splF s 10) k hk
    have h2 := wgt_takeS (splF s 10) k
    have h3 := wgt_len (tkL (splF s 10) k)
    rw [splF_wgt] at h2
    omega
  have hlb : ∀ x ∈ splF s 10, x.length ≤ s.length := splF_mem s 10
  have hll := splF_len s 10
  rw [show tokF s = tkL (splF s 10) (splF s 10).length from rfl]
  generalize splF s 10 = l at *
  rw [strs_eq]
  simp only [ZZ, YY, Ze, ite_true, ite_false, forall_const, reduceCtorEq, Nat.reduceAdd, Nat.reduceMul, Nat.reduceLeDiff, Nat.reduceLT, Nat.reduceEqDiff, strE_len]
  rw [show ([] : List (List PV)) = strE (tkL l 0) from rfl]
  refine loop_intro (fun n fr L => ∃ (k : Nat), k ≤ l.length ∧ n = l.length - k ∧ fr = [.any, .any, .any, .row (.l 3), .any, .any, .any, .any, .any, .p (.sl 1 (strE l)), .p (int (l.length : Nat)), .p (int (k : Nat)), .any, .any, .any, .any, .any, .any, .any, .any, .any, .any, .any, .any, .any, .any, .any, .any, .any, .any, .any, .any, .any, .any, .any, .any, .any] ∧ L = [(.l 3, .row (strE (tkL l k)) tStr 1 true)]) (l.length) [.any, .any, .any, .row (.l 3), .any, .any, .any, .any, .any, .p (.sl 1 (strE l)), .p (int (l.length : Nat)), .p (int (0 : Nat)), .any, .any, .any, .any, .any, .any, .any, .any, .any, .any, .any, .any, .any, .any, .any, .any, .any, .any, .any, .any, .any, .any, .any, .any, .any] [(.l 3, .row (strE (tkL l 0)) tStr 1 true)] (by simp only [ZZ, YY, Ze, ite_true, ite_false, forall_const, reduceCtorEq, Nat.reduceAdd, Nat.reduceMul, Nat.reduceLeDiff, Nat.reduceLT, Nat.reduceEqDiff, strE_len]; try trivial) (by (simp only [ZZ, YY, Ze, ite_true, ite_false, forall_const, reduceCtorEq, Nat.reduceAdd, Nat.reduceMul, Nat.reduceLeDiff, Nat.reduceLT, Nat.reduceEqDiff]; try trivial)) ⟨0, by omega, by omega, rfl, rfl⟩ ?_
  rintro n fr L ⟨k, hk, rfl, rfl, rfl⟩
  simp only [ir_near_Tokens_L0, ZZ, YY, Ze, ite_true, ite_false, forall_const, reduceCtorEq, Nat.reduceAdd, Nat.reduceMul, Nat.reduceLeDiff, Nat.reduceLT, Nat.reduceEqDiff]
  refine br ?_ ?_
  · intro h
    have hlt : k < l.length := by have := of_decide_eq_true h; omega
    obtain ⟨x, hx⟩ : ∃ x, l[k]? = some x := ⟨_, List.getElem?_eq_getElem hlt⟩
    have hg : (strE l).getD k [] = [.str x] := strE_get hx
    have hxd : l.getD k [] = x := by simp [List.getD, hx]
    have hxb := hlb x (List.mem_of_getElem? hx)
    have hwk := hw k (by omega)
    have hwk1 := hw (k + 1) (by omega)
    have htk : tkL l (k + 1) = tkS (tkL l k) k x := by rw [tkL, hxd]
    simp only [ZZ, YY, Ze, ite_true, ite_false, forall_const, reduceCtorEq, Nat.reduceAdd, Nat.reduceMul, Nat.reduceLeDiff, Nat.reduceLT, Nat.reduceEqDiff, hg, strE_len]
    ((repeat' (with_reducible apply And.intro)) <;> try ((first | first | assumption | trivial | exact (fun hq => by rw [hq]; rfl) | exact i64_of (by omega) (by omega) | omega | (simp; done) | (simp; omega) | (intro hsc; have hs0 := hsc; (try have hsd := of_decide_eq_true hsc); (try simp only [Bool.not_eq_true', Bool.or_eq_false_iff, Bool.and_eq_true, Bool.or_eq_true, decide_eq_true_eq, decide_eq_false_iff_not] at hsc); (repeat' (with_reducible apply And.intro)) <;> (first | assumption | trivial | exact (fun hq => by rw [hq]; rfl) | exact i64_of (by omega) (by omega) | omega | (simp; done) | (simp; omega) | (intro hse; simp [hse, hs0]; done) | (intro hse; simp only [hse, hs0, Bool.true_and, Bool.and_true, Bool.not_false, Bool.not_true, Bool.and_self]; done))))))
    have key : ∀ acc : List (List UInt8), acc = tkL l k ++ (if 0 < k then [[10]] else []) → acc.length ≤ 3000000004 → tkL l (k + 1) = acc ++ (splF x 32).filter nem := fun acc h _ => by rw [htk, tkS, h]
    refine br ?_ ?_
    · intro h0
      have h0 : 0 < k := by have := of_decide_eq_true h0; omega
      have hk0 := key _ (by rw [if_pos h0]) (by simp; omega)
      simp only [ZZ, YY, Ze, ite_true, ite_false, forall_const, reduceCtorEq, Nat.reduceAdd, Nat.reduceMul, Nat.reduceLeDiff, Nat.reduceLT, Nat.reduceEqDiff, strE_len]
      ((repeat' (with_reducible apply And.intro)) <;> try ((first | first | assumption | trivial | exact (fun hq => by rw [hq]; rfl) | exact i64_of (by omega) (by omega) | omega | (simp; done) | (simp; omega) | (intro hsc; have hs0 := hsc; (try have hsd := of_decide_eq_true hsc); (try simp only [Bool.not_eq_true', Bool.or_eq_false_iff, Bool.and_eq_true, Bool.or_eq_true, decide_eq_true_eq, decide_eq_false_iff_not] at hsc); (repeat' (with_reducible apply And.intro)) <;> (first | assumption | trivial | exact (fun hq => by rw [hq]; rfl) | exact i64_of (by omega) (by omega) | omega | (simp; done) | (simp; omega) | (intro hse; simp [hse, hs0]; done) | (intro hse; simp only [hse, hs0, Bool.true_and, Bool.and_true, Bool.not_false, Bool.not_true, Bool.and_self]; done))))))
      refine cut_same (by simp only [ZZ, YY, Ze, ite_true, ite_false, forall_const, reduceCtorEq, Nat.reduceAdd, Nat.reduceMul, Nat.reduceLeDiff, Nat.reduceLT, Nat.reduceEqDiff]) ?_
      simp only [ZZ, YY, Ze, ite_true, ite_false, forall_const, reduceCtorEq, Nat.reduceAdd, Nat.reduceMul, Nat.reduceLeDiff, Nat.reduceLT, Nat.reduceEqDiff]
      refine use1 (Split_ok x 32 (by omega)) rfl (.inl rfl) ?_
      rw [strs_eq, strE_one, ← strE_app]
      have hml := splF_len x 32
      generalize hws : splF x 32 = ws at *
      generalize hacc : tkL l k ++ [[10]] = acc at *
      have hal : acc.length ≤ 3000000004 := by rw [← hacc]; simp; omega
      simp only [ZZ, YY, Ze, ite_true, ite_false, forall_const, reduceCtorEq, Nat.reduceAdd, Nat.reduceMul, Nat.reduceLeDiff, Nat.reduceLT, Nat.reduceEqDiff, strE_len]
      rw [show strE acc = strE (acc ++ (ws.take 0).filter nem) from by simp]
      refine loop_intro (fun n fr L => ∃ (m : Nat), m ≤ ws.length ∧ n = ws.length - m ∧ fr = [.any, .any, .any, .row (.l 3), .any, .any, .any, .any, .any, .p (.sl 1 (strE l)), .p (int (l.length : Nat)), .p (int (k : Nat)), .any, .any, .any, .any, .any, .any, .any, .any, .any, .any, .p (.sl 1 (strE ws)), .p (int (ws.length : Nat)), .p (int (m : Nat)), .any, .any, .any, .any, .any, .any, .any, .any, .any, .any, .any, .any] ∧ L = [(.l 3, .row (strE (acc ++ (ws.take m).filter nem)) tStr 1 true)]) (ws.length) [.any, .any, .any, .row (.l 3), .any, .any, .any, .any, .any, .p (.sl 1 (strE l)), .p (int (l.length : Nat)), .p (int (k : Nat)), .any, .any, .any, .any, .any, .any, .any, .any, .any, .any, .p (.sl 1 (strE ws)), .p (int (ws.length : Nat)), .p (int (0 : Nat)), .any, .any, .any, .any, .any, .any, .any, .any, .any, .any, .any, .any] [(.l 3, .row (strE (acc ++ (ws.take 0).filter nem)) tStr 1 true)] (by simp only [ZZ, YY, Ze, ite_true, ite_false, forall_const, reduceCtorEq, Nat.reduceAdd, Nat.reduceMul, Nat.reduceLeDiff, Nat.reduceLT, Nat.reduceEqDiff, strE_len]; try trivial) (by (simp only [ZZ, YY, Ze, ite_true, ite_false, forall_const, reduceCtorEq, Nat.reduceAdd, Nat.reduceMul, Nat.reduceLeDiff, Nat.reduceLT, Nat.reduceEqDiff]; try trivial)) ⟨0, by omega, by omega, rfl, rfl⟩ ?_
      rintro n fr L ⟨m, hm, rfl, rfl, rfl⟩
      simp only [ir_near_Tokens_L1, ZZ, YY, Ze, ite_true, ite_false, forall_const, reduceCtorEq, Nat.reduceAdd, Nat.reduceMul, Nat.reduceLeDiff, Nat.reduceLT, Nat.reduceEqDiff]
      refine br ?_ ?_
      · intro h
        have hlt : m < ws.length := by have := of_decide_eq_true h; omega
        obtain ⟨y, hy⟩ : ∃ y, ws[m]? = some y := ⟨_, List.getElem?_eq_getElem hlt⟩
        have hg2 : (strE ws).getD m [] = [.str y] := strE_get hy
        have hst := filt_step hy
        have hfl := filt_len ws m
        simp only [ZZ, YY, Ze, ite_true, ite_false, forall_const, reduceCtorEq, Nat.reduceAdd, Nat.reduceMul, Nat.reduceLeDiff, Nat.reduceLT, Nat.reduceEqDiff, hg2, strE_len]
        ((repeat' (with_reducible apply And.intro)) <;> try ((first | first | assumption | trivial | exact (fun hq => by rw [hq]; rfl) | exact i64_of (by omega) (by omega) | omega | (simp; done) | (simp; omega) | (intro hsc; have hs0 := hsc; (try have hsd := of_decide_eq_true hsc); (try simp only [Bool.not_eq_true', Bool.or_eq_false_iff, Bool.and_eq_true, Bool.or_eq_true, decide_eq_true_eq, decide_eq_false_iff_not] at hsc); (repeat' (with_reducible apply And.intro)) <;> (first | assumption | trivial | exact (fun hq => by rw [hq]; rfl) | exact i64_of (by omega) (by omega) | omega | (simp; done) | (simp; omega) | (intro hse; simp [hse, hs0]; done) | (intro hse; simp only [hse, hs0, Bool.true_and, Bool.and_true, Bool.not_false, Bool.not_true, Bool.and_self]; done))))))
        refine br ?_ ?_
        · intro hne
          have hny : nem y = true := by cases y <;> simp_all [nem]
          rw [if_pos hny] at hst
          simp only [ZZ, YY, Ze, ite_true, ite_false, forall_const, reduceCtorEq, Nat.reduceAdd, Nat.reduceMul, Nat.reduceLeDiff, Nat.reduceLT, Nat.reduceEqDiff, strE_len]
          ((repeat' (with_reducible apply And.intro)) <;> try ((first | first | assumption | trivial | exact (fun hq => by rw [hq]; rfl) | exact i64_of (by omega) (by omega) | omega | (simp; done) | (simp; omega) | (intro hsc; have hs0 := hsc; (try have hsd := of_decide_eq_true hsc); (try simp only [Bool.not_eq_true', Bool.or_eq_false_iff, Bool.and_eq_true, Bool.or_eq_true, decide_eq_true_eq, decide_eq_false_iff_not] at hsc); (repeat' (with_reducible apply And.intro)) <;> (first | assumption | trivial | exact (fun hq => by rw [hq]; rfl) | exact i64_of (by omega) (by omega) | omega | (simp; done) | (simp; omega) | (intro hse; simp [hse, hs0]; done) | (intro hse; simp only [hse, hs0, Bool.true_and, Bool.and_true, Bool.not_false, Bool.not_true, Bool.and_self]; done))))))
          refine cut_same (by simp only [ZZ, YY, Ze, ite_true, ite_false, forall_const, reduceCtorEq, Nat.reduceAdd, Nat.reduceMul, Nat.reduceLeDiff, Nat.reduceLT, Nat.reduceEqDiff]) ?_
          simp only [ZZ, YY, Ze, ite_true, ite_false, forall_const, reduceCtorEq, Nat.reduceAdd, Nat.reduceMul, Nat.reduceLeDiff, Nat.reduceLT, Nat.reduceEqDiff]
          ((repeat' (with_reducible apply And.intro)) <;> try ((first | first | assumption | trivial | exact (fun hq => by rw [hq]; rfl) | exact i64_of (by omega) (by omega) | omega | (simp; done) | (simp; omega) | (intro hsc; have hs0 := hsc; (try have hsd := of_decide_eq_true hsc); (try simp only [Bool.not_eq_true', Bool.or_eq_false_iff, Bool.and_eq_true, Bool.or_eq_true, decide_eq_true_eq, decide_eq_false_iff_not] at hsc); (repeat' (with_reducible apply And.intro)) <;> (first | assumption | trivial | exact (fun hq => by rw [hq]; rfl) | exact i64_of (by omega) (by omega) | omega | (simp; done) | (simp; omega) | (intro hse; simp [hse, hs0]; done) | (intro hse; simp only [hse, hs0, Bool.true_and, Bool.and_true, Bool.not_false, Bool.not_true, Bool.and_self]; done))))))
          rw [strE_one, ← strE_app, List.append_assoc, ← hst]
          refine end_round (ws.length - (m + 1)) [.any, .any, .any, .row (.l 3), .any, .any, .any, .any, .any, .p (.sl 1 (strE l)), .p (int (l.length : Nat)), .p (int (k : Nat)), .any, .any, .any, .any, .any, .any, .any, .any, .any, .any, .p (.sl 1 (strE ws)), .p (int (ws.length : Nat)), .p (int ((m + 1) : Nat)), .any, .any, .any, .any, .any, .any, .any, .any, .any, .any, .any, .any] [(.l 3, .row (strE (acc ++ (ws.take (m + 1)).filter nem)) tStr 1 true)] (by omega) (by (simp only [ZZ, YY, Ze, ite_true, ite_false, forall_const, reduceCtorEq, Nat.reduceAdd, Nat.reduceMul, Nat.reduceLeDiff, Nat.reduceLT, Nat.reduceEqDiff]; try trivial)) (by (simp only [ZZ, YY, Ze, ite_true, ite_false, forall_const, reduceCtorEq, Nat.reduceAdd, Nat.reduceMul, Nat.reduceLeDiff, Nat.reduceLT, Nat.reduceEqDiff]; try trivial)) ⟨m + 1, by omega, rfl, rfl, rfl⟩
        · intro hne
          have hny : nem y = false := by cases y <;> simp_all [nem]
          rw [if_neg (by simp [hny]), List.append_nil] at hst
          simp only [ZZ, YY, Ze, ite_true, ite_false, forall_const, reduceCtorEq, Nat.reduceAdd, Nat.reduceMul, Nat.reduceLeDiff, Nat.reduceLT, Nat.reduceEqDiff]
          refine cut_same (by simp only [ZZ, YY, Ze, ite_true, ite_false, forall_const, reduceCtorEq, Nat.reduceAdd, Nat.reduceMul, Nat.reduceLeDiff, Nat.reduceLT, Nat.reduceEqDiff]) ?_
          simp only [ZZ, YY, Ze, ite_true, ite_false, forall_const, reduceCtorEq, Nat.reduceAdd, Nat.reduceMul, Nat.reduceLeDiff, Nat.reduceLT, Nat.reduceEqDiff]
          ((repeat' (with_reducible apply And.intro)) <;> try ((first | first | assumption | trivial | exact (fun hq => by rw [hq]; rfl) | exact i64_of (by omega) (by omega) | omega | (simp; done) | (simp; omega) | (intro hsc; have hs0 := hsc; (try have hsd := of_decide_eq_true hsc); (try simp only [Bool.not_eq_true', Bool.or_eq_false_iff, Bool.and_eq_true, Bool.or_eq_true, decide_eq_true_eq, decide_eq_false_iff_not] at hsc); (repeat' (with_reducible apply And.intro)) <;> (first | assumption | trivial | exact (fun hq => by rw [hq]; rfl) | exact i64_of (by omega) (by omega) | omega | (simp; done) | (simp; omega) | (intro hse; simp [hse, hs0]; done) | (intro hse; simp only [hse, hs0, Bool.true_and, Bool.and_true, Bool.not_false, Bool.not_true, Bool.and_self]; done))))))
          rw [← hst]
          refine end_round (ws.length - (m + 1)) [.any, .any, .any, .row (.l 3), .any, .any, .any, .any, .any, .p (.sl 1 (strE l)), .p (int (l.length : Nat)), .p (int (k : Nat)), .any, .any, .any, .any, .any, .any, .any, .any, .any, .any, .p (.sl 1 (strE ws)), .p (int (ws.length : Nat)), .p (int ((m + 1) : Nat)), .any, .any, .any, .any, .any, .any, .any, .any, .any, .any, .any, .any] [(.l 3, .row (strE (acc ++ (ws.take (m + 1)).filter nem)) tStr 1 true)] (by omega) (by (simp only [ZZ, YY, Ze, ite_true, ite_false, forall_const, reduceCtorEq, Nat.reduceAdd, Nat.reduceMul, Nat.reduceLeDiff, Nat.reduceLT, Nat.reduceEqDiff]; try trivial)) (by (simp only [ZZ, YY, Ze, ite_true, ite_false, forall_const, reduceCtorEq, Nat.reduceAdd, Nat.reduceMul, Nat.reduceLeDiff, Nat.reduceLT, Nat.reduceEqDiff]; try trivial)) ⟨m + 1, by omega, rfl, rfl, rfl⟩
      · intro h
        have hge : m = ws.length := by have := of_decide_eq_false h; omega
        subst hge
        simp only [ZZ, YY, Ze, ite_true, ite_false, forall_const, reduceCtorEq, Nat.reduceAdd, Nat.reduceMul, Nat.reduceLeDiff, Nat.reduceLT, Nat.reduceEqDiff]
        ((repeat' (with_reducible apply And.intro)) <;> try ((first | first | assumption | trivial | exact (fun hq => by rw [hq]; rfl) | exact i64_of (by omega) (by omega) | omega | (simp; done) | (simp; omega) | (intro hsc; have hs0 := hsc; (try have hsd := of_decide_eq_true hsc); (try simp only [Bool.not_eq_true', Bool.or_eq_false_iff, Bool.and_eq_true, Bool.or_eq_true, decide_eq_true_eq, decide_eq_false_iff_not] at hsc); (repeat' (with_reducible apply And.intro)) <;> (first | assumption | trivial | exact (fun hq => by rw [hq]; rfl) | exact i64_of (by omega) (by omega) | omega | (simp; done) | (simp; omega) | (intro hse; simp [hse, hs0]; done) | (intro hse; simp only [hse, hs0, Bool.true_and, Bool.and_true, Bool.not_false, Bool.not_true, Bool.and_self]; done))))))
        rw [List.take_length, ← hk0]
        refine end_round (l.length - (k + 1)) [.any, .any, .any, .row (.l 3), .any, .any, .any, .any, .any, .p (.sl 1 (strE l)), .p (int (l.length : Nat)), .p (int ((k + 1) : Nat)), .any, .any, .any, .any, .any, .any, .any, .any, .any, .any, .any, .any, .any, .any, .any, .any, .any, .any, .any, .any, .any, .any, .any, .any, .any] [(.l 3, .row (strE (tkL l (k + 1))) tStr 1 true)] (by omega) (by (simp only [ZZ, YY, Ze, ite_true, ite_false, forall_const, reduceCtorEq, Nat.reduceAdd, Nat.reduceMul, Nat.reduceLeDiff, Nat.reduceLT, Nat.reduceEqDiff]; try trivial)) (by (simp only [ZZ, YY, Ze, ite_true, ite_false, forall_const, reduceCtorEq, Nat.reduceAdd, Nat.reduceMul, Nat.reduceLeDiff, Nat.reduceLT, Nat.reduceEqDiff]; try trivial)) ⟨k + 1, by omega, rfl, rfl, rfl⟩
    · intro h0
      have h0 : ¬ 0 < k := by have := of_decide_eq_false h0; omega
      have hk0 := key _ (by rw [if_neg h0]) (by simp; omega)
      simp only [ZZ, YY, Ze, ite_true, ite_false, forall_const, reduceCtorEq, Nat.reduceAdd, Nat.reduceMul, Nat.reduceLeDiff, Nat.reduceLT, Nat.reduceEqDiff, strE_len]
      refine cut_same (by simp only [ZZ, YY, Ze, ite_true, ite_false, forall_const, reduceCtorEq, Nat.reduceAdd, Nat.reduceMul, Nat.reduceLeDiff, Nat.reduceLT, Nat.reduceEqDiff]) ?_
      simp only [ZZ, YY, Ze, ite_true, ite_false, forall_const, reduceCtorEq, Nat.reduceAdd, Nat.reduceMul, Nat.reduceLeDiff, Nat.reduceLT, Nat.reduceEqDiff]
      refine use1 (Split_ok x 32 (by omega)) rfl (.inl rfl) ?_
      rw [strs_eq]
      have hml := splF_len x 32
      generalize hws : splF x 32 = ws at *
      rw [List.append_nil] at hk0
      generalize hacc : tkL l k = acc at *
      simp only [ZZ, YY, Ze, ite_true, ite_false, forall_const, reduceCtorEq, Nat.reduceAdd, Nat.reduceMul, Nat.reduceLeDiff, Nat.reduceLT, Nat.reduceEqDiff, strE_len]
      rw [show strE acc = strE (acc ++ (ws.take 0).filter nem) from by simp]
      refine loop_intro (fun n fr L => ∃ (m : Nat), m ≤ ws.length ∧ n = ws.length - m ∧ fr = [.any, .any, .any, .row (.l 3), .any, .any, .any, .any, .any, .p (.sl 1 (strE l)), .p (int (l.length : Nat)), .p (int (k : Nat)), .any, .any, .any, .any, .any, .any, .any, .any, .any, .any, .p (.sl 1 (strE ws)), .p (int (ws.length : Nat)), .p (int (m : Nat)), .any, .any, .any, .any, .any, .any, .any, .any, .any, .any, .any, .any] ∧ L = [(.l 3, .row (strE (acc ++ (ws.take m).filter nem)) tStr 1 true)]) (ws.length) [.any, .any, .any, .row (.l 3), .any, .any, .any, .any, .any, .p (.sl 1 (strE l)), .p (int (l.length : Nat)), .p (int (k : Nat)), .any, .any, .any, .any, .any, .any, .any, .any, .any, .any, .p (.sl 1 (strE ws)), .p (int (ws.length : Nat)), .p (int (0 : Nat)), .any, .any, .any, .any, .any, .any, .any, .any, .any, .any, .any, .any] [(.l 3, .row (strE (acc ++ (ws.take 0).filter nem)) tStr 1 true)] (by simp only [ZZ, YY, Ze, ite_true, ite_false, forall_const, reduceCtorEq, Nat.reduceAdd, Nat.reduceMul, Nat.reduceLeDiff, Nat.reduceLT, Nat.reduceEqDiff, strE_len]; try trivial) (by (simp only [ZZ, YY, Ze, ite_true, ite_false, forall_const, reduceCtorEq, Nat.reduceAdd, Nat.reduceMul, Nat.reduceLeDiff, Nat.reduceLT, Nat.reduceEqDiff]; try trivial)) ⟨0, by omega, by omega, rfl, rfl⟩ ?_
      rintro n fr L ⟨m, hm, rfl, rfl, rfl⟩
      simp only [ir_near_Tokens_L1, ZZ, YY, Ze, ite_true, ite_false, forall_const, reduceCtorEq, Nat.reduceAdd, Nat.reduceMul, Nat.reduceLeDiff, Nat.reduceLT, Nat.reduceEqDiff]
      refine br ?_ ?_
      · intro h
        have hlt : m < ws.length := by have := of_decide_eq_true h; omega
        obtain ⟨y, hy⟩ : ∃ y, ws[m]? = some y := ⟨_, List.getElem?_eq_getElem hlt⟩
        have hg2 : (strE ws).getD m [] = [.str y] := strE_get hy
        have hst := filt_step hy
        have hfl := filt_len ws m
        simp only [ZZ, YY, Ze, ite_true, ite_false, forall_const, reduceCtorEq, Nat.reduceAdd, Nat.reduceMul, Nat.reduceLeDiff, Nat.reduceLT, Nat.reduceEqDiff, hg2, strE_len]
        ((repeat' (with_reducible apply And.intro)) <;> try ((first | first | assumption | trivial | exact (fun hq => by rw [hq]; rfl) | exact i64_of (by omega) (by omega) | omega | (simp; done) | (simp; omega) | (intro hsc; have hs0 := hsc; (try have hsd := of_decide_eq_true hsc); (try simp only [Bool.not_eq_true', Bool.or_eq_false_iff, Bool.and_eq_true, Bool.or_eq_true, decide_eq_true_eq, decide_eq_false_iff_not] at hsc); (repeat' (with_reducible apply And.intro)) <;> (first | assumption | trivial | exact (fun hq => by rw [hq]; rfl) | exact i64_of (by omega) (by omega) | omega | (simp; done) | (simp; omega) | (intro hse; simp [hse, hs0]; done) | (intro hse; simp only [hse, hs0, Bool.true_and, Bool.and_true, Bool.not_false, Bool.not_true, Bool.and_self]; done))))))
        refine br ?_ ?_
        · intro hne
          have hny : nem y = true := by cases y <;> simp_all [nem]
          rw [if_pos hny] at hst
          simp only [ZZ, YY, Ze, ite_true, ite_false, forall_const, reduceCtorEq, Nat.reduceAdd, Nat.reduceMul, Nat.reduceLeDiff, Nat.reduceLT, Nat.reduceEqDiff, strE_len]
          ((repeat' (with_reducible apply And.intro)) <;> try ((first | first | assumption | trivial | exact (fun hq => by rw [hq]; rfl) | exact i64_of (by omega) (by omega) | omega | (simp; done) | (simp; omega) | (intro hsc; have hs0 := hsc; (try have hsd := of_decide_eq_true hsc); (try simp only [Bool.not_eq_true', Bool.or_eq_false_iff, Bool.and_eq_true, Bool.or_eq_true, decide_eq_true_eq, decide_eq_false_iff_not] at hsc); (repeat' (with_reducible apply And.intro)) <;> (first | assumption | trivial | exact (fun hq => by rw [hq]; rfl) | exact i64_of (by omega) (by omega) | omega | (simp; done) | (simp; omega) | (intro hse; simp [hse, hs0]; done) | (intro hse; simp only [hse, hs0, Bool.true_and, Bool.and_true, Bool.not_false, Bool.not_true, Bool.and_self]; done))))))
          refine cut_same (by simp only [ZZ, YY, Ze, ite_true, ite_false, forall_const, reduceCtorEq, Nat.reduceAdd, Nat.reduceMul, Nat.reduceLeDiff, Nat.reduceLT, Nat.reduceEqDiff]) ?_
          simp only [ZZ, YY, Ze, ite_true, ite_false, forall_const, reduceCtorEq, Nat.reduceAdd, Nat.reduceMul, Nat.reduceLeDiff, Nat.reduceLT, Nat.reduceEqDiff]
          ((repeat' (with_reducible apply And.intro)) <;> try ((first | first | assumption | trivial | exact (fun hq => by rw [hq]; rfl) | exact i64_of (by omega) (by omega) | omega | (simp; done) | (simp; omega) | (intro hsc; have hs0 := hsc; (try have hsd := of_decide_eq_true hsc); (try simp only [Bool.not_eq_true', Bool.or_eq_false_iff, Bool.and_eq_true, Bool.or_eq_true, decide_eq_true_eq, decide_eq_false_iff_not] at hsc); (repeat' (with_reducible apply And.intro)) <;> (first | assumption | trivial | exact (fun hq => by rw [hq]; rfl) | exact i64_of (by omega) (by omega) | omega | (simp; done) | (simp; omega) | (intro hse; simp [hse, hs0]; done) | (intro hse; simp only [hse, hs0, Bool.true_and, Bool.and_true, Bool.not_false, Bool.not_true, Bool.and_self]; done))))))
          rw [strE_one, ← strE_app, List.append_assoc, ← hst]
          refine end_round (ws.length - (m + 1)) [.any, .any, .any, .row (.l 3), .any, .any, .any, .any, .any, .p (.sl 1 (strE l)), .p (int (l.length : Nat)), .p (int (k : Nat)), .any, .any, .any, .any, .any, .any, .any, .any, .any, .any, .p (.sl 1 (strE ws)), .p (int (ws.length : Nat)), .p (int ((m + 1) : Nat)), .any, .any, .any, .any, .any, .any, .any, .any, .any, .any, .any, .any] [(.l 3, .row (strE (acc ++ (ws.take (m + 1)).filter nem)) tStr 1 true)] (by omega) (by (simp only [ZZ, YY, Ze, ite_true, ite_false, forall_const, reduceCtorEq, Nat.reduceAdd, Nat.reduceMul, Nat.reduceLeDiff, Nat.reduceLT, Nat.reduceEqDiff]; try trivial)) (by (simp only [ZZ, YY, Ze, ite_true, ite_false, forall_const, reduceCtorEq, Nat.reduceAdd, Nat.reduceMul, Nat.reduceLeDiff, Nat.reduceLT, Nat.reduceEqDiff]; try trivial)) ⟨m + 1, by omega, rfl, rfl, rfl⟩
        · intro hne
          have hny : nem y = false := by cases y <;> simp_all [nem]
          rw [if_neg (by simp [hny]), List.append_nil] at hst
          simp only [ZZ, YY, Ze, ite_true, ite_false, forall_const, reduceCtorEq, Nat.reduceAdd, Nat.reduceMul, Nat.reduceLeDiff, Nat.reduceLT, Nat.reduceEqDiff]
          refine cut_same (by simp only [ZZ, YY, Ze, ite_true, ite_false, forall_const, reduceCtorEq, Nat.reduceAdd, Nat.reduceMul, Nat.reduceLeDiff, Nat.reduceLT, Nat.reduceEqDiff]) ?_
          simp only [ZZ, YY, Ze, ite_true, ite_false, forall_const, reduceCtorEq, Nat.reduceAdd, Nat.reduceMul, Nat.reduceLeDiff, Nat.reduceLT, Nat.reduceEqDiff]
          ((repeat' (with_reducible apply And.intro)) <;> try ((first | first | assumption | trivial | exact (fun hq => by rw [hq]; rfl) | exact i64_of (by omega) (by omega) | omega | (simp; done) | (simp; omega) | (intro hsc; have hs0 := hsc; (try have hsd := of_decide_eq_true hsc); (try simp only [Bool.not_eq_true', Bool.or_eq_false_iff, Bool.and_eq_true, Bool.or_eq_true, decide_eq_true_eq, decide_eq_false_iff_not] at hsc); (repeat' (with_reducible apply And.intro)) <;> (first | assumption | trivial | exact (fun hq => by rw [hq]; rfl) | exact i64_of (by omega) (by omega) | omega | (simp; done) | (simp; omega) | (intro hse; simp [hse, hs0]; done) | (intro hse; simp only [hse, hs0, Bool.true_and, Bool.and_true, Bool.not_false, Bool.not_true, Bool.and_self]; done))))))
          rw [← hst]
          refine end_round (ws.length - (m + 1)) [.any, .any, .any, .row (.l 3), .any, .any, .any, .any, .any, .p (.sl 1 (strE l)), .p (int (l.length : Nat)), .p (int (k : Nat)), .any, .any, .any, .any, .any, .any, .any, .any, .any, .any, .p (.sl 1 (strE ws)), .p (int (ws.length : Nat)), .p (int ((m + 1) : Nat)), .any, .any, .any, .any, .any, .any, .any, .any, .any, .any, .any, .any] [(.l 3, .row (strE (acc ++ (ws.take (m + 1)).filter nem)) tStr 1 true)] (by omega) (by (simp only [ZZ, YY, Ze, ite_true, ite_false, forall_const, reduceCtorEq, Nat.reduceAdd, Nat.reduceMul, Nat.reduceLeDiff, Nat.reduceLT, Nat.reduceEqDiff]; try trivial)) (by (simp only [ZZ, YY, Ze, ite_true, ite_false, forall_const, reduceCtorEq, Nat.reduceAdd, Nat.reduceMul, Nat.reduceLeDiff, Nat.reduceLT, Nat.reduceEqDiff]; try trivial)) ⟨m + 1, by omega, rfl, rfl, rfl⟩
      · intro h
        have hge : m = ws.length := by have := of_decide_eq_false h; omega
        subst hge
        simp only [ZZ, YY, Ze, ite_true, ite_false, forall_const, reduceCtorEq, Nat.reduceAdd, Nat.reduceMul, Nat.reduceLeDiff, Nat.reduceLT, Nat.reduceEqDiff]
        ((repeat' (with_reducible apply And.intro)) <;> try ((first | first | assumption | trivial | exact (fun hq => by rw [hq]; rfl) | exact i64_of (by omega) (by omega) | omega | (simp; done) | (simp; omega) | (intro hsc; have hs0 := hsc; (try have hsd := of_decide_eq_true hsc); (try simp only [Bool.not_eq_true', Bool.or_eq_false_iff, Bool.and_eq_true, Bool.or_eq_true, decide_eq_true_eq, decide_eq_false_iff_not] at hsc); (repeat' (with_reducible apply And.intro)) <;> (first | assumption | trivial | exact (fun hq => by rw [hq]; rfl) | exact i64_of (by omega) (by omega) | omega | (simp; done) | (simp; omega) | (intro hse; simp [hse, hs0]; done) | (intro hse; simp only [hse, hs0, Bool.true_and, Bool.and_true, Bool.not_false, Bool.not_true, Bool.and_self]; done))))))
        rw [List.take_length, ← hk0]
        refine end_round (l.length - (k + 1)) [.any, .any, .any, .row (.l 3), .any, .any, .any, .any, .any, .p (.sl 1 (strE l)), .p (int (l.length : Nat)), .p (int ((k + 1) : Nat)), .any, .any, .any, .any, .any, .any, .any, .any, .any, .any, .any, .any, .any, .any, .any, .any, .any, .any, .any, .any, .any, .any, .any, .any, .any] [(.l 3, .row (strE (tkL l (k + 1))) tStr 1 true)] (by omega) (by (simp only [ZZ, YY, Ze, ite_true, ite_false, forall_const, reduceCtorEq, Nat.reduceAdd, Nat.reduceMul, Nat.reduceLeDiff, Nat.reduceLT, Nat.reduceEqDiff]; try trivial)) (by (simp only [ZZ, YY, Ze, ite_true, ite_false, forall_const, reduceCtorEq, Nat.reduceAdd, Nat.reduceMul, Nat.reduceLeDiff, Nat.reduceLT, Nat.reduceEqDiff]; try trivial)) ⟨k + 1, by omega, rfl, rfl, rfl⟩
  · intro h
    have hge : k = l.length := by have := of_decide_eq_false h; omega
    subst hge
    simp only [ZZ, YY, Ze, ite_true, ite_false, forall_const, reduceCtorEq, Nat.reduceAdd, Nat.reduceMul, Nat.reduceLeDiff, Nat.reduceLT, Nat.reduceEqDiff]
    exact fin_F 3 _ rfl rfl rfl
set_option maxHeartbeats 4000000 in
theorem TokensOf_ok (s : List UInt8) (hs : s.length ≤ 1000000000) : FCall Tryz.prog E0 98 [.str s] tStr 1 (· = strE (tokF s)) := by
  unfold FCall
  refine gcallR mixed Tryz.func98 ck_chaseref1_TokensOf ?_
  simp only [a0, l0, OS.ao, List.map_cons, List.map_nil, List.length_cons, List.length_nil, List.cons_append, List.nil_append, Nat.reduceSub, Nat.reduceAdd, List.replicate_succ, List.replicate_zero, ir_chaseref1_TokensOf, rs_chaseref1_TokensOf, ZZ, YY, Ze, ite_true, ite_false, forall_const, reduceCtorEq, Nat.reduceAdd, Nat.reduceMul, Nat.reduceLeDiff, Nat.reduceLT, Nat.reduceEqDiff]
  refine use1 (Split_ok s 10 hs) rfl (.inl rfl) ?_
  have hw : ∀ k, k ≤ (splF s 10).length → (tkL (splF s 10) k).length ≤ 3000000003 := fun k hk => by
    have h1 := tkL_wgt (splF s 10) k hk
    have h2 := wgt_takeS (splF s 10) k
    have h3 := wgt_len (tkL (splF s 10) k)
    rw [splF_wgt] at h2
    omega
  have hlb : ∀ x ∈ splF s 10, x.length ≤ s.length := splF_mem s 10
  have hll := splF_len s 10
  rw [show tokF s = tkL (splF s 10) (splF s 10).length from rfl]
  generalize splF s 10 = l at *
  rw [strs_eq]
  simp only [ZZ, YY, Ze, ite_true, ite_false, forall_const, reduceCtorEq, Nat.reduceAdd, Nat.reduceMul, Nat.reduceLeDiff, Nat.reduceLT, Nat.reduceEqDiff, strE_len]
  rw [show ([] : List (List PV)) = strE (tkL l 0) from rfl]
  refine loop_intro (fun n fr L => ∃ (k : Nat), k ≤ l.length ∧ n = l.length - k ∧ fr = [.any, .any, .any, .row (.l 3), .any, .any, .any, .any, .any, .p (.sl 1 (strE l)), .p (int (l.length : Nat)), .p (int (k : Nat)), .any, .any, .any, .any, .any, .any, .any, .any, .any, .any, .any, .any, .any, .any, .any, .any, .any, .any, .any, .any, .any, .any, .any, .any, .any] ∧ L = [(.l 3, .row (strE (tkL l k)) tStr 1 true)]) (l.length) [.any, .any, .any, .row (.l 3), .any, .any, .any, .any, .any, .p (.sl 1 (strE l)), .p (int (l.length : Nat)), .p (int (0 : Nat)), .any, .any, .any, .any, .any, .any, .any, .any, .any, .any, .any, .any, .any, .any, .any, .any, .any, .any, .any, .any, .any, .any, .any, .any, .any] [(.l 3, .row (strE (tkL l 0)) tStr 1 true)] (by simp only [ZZ, YY, Ze, ite_true, ite_false, forall_const, reduceCtorEq, Nat.reduceAdd, Nat.reduceMul, Nat.reduceLeDiff, Nat.reduceLT, Nat.reduceEqDiff, strE_len]; try trivial) (by (simp only [ZZ, YY, Ze, ite_true, ite_false, forall_const, reduceCtorEq, Nat.reduceAdd, Nat.reduceMul, Nat.reduceLeDiff, Nat.reduceLT, Nat.reduceEqDiff]; try trivial)) ⟨0, by omega, by omega, rfl, rfl⟩ ?_
  rintro n fr L ⟨k, hk, rfl, rfl, rfl⟩
  simp only [ir_chaseref1_TokensOf_L0, ZZ, YY, Ze, ite_true, ite_false, forall_const, reduceCtorEq, Nat.reduceAdd, Nat.reduceMul, Nat.reduceLeDiff, Nat.reduceLT, Nat.reduceEqDiff]
  refine br ?_ ?_
  · intro h
    have hlt : k < l.length := by have := of_decide_eq_true h; omega
    obtain ⟨x, hx⟩ : ∃ x, l[k]? = some x := ⟨_, List.getElem?_eq_getElem hlt⟩
    have hg : (strE l).getD k [] = [.str x] := strE_get hx
    have hxd : l.getD k [] = x := by simp [List.getD, hx]
    have hxb := hlb x (List.mem_of_getElem? hx)
    have hwk := hw k (by omega)
    have hwk1 := hw (k + 1) (by omega)
    have htk : tkL l (k + 1) = tkS (tkL l k) k x := by rw [tkL, hxd]
    simp only [ZZ, YY, Ze, ite_true, ite_false, forall_const, reduceCtorEq, Nat.reduceAdd, Nat.reduceMul, Nat.reduceLeDiff, Nat.reduceLT, Nat.reduceEqDiff, hg, strE_len]
    ((repeat' (with_reducible apply And.intro)) <;> try ((first | first | assumption | trivial | exact (fun hq => by rw [hq]; rfl) | exact i64_of (by omega) (by omega) | omega | (simp; done) | (simp; omega) | (intro hsc; have hs0 := hsc; (try have hsd := of_decide_eq_true hsc); (try simp only [Bool.not_eq_true', Bool.or_eq_false_iff, Bool.and_eq_true, Bool.or_eq_true, decide_eq_true_eq, decide_eq_false_iff_not] at hsc); (repeat' (with_reducible apply And.intro)) <;> (first | assumption | trivial | exact (fun hq => by rw [hq]; rfl) | exact i64_of (by omega) (by omega) | omega | (simp; done) | (simp; omega) | (intro hse; simp [hse, hs0]; done) | (intro hse; simp only [hse, hs0, Bool.true_and, Bool.and_true, Bool.not_false, Bool.not_true, Bool.and_self]; done))))))
    have key : ∀ acc : List (List UInt8), acc = tkL l k ++ (if 0 < k then [[10]] else []) → acc.length ≤ 3000000004 → tkL l (k + 1) = acc ++ (splF x 32).filter nem := fun acc h _ => by rw [htk, tkS, h]
    refine br ?_ ?_
    · intro h0
      have h0 : 0 < k := by have := of_decide_eq_true h0; omega
      have hk0 := key _ (by rw [if_pos h0]) (by simp; omega)
      simp only [ZZ, YY, Ze, ite_true, ite_false, forall_const, reduceCtorEq, Nat.reduceAdd, Nat.reduceMul, Nat.reduceLeDiff, Nat.reduceLT, Nat.reduceEqDiff, strE_len]
      ((repeat' (with_reducible apply And.intro)) <;> try ((first | first | assumption | trivial | exact (fun hq => by rw [hq]; rfl) | exact i64_of (by omega) (by omega) | omega | (simp; done) | (simp; omega) | (intro hsc; have hs0 := hsc; (try have hsd := of_decide_eq_true hsc); (try simp only [Bool.not_eq_true', Bool.or_eq_false_iff, Bool.and_eq_true, Bool.or_eq_true, decide_eq_true_eq, decide_eq_false_iff_not] at hsc); (repeat' (with_reducible apply And.intro)) <;> (first | assumption | trivial | exact (fun hq => by rw [hq]; rfl) | exact i64_of (by omega) (by omega) | omega | (simp; done) | (simp; omega) | (intro hse; simp [hse, hs0]; done) | (intro hse; simp only [hse, hs0, Bool.true_and, Bool.and_true, Bool.not_false, Bool.not_true, Bool.and_self]; done))))))
      refine cut_same (by simp only [ZZ, YY, Ze, ite_true, ite_false, forall_const, reduceCtorEq, Nat.reduceAdd, Nat.reduceMul, Nat.reduceLeDiff, Nat.reduceLT, Nat.reduceEqDiff]) ?_
      simp only [ZZ, YY, Ze, ite_true, ite_false, forall_const, reduceCtorEq, Nat.reduceAdd, Nat.reduceMul, Nat.reduceLeDiff, Nat.reduceLT, Nat.reduceEqDiff]
      refine use1 (Split_ok x 32 (by omega)) rfl (.inl rfl) ?_
      rw [strs_eq, strE_one, ← strE_app]
      have hml := splF_len x 32
      generalize hws : splF x 32 = ws at *
      generalize hacc : tkL l k ++ [[10]] = acc at *
      have hal : acc.length ≤ 3000000004 := by rw [← hacc]; simp; omega
      simp only [ZZ, YY, Ze, ite_true, ite_false, forall_const, reduceCtorEq, Nat.reduceAdd, Nat.reduceMul, Nat.reduceLeDiff, Nat.reduceLT, Nat.reduceEqDiff, strE_len]
      rw [show strE acc = strE (acc ++ (ws.take 0).filter nem) from by simp]
      refine loop_intro (fun n fr L => ∃ (m : Nat), m ≤ ws.length ∧ n = ws.length - m ∧ fr = [.any, .any, .any, .row (.l 3), .any, .any, .any, .any, .any, .p (.sl 1 (strE l)), .p (int (l.length : Nat)), .p (int (k : Nat)), .any, .any, .any, .any, .any, .any, .any, .any, .any, .any, .p (.sl 1 (strE ws)), .p (int (ws.length : Nat)), .p (int (m : Nat)), .any, .any, .any, .any, .any, .any, .any, .any, .any, .any, .any, .any] ∧ L = [(.l 3, .row (strE (acc ++ (ws.take m).filter nem)) tStr 1 true)]) (ws.length) [.any, .any, .any, .row (.l 3), .any, .any, .any, .any, .any, .p (.sl 1 (strE l)), .p (int (l.length : Nat)), .p (int (k : Nat)), .any, .any, .any, .any, .any, .any, .any, .any, .any, .any, .p (.sl 1 (strE ws)), .p (int (ws.length : Nat)), .p (int (0 : Nat)), .any, .any, .any, .any, .any, .any, .any, .any, .any, .any, .any, .any] [(.l 3, .row (strE (acc ++ (ws.take 0).filter nem)) tStr 1 true)] (by simp only [ZZ, YY, Ze, ite_true, ite_false, forall_const, reduceCtorEq, Nat.reduceAdd, Nat.reduceMul, Nat.reduceLeDiff, Nat.reduceLT, Nat.reduceEqDiff, strE_len]; try trivial) (by (simp only [ZZ, YY, Ze, ite_true, ite_false, forall_const, reduceCtorEq, Nat.reduceAdd, Nat.reduceMul, Nat.reduceLeDiff, Nat.reduceLT, Nat.reduceEqDiff]; try trivial)) ⟨0, by omega, by omega, rfl, rfl⟩ ?_
      rintro n fr L ⟨m, hm, rfl, rfl, rfl⟩
      simp only [ir_chaseref1_TokensOf_L1, ZZ, YY, Ze, ite_true, ite_false, forall_const, reduceCtorEq, Nat.reduceAdd, Nat.reduceMul, Nat.reduceLeDiff, Nat.reduceLT, Nat.reduceEqDiff]
      refine br ?_ ?_
      · intro h
        have hlt : m < ws.length := by have := of_decide_eq_true h; omega
        obtain ⟨y, hy⟩ : ∃ y, ws[m]? = some y := ⟨_, List.getElem?_eq_getElem hlt⟩
        have hg2 : (strE ws).getD m [] = [.str y] := strE_get hy
        have hst := filt_step hy
        have hfl := filt_len ws m
        simp only [ZZ, YY, Ze, ite_true, ite_false, forall_const, reduceCtorEq, Nat.reduceAdd, Nat.reduceMul, Nat.reduceLeDiff, Nat.reduceLT, Nat.reduceEqDiff, hg2, strE_len]
        ((repeat' (with_reducible apply And.intro)) <;> try ((first | first | assumption | trivial | exact (fun hq => by rw [hq]; rfl) | exact i64_of (by omega) (by omega) | omega | (simp; done) | (simp; omega) | (intro hsc; have hs0 := hsc; (try have hsd := of_decide_eq_true hsc); (try simp only [Bool.not_eq_true', Bool.or_eq_false_iff, Bool.and_eq_true, Bool.or_eq_true, decide_eq_true_eq, decide_eq_false_iff_not] at hsc); (repeat' (with_reducible apply And.intro)) <;> (first | assumption | trivial | exact (fun hq => by rw [hq]; rfl) | exact i64_of (by omega) (by omega) | omega | (simp; done) | (simp; omega) | (intro hse; simp [hse, hs0]; done) | (intro hse; simp only [hse, hs0, Bool.true_and, Bool.and_true, Bool.not_false, Bool.not_true, Bool.and_self]; done))))))
        refine br ?_ ?_
        · intro hne
          have hny : nem y = true := by cases y <;> simp_all [nem]
          rw [if_pos hny] at hst
          simp only [ZZ, YY, Ze, ite_true, ite_false, forall_const, reduceCtorEq, Nat.reduceAdd, Nat.reduceMul, Nat.reduceLeDiff, Nat.reduceLT, Nat.reduceEqDiff, strE_len]
          ((repeat' (with_reducible apply And.intro)) <;> try ((first | first | assumption | trivial | exact (fun hq => by rw [hq]; rfl) | exact i64_of (by omega) (by omega) | omega | (simp; done) | (simp; omega) | (intro hsc; have hs0 := hsc; (try have hsd := of_decide_eq_true hsc); (try simp only [Bool.not_eq_true', Bool.or_eq_false_iff, Bool.and_eq_true, Bool.or_eq_true, decide_eq_true_eq, decide_eq_false_iff_not] at hsc); (repeat' (with_reducible apply And.intro)) <;> (first | assumption | trivial | exact (fun hq => by rw [hq]; rfl) | exact i64_of (by omega) (by omega) | omega | (simp; done) | (simp; omega) | (intro hse; simp [hse, hs0]; done) | (intro hse; simp only [hse, hs0, Bool.true_and, Bool.and_true, Bool.not_false, Bool.not_true, Bool.and_self]; done))))))
          refine cut_same (by simp only [ZZ, YY, Ze, ite_true, ite_false, forall_const, reduceCtorEq, Nat.reduceAdd, Nat.reduceMul, Nat.reduceLeDiff, Nat.reduceLT, Nat.reduceEqDiff]) ?_
          simp only [ZZ, YY, Ze, ite_true, ite_false, forall_const, reduceCtorEq, Nat.reduceAdd, Nat.reduceMul, Nat.reduceLeDiff, Nat.reduceLT, Nat.reduceEqDiff]
          ((repeat' (with_reducible apply And.intro)) <;> try ((first | first | assumption | trivial | exact (fun hq => by rw [hq]; rfl) | exact i64_of (by omega) (by omega) | omega | (simp; done) | (simp; omega) | (intro hsc; have hs0 := hsc; (try have hsd := of_decide_eq_true hsc); (try simp only [Bool.not_eq_true', Bool.or_eq_false_iff, Bool.and_eq_true, Bool.or_eq_true, decide_eq_true_eq, decide_eq_false_iff_not] at hsc); (repeat' (with_reducible apply And.intro)) <;> (first | assumption | trivial | exact (fun hq => by rw [hq]; rfl) | exact i64_of (by omega) (by omega) | omega | (simp; done) | (simp; omega) | (intro hse; simp [hse, hs0]; done) | (intro hse; simp only [hse, hs0, Bool.true_and, Bool.and_true, Bool.not_false, Bool.not_true, Bool.and_self]; done))))))
          rw [strE_one, ← strE_app, List.append_assoc, ← hst]
          refine end_round (ws.length - (m + 1)) [.any, .any, .any, .row (.l 3), .any, .any, .any, .any, .any, .p (.sl 1 (strE l)), .p (int (l.length : Nat)), .p (int (k : Nat)), .any, .any, .any, .any, .any, .any, .any, .any, .any, .any, .p (.sl 1 (strE ws)), .p (int (ws.length : Nat)), .p (int ((m + 1) : Nat)), .any, .any, .any, .any, .any, .any, .any, .any, .any, .any, .any, .any] [(.l 3, .row (strE (acc ++ (ws.take (m + 1)).filter nem)) tStr 1 true)] (by omega) (by (simp only [ZZ, YY, Ze, ite_true, ite_false, forall_const, reduceCtorEq, Nat.reduceAdd, Nat.reduceMul, Nat.reduceLeDiff, Nat.reduceLT, Nat.reduceEqDiff]; try trivial)) (by (simp only [ZZ, YY, Ze, ite_true, ite_false, forall_const, reduceCtorEq, Nat.reduceAdd, Nat.reduceMul, Nat.reduceLeDiff, Nat.reduceLT, Nat.reduceEqDiff]; try trivial)) ⟨m + 1, by omega, rfl, rfl, rfl⟩
        · intro hne
          have hny : nem y = false := by cases y <;> simp_all [nem]
          rw [if_neg (by simp [hny]), List.append_nil] at hst
          simp only [ZZ, YY, Ze, ite_true, ite_false, forall_const, reduceCtorEq, Nat.reduceAdd, Nat.reduceMul, Nat.reduceLeDiff, Nat.reduceLT, Nat.reduceEqDiff]
          refine cut_same (by simp only [ZZ, YY, Ze, ite_true, ite_false, forall_const, reduceCtorEq, Nat.reduceAdd, Nat.reduceMul, Nat.reduceLeDiff, Nat.reduceLT, Nat.reduceEqDiff]) ?_
          simp only [ZZ, YY, Ze, ite_true, ite_false, forall_const, reduceCtorEq, Nat.reduceAdd, Nat.reduceMul, Nat.reduceLeDiff, Nat.reduceLT, Nat.reduceEqDiff]
          ((repeat' (with_reducible apply And.intro)) <;> try ((first | first | assumption | trivial | exact (fun hq => by rw [hq]; rfl) | exact i64_of (by omega) (by omega) | omega | (simp; done) | (simp; omega) | (intro hsc; have hs0 := hsc; (try have hsd := of_decide_eq_true hsc); (try simp only [Bool.not_eq_true', Bool.or_eq_false_iff, Bool.and_eq_true, Bool.or_eq_true, decide_eq_true_eq, decide_eq_false_iff_not] at hsc); (repeat' (with_reducible apply And.intro)) <;> (first | assumption | trivial | exact (fun hq => by rw [hq]; rfl) | exact i64_of (by omega) (by omega) | omega | (simp; done) | (simp; omega) | (intro hse; simp [hse, hs0]; done) | (intro hse; simp only [hse, hs0, Bool.true_and, Bool.and_true, Bool.not_false, Bool.not_true, Bool.and_self]; done))))))
          rw [← hst]
          refine end_round (ws.length - (m + 1)) [.any, .any, .any, .row (.l 3), .any, .any, .any, .any, .any, .p (.sl 1 (strE l)), .p (int (l.length : Nat)), .p (int (k : Nat)), .any, .any, .any, .any, .any, .any, .any, .any, .any, .any, .p (.sl 1 (strE ws)), .p (int (ws.length : Nat)), .p (int ((m + 1) : Nat)), .any, .any, .any, .any, .any, .any, .any, .any, .any, .any, .any, .any] [(.l 3, .row (strE (acc ++ (ws.take (m + 1)).filter nem)) tStr 1 true)] (by omega) (by (simp only [ZZ, YY, Ze, ite_true, ite_false, forall_const, reduceCtorEq, Nat.reduceAdd, Nat.reduceMul, Nat.reduceLeDiff, Nat.reduceLT, Nat.reduceEqDiff]; try trivial)) (by (simp only [ZZ, YY, Ze, ite_true, ite_false, forall_const, reduceCtorEq, Nat.reduceAdd, Nat.reduceMul, Nat.reduceLeDiff, Nat.reduceLT, Nat.reduceEqDiff]; try trivial)) ⟨m + 1, by omega, rfl, rfl, rfl⟩
      · intro h
        have hge : m = ws.length := by have := of_decide_eq_false h; omega
        subst hge
        simp only [ZZ, YY, Ze, ite_true, ite_false, forall_const, reduceCtorEq, Nat.reduceAdd, Nat.reduceMul, Nat.reduceLeDiff, Nat.reduceLT, Nat.reduceEqDiff]
        ((repeat' (with_reducible apply And.intro)) <;> try ((first | first | assumption | trivial | exact (fun hq => by rw [hq]; rfl) | exact i64_of (by omega) (by omega) | omega | (simp; done) | (simp; omega) | (intro hsc; have hs0 := hsc; (try have hsd := of_decide_eq_true hsc); (try simp only [Bool.not_eq_true', Bool.or_eq_false_iff, Bool.and_eq_true, Bool.or_eq_true, decide_eq_true_eq, decide_eq_false_iff_not] at hsc); (repeat' (with_reducible apply And.intro)) <;> (first | assumption | trivial | exact (fun hq => by rw [hq]; rfl) | exact i64_of (by omega) (by omega) | omega | (simp; done) | (simp; omega) | (intro hse; simp [hse, hs0]; done) | (intro hse; simp only [hse, hs0, Bool.true_and, Bool.and_true, Bool.not_false, Bool.not_true, Bool.and_self]; done))))))
        rw [List.take_length, ← hk0]
        refine end_round (l.length - (k + 1)) [.any, .any, .any, .row (.l 3), .any, .any, .any, .any, .any, .p (.sl 1 (strE l)), .p (int (l.length : Nat)), .p (int ((k + 1) : Nat)), .any, .any, .any, .any, .any, .any, .any, .any, .any, .any, .any, .any, .any, .any, .any, .any, .any, .any, .any, .any, .any, .any, .any, .any, .any] [(.l 3, .row (strE (tkL l (k + 1))) tStr 1 true)] (by omega) (by (simp only [ZZ, YY, Ze, ite_true, ite_false, forall_const, reduceCtorEq, Nat.reduceAdd, Nat.reduceMul, Nat.reduceLeDiff, Nat.reduceLT, Nat.reduceEqDiff]; try trivial)) (by (simp only [ZZ, YY, Ze, ite_true, ite_false, forall_const, reduceCtorEq, Nat.reduceAdd, Nat.reduceMul, Nat.reduceLeDiff, Nat.reduceLT, Nat.reduceEqDiff]; try trivial)) ⟨k + 1, by omega, rfl, rfl, rfl⟩
    · intro h0
      have h0 : ¬ 0 < k := by have := of_decide_eq_false h0; omega
      have hk0 := key _ (by rw [if_neg h0]) (by simp; omega)
      simp only [ZZ, YY, Ze, ite_true, ite_false, forall_const, reduceCtorEq, Nat.reduceAdd, Nat.reduceMul, Nat.reduceLeDiff, Nat.reduceLT, Nat.reduceEqDiff, strE_len]
      refine cut_same (by simp only [ZZ, YY, Ze, ite_true, ite_false, forall_const, reduceCtorEq, Nat.reduceAdd, Nat.reduceMul, Nat.reduceLeDiff, Nat.reduceLT, Nat.reduceEqDiff]) ?_
      simp only [ZZ, YY, Ze, ite_true, ite_false, forall_const, reduceCtorEq, Nat.reduceAdd, Nat.reduceMul, Nat.reduceLeDiff, Nat.reduceLT, Nat.reduceEqDiff]
      refine use1 (Split_ok x 32 (by omega)) rfl (.inl rfl) ?_
      rw [strs_eq]
      have hml := splF_len x 32
      generalize hws : splF x 32 = ws at *
      rw [List.append_nil] at hk0
      generalize hacc : tkL l k = acc at *
      simp only [ZZ, YY, Ze, ite_true, ite_false, forall_const, reduceCtorEq, Nat.reduceAdd, Nat.reduceMul, Nat.reduceLeDiff, Nat.reduceLT, Nat.reduceEqDiff, strE_len]
      rw [show strE acc = strE (acc ++ (ws.take 0).filter nem) from by simp]
      refine loop_intro (fun n fr L => ∃ (m : Nat), m ≤ ws.length ∧ n = ws.length - m ∧ fr = [.any, .any, .any, .row (.l 3), .any, .any, .any, .any, .any, .p (.sl 1 (strE l)), .p (int (l.length : Nat)), .p (int (k : Nat)), .any, .any, .any, .any, .any, .any, .any, .any, .any, .any, .p (.sl 1 (strE ws)), .p (int (ws.length : Nat)), .p (int (m : Nat)), .any, .any, .any, .any, .any, .any, .any, .any, .any, .any, .any, .any] ∧ L = [(.l 3, .row (strE (acc ++ (ws.take m).filter nem)) tStr 1 true)]) (ws.length) [.any, .any, .any, .row (.l 3), .any, .any, .any, .any, .any, .p (.sl 1 (strE l)), .p (int (l.length : Nat)), .p (int (k : Nat)), .any, .any, .any, .any, .any, .any, .any, .any, .any, .any, .p (.sl 1 (strE ws)), .p (int (ws.length : Nat)), .p (int (0 : Nat)), .any, .any, .any, .any, .any, .any, .any, .any, .any, .any, .any, .any] [(.l 3, .row (strE (acc ++ (ws.take 0).filter nem)) tStr 1 true)] (by simp only [ZZ, YY, Ze, ite_true, ite_false, forall_const, reduceCtorEq, Nat.reduceAdd, Nat.reduceMul, Nat.reduceLeDiff, Nat.reduceLT, Nat.reduceEqDiff, strE_len]; try trivial) (by (simp only [ZZ, YY, Ze, ite_true, ite_false, forall_const, reduceCtorEq, Nat.reduceAdd, Nat.reduceMul, Nat.reduceLeDiff, Nat.reduceLT, Nat.reduceEqDiff]; try trivial)) ⟨0, by omega, by omega, rfl, rfl⟩ ?_
      rintro n fr L ⟨m, hm, rfl, rfl, rfl⟩
      simp only [ir_chaseref1_TokensOf_L1, ZZ, YY, Ze, ite_true, ite_false, forall_const, reduceCtorEq, Nat.reduceAdd, Nat.reduceMul, Nat.reduceLeDiff, Nat.reduceLT, Nat.reduceEqDiff]
      refine br ?_ ?_
      · intro h
        have hlt : m < ws.length := by have := of_decide_eq_true h; omega
        obtain ⟨y, hy⟩ : ∃ y, ws[m]? = some y := ⟨_, List.getElem?_eq_getElem hlt⟩
        have hg2 : (strE ws).getD m [] = [.str y] := strE_get hy
        have hst := filt_step hy
        have hfl := filt_len ws m
        simp only [ZZ, YY, Ze, ite_true, ite_false, forall_const, reduceCtorEq, Nat.reduceAdd, Nat.reduceMul, Nat.reduceLeDiff, Nat.reduceLT, Nat.reduceEqDiff, hg2, strE_len]
        ((repeat' (with_reducible apply And.intro)) <;> try ((first | first | assumption | trivial | exact (fun hq => by rw [hq]; rfl) | exact i64_of (by omega) (by omega) | omega | (simp; done) | (simp; omega) | (intro hsc; have hs0 := hsc; (try have hsd := of_decide_eq_true hsc); (try simp only [Bool.not_eq_true', Bool.or_eq_false_iff, Bool.and_eq_true, Bool.or_eq_true, decide_eq_true_eq, decide_eq_false_iff_not] at hsc); (repeat' (with_reducible apply And.intro)) <;> (first | assumption | trivial | exact (fun hq => by rw [hq]; rfl) | exact i64_of (by omega) (by omega) | omega | (simp; done) | (simp; omega) | (intro hse; simp [hse, hs0]; done) | (intro hse; simp only [hse, hs0, Bool.true_and, Bool.and_true, Bool.not_false, Bool.not_true, Bool.and_self]; done))))))
        refine br ?_ ?_
        · intro hne
          have hny : nem y = true := by cases y <;> simp_all [nem]
          rw [if_pos hny] at hst
          simp only [ZZ, YY, Ze, ite_true, ite_false, forall_const, reduceCtorEq, Nat.reduceAdd, Nat.reduceMul, Nat.reduceLeDiff, Nat.reduceLT, Nat.reduceEqDiff, strE_len]
          ((repeat' (with_reducible apply And.intro)) <;> try ((first | first | assumption | trivial | exact (fun hq => by rw [hq]; rfl) | exact i64_of (by omega) (by omega) | omega | (simp; done) | (simp; omega) | (intro hsc; have hs0 := hsc; (try have hsd := of_decide_eq_true hsc); (try simp only [Bool.not_eq_true', Bool.or_eq_false_iff, Bool.and_eq_true, Bool.or_eq_true, decide_eq_true_eq, decide_eq_false_iff_not] at hsc); (repeat' (with_reducible apply And.intro)) <;> (first | assumption | trivial | exact (fun hq => by rw [hq]; rfl) | exact i64_of (by omega) (by omega) | omega | (simp; done) | (simp; omega) | (intro hse; simp [hse, hs0]; done) | (intro hse; simp only [hse, hs0, Bool.true_and, Bool.and_true, Bool.not_false, Bool.not_true, Bool.and_self]; done))))))
          refine cut_same (by simp only [ZZ, YY, Ze, ite_true, ite_false, forall_const, reduceCtorEq, Nat.reduceAdd, Nat.reduceMul, Nat.reduceLeDiff, Nat.reduceLT, Nat.reduceEqDiff]) ?_
          simp only [ZZ, YY, Ze, ite_true, ite_false, forall_const, reduceCtorEq, Nat.reduceAdd, Nat.reduceMul, Nat.reduceLeDiff, Nat.reduceLT, Nat.reduceEqDiff]
          ((repeat' (with_reducible apply And.intro)) <;> try ((first | first | assumption | trivial | exact (fun hq => by rw [hq]; rfl) | exact i64_of (by omega) (by omega) | omega | (simp; done) | (simp; omega) | (intro hsc; have hs0 := hsc; (try have hsd := of_decide_eq_true hsc); (try simp only [Bool.not_eq_true', Bool.or_eq_false_iff, Bool.and_eq_true, Bool.or_eq_true, decide_eq_true_eq, decide_eq_false_iff_not] at hsc); (repeat' (with_reducible apply And.intro)) <;> (first | assumption | trivial | exact (fun hq => by rw [hq]; rfl) | exact i64_of (by omega) (by omega) | omega | (simp; done) | (simp; omega) | (intro hse; simp [hse, hs0]; done) | (intro hse; simp only [hse, hs0, Bool.true_and, Bool.and_true, Bool.not_false, Bool.not_true, Bool.and_self]; done))))))
          rw [strE_one, ← strE_app, List.append_assoc, ← hst]
          refine end_round (ws.length - (m + 1)) [.any, .any, .any, .row (.l 3), .any, .any, .any, .any, .any, .p (.sl 1 (strE l)), .p (int (l.length : Nat)), .p (int (k : Nat)), .any, .any, .any, .any, .any, .any, .any, .any, .any, .any, .p (.sl 1 (strE ws)), .p (int (ws.length : Nat)), .p (int ((m + 1) : Nat)), .any, .any, .any, .any, .any, .any, .any, .any, .any, .any, .any, .any] [(.l 3, .row (strE (acc ++ (ws.take (m + 1)).filter nem)) tStr 1 true)] (by omega) (by (simp only [ZZ, YY, Ze, ite_true, ite_false, forall_const, reduceCtorEq, Nat.reduceAdd, Nat.reduceMul, Nat.reduceLeDiff, Nat.reduceLT, Nat.reduceEqDiff]; try trivial)) (by (simp only [ZZ, YY, Ze, ite_true, ite_false, forall_const, reduceCtorEq, Nat.reduceAdd, Nat.reduceMul, Nat.reduceLeDiff, Nat.reduceLT, Nat.reduceEqDiff]; try trivial)) ⟨m + 1, by omega, rfl, rfl, rfl⟩
        · intro hne
          have hny : nem y = false := by cases y <;> simp_all [nem]
          rw [if_neg (by simp [hny]), List.append_nil] at hst
          simp only [ZZ, YY, Ze, ite_true, ite_false, forall_const, reduceCtorEq, Nat.reduceAdd, Nat.reduceMul, Nat.reduceLeDiff, Nat.reduceLT, Nat.reduceEqDiff]
          refine cut_same (by simp only [ZZ, YY, Ze, ite_true, ite_false, forall_const, reduceCtorEq, Nat.reduceAdd, Nat.reduceMul, Nat.reduceLeDiff, Nat.reduceLT, Nat.reduceEqDiff]) ?_
          simp only [ZZ, YY, Ze, ite_true, ite_false, forall_const, reduceCtorEq, Nat.reduceAdd, Nat.reduceMul, Nat.reduceLeDiff, Nat.reduceLT, Nat.reduceEqDiff]
          ((repeat' (with_reducible apply And.intro)) <;> try ((first | first | assumption | trivial | exact (fun hq => by rw [hq]; rfl) | exact i64_of (by omega) (by omega) | omega | (simp; done) | (simp; omega) | (intro hsc; have hs0 := hsc; (try have hsd := of_decide_eq_true hsc); (try simp only [Bool.not_eq_true', Bool.or_eq_false_iff, Bool.and_eq_true, Bool.or_eq_true, decide_eq_true_eq, decide_eq_false_iff_not] at hsc); (repeat' (with_reducible apply And.intro)) <;> (first | assumption | trivial | exact (fun hq => by rw [hq]; rfl) | exact i64_of (by omega) (by omega) | omega | (simp; done) | (simp; omega) | (intro hse; simp [hse, hs0]; done) | (intro hse; simp only [hse, hs0, Bool.true_and, Bool.and_true, Bool.not_false, Bool.not_true, Bool.and_self]; done))))))
          rw [← hst]
          refine end_round (ws.length - (m + 1)) [.any, .any, .any, .row (.l 3), .any, .any, .any, .any, .any, .p (.sl 1 (strE l)), .p (int (l.length : Nat)), .p (int (k : Nat)), .any, .any, .any, .any, .any, .any, .any, .any, .any, .any, .p (.sl 1 (strE ws)), .p (int (ws.length : Nat)), .p (int ((m + 1) : Nat)), .any, .any, .any, .any, .any, .any, .any, .any, .any, .any, .any, .any] [(.l 3, .row (strE (acc ++ (ws.take (m + 1)).filter nem)) tStr 1 true)] (by omega) (by (simp only [ZZ, YY, Ze, ite_true, ite_false, forall_const, reduceCtorEq, Nat.reduceAdd, Nat.reduceMul, Nat.reduceLeDiff, Nat.reduceLT, Nat.reduceEqDiff]; try trivial)) (by (simp only [ZZ, YY, Ze, ite_true, ite_false, forall_const, reduceCtorEq, Nat.reduceAdd, Nat.reduceMul, Nat.reduceLeDiff, Nat.reduceLT, Nat.reduceEqDiff]; try trivial)) ⟨m + 1, by omega, rfl, rfl, rfl⟩
      · intro h
        have hge : m = ws.length := by have := of_decide_eq_false h; omega
        subst hge
        simp only [ZZ, YY, Ze, ite_true, ite_false, forall_const, reduceCtorEq, Nat.reduceAdd, Nat.reduceMul, Nat.reduceLeDiff, Nat.reduceLT, Nat.reduceEqDiff]
        ((repeat' (with_reducible apply And.intro)) <;> try ((first | first | assumption | trivial | exact (fun hq => by rw [hq]; rfl) | exact i64_of (by omega) (by omega) | omega | (simp; done) | (simp; omega) | (intro hsc; have hs0 := hsc; (try have hsd := of_decide_eq_true hsc); (try simp only [Bool.not_eq_true', Bool.or_eq_false_iff, Bool.and_eq_true, Bool.or_eq_true, decide_eq_true_eq, decide_eq_false_iff_not] at hsc); (repeat' (with_reducible apply And.intro)) <;> (first | assumption | trivial | exact (fun hq => by rw [hq]; rfl) | exact i64_of (by omega) (by omega) | omega | (simp; done) | (simp; omega) | (intro hse; simp [hse, hs0]; done) | (intro hse; simp only [hse, hs0, Bool.true_and, Bool.and_true, Bool.not_false, Bool.not_true, Bool.and_self]; done))))))
        rw [List.take_length, ← hk0]
        refine end_round (l.length - (k + 1)) [.any, .any, .any, .row (.l 3), .any, .any, .any, .any, .any, .p (.sl 1 (strE l)), .p (int (l.length : Nat)), .p (int ((k + 1) : Nat)), .any, .any, .any, .any, .any, .any, .any, .any, .any, .any, .any, .any, .any, .any, .any, .any, .any, .any, .any, .any, .any, .any, .any, .any, .any] [(.l 3, .row (strE (tkL l (k + 1))) tStr 1 true)] (by omega) (by (simp only [ZZ, YY, Ze, ite_true, ite_false, forall_const, reduceCtorEq, Nat.reduceAdd, Nat.reduceMul, Nat.reduceLeDiff, Nat.reduceLT, Nat.reduceEqDiff]; try trivial)) (by (simp only [ZZ, YY, Ze, ite_true, ite_false, forall_const, reduceCtorEq, Nat.reduceAdd, Nat.reduceMul, Nat.reduceLeDiff, Nat.reduceLT, Nat.reduceEqDiff]; try trivial)) ⟨k + 1, by omega, rfl, rfl, rfl⟩
  · intro h
    have hge : k = l.length := by have := of_decide_eq_false h; omega
    subst hge
    simp only [ZZ, YY, Ze, ite_true, ite_false, forall_const, reduceCtorEq, Nat.reduceAdd, Nat.reduceMul, Nat.reduceLeDiff, Nat.reduceLT, Nat.reduceEqDiff]
    exact fin_F 3 _ rfl rfl rfl
end Go.Proofs.YthfpehmbellmcaaGreatDoor

/- slices.Index and Contains at strings. -/
namespace Go.Proofs.YthfpehmbellmcaaGreatDoor
open Go.RowKit
set_option linter.unusedVariables false
set_option linter.unusedSimpArgs false
set_option linter.defProp false

end Go.Proofs.YthfpehmbellmcaaGreatDoor

/- Kept tokens: near.kept. -/
namespace Go.Proofs.YthfpehmbellmcaaGreatDoor
open Go.RowKit
set_option linter.unusedVariables false
set_option linter.unusedSimpArgs false
set_option linter.defProp false

abbrev tPr : Nat := 133
abbrev tIntM : Nat := 3
abbrev Toks := List (List UInt8)
def tbR (n : Nat) (f : Nat → Nat) : List (List PV) := (List.range n).map fun q => [int (f q : Nat)]
theorem tbR_len (n : Nat) (f : Nat → Nat) : (tbR n f).length = n := by simp [tbR]
theorem tbR_get {n q : Nat} {f : Nat → Nat} (h : q < n) : (tbR n f).getD q [] = [int (f q : Nat)] := by simp [tbR, List.getD, h]
theorem tbR_ext {n : Nat} {f g : Nat → Nat} (h : ∀ q, q < n → f q = g q) : tbR n f = tbR n g := by
  unfold tbR
  exact List.map_congr_left fun q hq => by rw [h q (by simpa using hq)]
theorem tbR_set {n q : Nat} {f : Nat → Nat} {v : Nat} : (tbR n f).set q [int (v : Nat)] = tbR n fun r => if r = q then v else f r := by
  unfold tbR
  apply List.ext_getElem?
  intro i
  rw [List.getElem?_set]
  simp only [List.getElem?_map, List.length_map, List.length_range]
  by_cases h : q = i
  · subst h
    by_cases hq : q < n
    · simp [hq]
    · simp [hq]
  · rw [if_neg h]
    by_cases hi : i < n
    · simp [hi, Ne.symm h]
    · simp [hi]
theorem tbR_zero (n : Nat) : List.replicate n [PV.int .i64 0] = tbR n fun _ => 0 := by
  unfold tbR
  apply List.ext_getElem?
  intro i
  simp only [List.getElem?_map, List.getElem?_replicate]
  by_cases h : i < n <;> simp [h]
theorem drop_at {x : Toks} {i : Nat} {s : List UInt8} (h : x[i]? = some s) : x.drop i = s :: x.drop (i + 1) := by
  obtain ⟨hl, rfl⟩ := List.getElem?_eq_some_iff.1 h
  exact List.drop_eq_getElem_cons hl
/-- The pairs found so far, and where the second list goes on. -/
def prE (l : List (Nat × Nat)) : List (List PV) := l.map fun p => [int (p.1 : Nat), int (p.2 : Nat)]
theorem prE_len (l : List (Nat × Nat)) : (prE l).length = l.length := by simp [prE]
theorem prE_app (l m : List (Nat × Nat)) : prE (l ++ m) = prE l ++ prE m := by simp [prE]
end Go.Proofs.YthfpehmbellmcaaGreatDoor
