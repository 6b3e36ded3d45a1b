
/- Own texts, put together: R10 R11 R7. -/
import Derived.Test.YthfpehmbellmcaaGreatDoorZ10
/- What documents have in common: the program's side. -/
namespace Go.Proofs.YthfpehmbellmcaaGreatDoor
open Go.RowKit
set_option linter.unusedVariables false
set_option linter.unusedSimpArgs false
set_option linter.defProp false

/- paperchase/near.Common -/
def ir_near_Common_L3 : IC :=
  (.seq (.reg [⟨some 64, .bin .lss (.t 63) (.t 62), none⟩])
    (.seq (.cond (.t 64) .skip (.exit 6))
    (.seq (.block 7 (.seq (.reg [⟨some 65, .ixa 1 (.t 61) (.t 63), none⟩,
      ⟨some 66, .ld 1 false (.t 65), none⟩,
      ⟨some 16, .mov (.t 66), none⟩])
    (.seq (.reg [⟨some 67, .mov (.t 16), none⟩,
      ⟨some 68, .bin .neq (.t 67) (.c (.str [])), none⟩,
      ⟨some 69, .mov (.t 68), none⟩,
      ⟨some 70, .mov (.t 7), (some (69, true))⟩,
      ⟨some 71, .mov (.t 16), (some (69, true))⟩,
      ⟨some 72, .mpl false (.int .i64 0) (.t 70) (.t 71), (some (69, true))⟩,
      ⟨some 73, .mov (.t 1), (some (69, true))⟩,
      ⟨some 74, .bin .geq (.t 72) (.t 73), (some (69, true))⟩,
      ⟨some 75, .pick (.t 69) (.t 74) (.c (.bool false)), none⟩])
    (.cond (.t 75) (.reg [⟨some 76, .mov (.t 14), none⟩,
      ⟨some 77, .mov (.t 16), none⟩,
      ⟨some 78, .bsl 1 [.t 77], none⟩,
      ⟨some 79, .app 9 1 16 (.t 76) (.t 78), none⟩,
      ⟨some 14, .mov (.t 79), none⟩]) .skip))))
    (.cut (.reg [⟨some 80, .bin .add (.t 63) (.c (.int .i64 1)), none⟩,
      ⟨some 63, .mov (.t 80), none⟩])))))
def ir_near_Common_L2 : IC :=
  (.seq (.reg [⟨some 50, .nxt (.t 49), none⟩,
      ⟨some 51, .ext 0 (.t 50), none⟩])
    (.seq (.cond (.t 51) .skip (.exit 4))
    (.block 5 (.seq (.reg [⟨some 52, .ent (.t 49), none⟩,
      ⟨some 53, .ext 0 (.t 52), none⟩,
      ⟨some 13, .mov (.t 53), none⟩])
    (.reg [⟨some 54, .mov (.t 7), none⟩,
      ⟨some 55, .mov (.t 13), none⟩,
      ⟨some 56, .mpl false (.int .i64 0) (.t 54) (.t 55), none⟩,
      ⟨some 57, .bin .add (.t 56) (.c (.int .i64 1)), none⟩,
      ⟨none, .mpu (.t 54) (.t 55) (.t 57), none⟩])))))
def ir_near_Common_L1 : IC :=
  (.seq (.reg [⟨some 41, .bin .lss (.t 40) (.t 39), none⟩])
    (.seq (.cond (.t 41) .skip (.exit 2))
    (.seq (.block 3 (.seq (.reg [⟨some 42, .ixa 1 (.t 38) (.t 40), none⟩,
      ⟨some 43, .ld 1 false (.t 42), none⟩,
      ⟨some 12, .mov (.t 43), none⟩])
    (.reg [⟨some 44, .mov (.t 10), none⟩,
      ⟨some 45, .mov (.t 12), none⟩,
      ⟨some 46, .call 60 [.t 45], none⟩,
      ⟨none, .mpu (.t 44) (.t 46) (.c (.bool true)), none⟩])))
    (.reg [⟨some 47, .bin .add (.t 40) (.c (.int .i64 1)), none⟩,
      ⟨some 40, .mov (.t 47), none⟩]))))
def ir_near_Common_L0 : IC :=
  (.seq (.reg [⟨some 32, .bin .lss (.t 31) (.t 30), none⟩])
    (.seq (.cond (.t 32) .skip (.exit 0))
    (.seq (.block 1 (.seq (.reg [⟨some 33, .ixa 2 (.t 29) (.t 31), none⟩,
      ⟨some 34, .ld 2 true (.t 33), none⟩,
      ⟨some 9, .alc 86 [.str [], .str []], none⟩,
      ⟨none, .st 2 (.t 9) (.t 34), none⟩])
    (.seq (.reg [⟨some 35, .mkm 9 4, none⟩,
      ⟨some 10, .mov (.t 35), none⟩])
    (.seq (.seq (.reg [⟨some 36, .fla 1 (.t 9), none⟩,
      ⟨some 37, .ld 1 false (.t 36), none⟩,
      ⟨some 38, .call 59 [.t 37], none⟩,
      ⟨some 39, .len (.t 38), none⟩,
      ⟨some 40, .mov (.c (.int .i64 0)), none⟩])
    (.block 2 (.loop ir_near_Common_L1)))
    (.seq (.reg [⟨some 48, .mov (.t 10), none⟩,
      ⟨none, .fz (.t 48), none⟩,
      ⟨some 49, .rng (.t 48), none⟩])
    (.block 4 (.loop ir_near_Common_L2)))))))
    (.reg [⟨some 58, .bin .add (.t 31) (.c (.int .i64 1)), none⟩,
      ⟨some 31, .mov (.t 58), none⟩]))))
def ir_near_Common : IC :=
  (.seq (.reg [⟨some 4, .mov (.c (.nl 1)), none⟩,
      ⟨some 5, .mov (.c (.int .i64 0)), none⟩])
    (.seq (.seq (.reg [⟨some 17, .mov (.t 0), none⟩,
      ⟨some 18, .call 56 [.t 17], none⟩,
      ⟨some 19, .mov (.t 1), none⟩,
      ⟨some 20, .call 58 [.t 19, .c (.int .i64 2), .c (.int .i64 300)], none⟩,
      ⟨some 21, .not (.t 20), none⟩,
      ⟨some 22, .call 57 [.t 21, .c (.int .i64 1)], none⟩,
      ⟨some 23, .bsl 1 [.t 18, .t 22], none⟩,
      ⟨some 24, .call 55 [.t 23], none⟩,
      ⟨some 6, .mov (.t 24), none⟩])
    (.seq (.reg [⟨some 25, .mov (.t 6), none⟩,
      ⟨some 26, .bin .neq (.t 25) (.c (.int .i64 0)), none⟩])
    (.cond (.t 26) (.seq (.reg [⟨some 27, .mov (.t 6), none⟩,
      ⟨some 4, .mov (.c (.nl 1)), none⟩,
      ⟨some 5, .mov (.t 27), none⟩])
    .ret) .skip)))
    (.seq (.reg [⟨some 28, .mkm 9 3, none⟩,
      ⟨some 7, .mov (.t 28), none⟩])
    (.seq (.seq (.reg [⟨some 29, .mov (.t 0), none⟩,
      ⟨some 30, .len (.t 29), none⟩,
      ⟨some 31, .mov (.c (.int .i64 0)), none⟩])
    (.block 0 (.loop ir_near_Common_L0)))
    (.seq (.reg [⟨some 14, .nilr 9 1, none⟩])
    (.seq (.seq (.reg [⟨some 59, .mov (.t 7), none⟩,
      ⟨none, .fz (.t 59), none⟩,
      ⟨some 60, .call 62 [.t 59], none⟩,
      ⟨some 61, .call 61 [.t 60], none⟩,
      ⟨some 62, .len (.t 61), none⟩,
      ⟨some 63, .mov (.c (.int .i64 0)), none⟩])
    (.block 6 (.loop ir_near_Common_L3)))
    (.seq (.reg [⟨some 81, .mov (.t 14), none⟩,
      ⟨some 4, .mov (.t 81), none⟩,
      ⟨some 5, .mov (.c (.int .i64 0)), none⟩])
    .ret)))))))
def rs_near_Common : List IRes := [.t 4, .t 5]
theorem ck_near_Common : chkF Tryz.prog Tryz.f25 ir_near_Common rs_near_Common 82 = true := by kernel_rfl

theorem tbE_getR {t : Tab} {k : Nat} {r : SRow} (h : t[k]? = some r) : (tbE t).getD k [] = [.sl 1 (strE r)] := getD_map h
theorem tbE_lenR (t : Tab) : (tbE t).length = t.length := by simp [tbE]
theorem parF_len (t : List UInt8) : (parF t).length ≤ t.length + 1 := Nat.le_trans (paK_len (splF t 10) (splF t 10).length).1 (splF_len t 10)
theorem bodE_zero {l : List Bod} (h : bodE l = 0) : l.length ≤ 300 ∧ ∀ b ∈ l, b.2.length ≤ 20000 := by
  unfold bodE at h
  split at h
  · cases h
  rename_i h1
  split at h
  · rename_i h2
    refine ⟨by omega, ?_⟩
    have : ∀ (l : List Bod) (ids : List (List UInt8)), bdW l ids = 0 → ∀ b ∈ l, b.2.length ≤ 20000 := by
      intro l
      induction l with
      | nil => intro ids _ b hb; cases hb
      | cons c r ih =>
        intro ids hw b hb
        rw [bdW] at hw
        split at hw
        · rename_i h0
          rcases List.mem_cons.1 hb with rfl | hb
          · have : ¬ 20000 < b.2.length := by
              intro h3
              simp only [bdS, firstE, if_pos h3] at h0
              split at h0
              · split at h0
                · cases h0
                · rename_i h; exact h h0
              · rename_i h; exact h h0
            omega
          · exact ih _ hw b hb
        · rename_i h0; exact absurd hw h0
    exact this l [] h2
  · rename_i h2; exact absurd h h2
/-- What is wrong with the arguments of Common. -/
def comE (l : List Bod) (least : Int) : Int := if bodE l = 0 then whenE (!inE least 2 300) 1 else bodE l
set_option maxHeartbeats 8000000 in
set_option maxRecDepth 100000 in
theorem Common_ok (l : List Bod) (least : Int) (hl : BodB l) : PCall Tryz.prog E0 25 [.sl 2 (boE l), int least] (· = if comE l least = 0 then .tup [.sl 1 (strE (comF l least)), int 0] else .tup [.sl 1 [], int (comE l least)]) := by
  refine pcallF mixed Tryz.func25 ck_near_Common ?_
  simp only [a0, l0, OS.ao, List.map_cons, List.map_nil, List.length_cons, List.length_nil, List.cons_append, List.nil_append, Nat.reduceSub, Nat.reduceAdd, List.replicate_succ, List.replicate_zero, ir_near_Common, rs_near_Common, ZZ, YY, Ze, ite_true, ite_false, forall_const, reduceCtorEq, Nat.reduceAdd, Nat.reduceMul, Nat.reduceLeDiff, Nat.reduceLT, Nat.reduceEqDiff]
  refine use1 (CheckBodies_ok l hl) rfl (.inl rfl) ?_
  simp only [ZZ, YY, Ze, ite_true, ite_false, forall_const, reduceCtorEq, Nat.reduceAdd, Nat.reduceMul, Nat.reduceLeDiff, Nat.reduceLT, Nat.reduceEqDiff]
  refine use1 (In_ok least 2 300) rfl (.inl rfl) ?_
  simp only [ZZ, YY, Ze, ite_true, ite_false, forall_const, reduceCtorEq, Nat.reduceAdd, Nat.reduceMul, Nat.reduceLeDiff, Nat.reduceLT, Nat.reduceEqDiff]
  refine use1 (When_ok _ 1) rfl (.inl rfl) ?_
  simp only [ZZ, YY, Ze, ite_true, ite_false, forall_const, reduceCtorEq, Nat.reduceAdd, Nat.reduceMul, Nat.reduceLeDiff, Nat.reduceLT, Nat.reduceEqDiff]
  have hce : firstE [bodE l, whenE (!inE least 2 300) 1] = comE l least := by
    simp only [firstE, comE]
    by_cases e1 : bodE l = 0
    · rw [if_pos e1, if_pos e1]
      by_cases e2 : whenE (!inE least 2 300) 1 = 0
      · rw [if_pos e2, e2]
      · rw [if_neg e2]
    · rw [if_neg e1, if_neg e1]
  refine use1 (First_ok [bodE l, whenE (!inE least 2 300) 1] (by simp)) rfl (.inl rfl) ?_
  rw [hce]
  by_cases h0 : comE l least = 0
  rotate_left
  · have hd : decide (comE l least = 0) = false := decide_eq_false h0
    simp only [ZZ, YY, Ze, ite_true, ite_false, forall_const, reduceCtorEq, Nat.reduceAdd, Nat.reduceMul, Nat.reduceLeDiff, Nat.reduceLT, Nat.reduceEqDiff, hd]
    rw [if_neg h0]
  have hd : decide (comE l least = 0) = true := decide_eq_true h0
  rw [if_pos h0]
  have hb0 : bodE l = 0 := by
    unfold comE at h0
    split at h0
    · assumption
    · exact h0
  obtain ⟨l1, l2⟩ := bodE_zero hb0
  simp only [ZZ, YY, Ze, ite_true, ite_false, forall_const, reduceCtorEq, Nat.reduceAdd, Nat.reduceMul, Nat.reduceLeDiff, Nat.reduceLT, Nat.reduceEqDiff, hd, boE_len]
  refine loop_intro (fun n fr L => ∃ (k : Nat) (kv : List (List UInt8 × PV)), k ≤ l.length ∧ n = l.length - k ∧ (CntI kv (cntF (l.take k))) ∧ fr = [.p (.sl 2 (boE l)), .p (int least), .any, .any, .any, .any, .any, .mp (.l 28), .any, .any, .any, .any, .any, .any, .any, .any, .any, .any, .any, .any, .any, .any, .any, .any, .any, .any, .any, .any, .any, .p (.sl 2 (boE l)), .p (int (l.length : Nat)), .p (int (k : Nat)), .any, .any, .any, .any, .any, .any, .any, .any, .any, .any, .any, .any, .any, .any, .any, .any, .any, .any, .any, .any, .any, .any, .any, .any, .any, .any, .any, .any, .any, .any, .any, .any, .any, .any, .any, .any, .any, .any, .any, .any, .any, .any, .any, .any, .any, .any, .any, .any, .any, .any] ∧ L = [(.l 28, .map kv 9 3)]) (l.length) [.p (.sl 2 (boE l)), .p (int least), .any, .any, .any, .any, .any, .mp (.l 28), .any, .any, .any, .any, .any, .any, .any, .any, .any, .any, .any, .any, .any, .any, .any, .any, .any, .any, .any, .any, .any, .p (.sl 2 (boE l)), .p (int (l.length : Nat)), .p (int (0 : Nat)), .any, .any, .any, .any, .any, .any, .any, .any, .any, .any, .any, .any, .any, .any, .any, .any, .any, .any, .any, .any, .any, .any, .any, .any, .any, .any, .any, .any, .any, .any, .any, .any, .any, .any, .any, .any, .any, .any, .any, .any, .any, .any, .any, .any, .any, .any, .any, .any, .any, .any] [(.l 28, .map [] 9 3)] (by simp only [ZZ, YY, Ze, ite_true, ite_false, forall_const, reduceCtorEq, Nat.reduceAdd, Nat.reduceMul, Nat.reduceLeDiff, Nat.reduceLT, Nat.reduceEqDiff, boE_len]; try trivial) (by (simp only [ZZ, YY, Ze, ite_true, ite_false, forall_const, reduceCtorEq, Nat.reduceAdd, Nat.reduceMul, Nat.reduceLeDiff, Nat.reduceLT, Nat.reduceEqDiff]; try trivial)) ⟨0, [], by omega, by omega, CntI.nil, rfl, rfl⟩ ?_
  rintro n fr L ⟨k, kv, hk, rfl, hC, rfl, rfl⟩
  simp only [ir_near_Common_L0, ZZ, YY, Ze, ite_true, ite_false, forall_const, reduceCtorEq, Nat.reduceAdd, Nat.reduceMul, Nat.reduceLeDiff, Nat.reduceLT, Nat.reduceEqDiff]
  refine br ?_ ?_
  · intro h
    have hlt : k < l.length := by have := of_decide_eq_true h; omega
    obtain ⟨b, hb⟩ : ∃ b, l[k]? = some b := ⟨_, List.getElem?_eq_getElem hlt⟩
    have hg := boE_get hb
    have hbl := l2 b (List.mem_of_getElem? hb)
    have hpl := parF_len b.2
    have hpw := parF_mem b.2
    have hct := cnt_take hb
    simp only [ZZ, YY, Ze, ite_true, ite_false, forall_const, reduceCtorEq, Nat.reduceAdd, Nat.reduceMul, Nat.reduceLeDiff, Nat.reduceLT, Nat.reduceEqDiff, hg, boE_len]
    ((repeat' (with_reducible apply And.intro)) <;> try ((first | first | assumption | trivial | exact (fun hq => by rw [hq]; rfl) | exact i64_of (by omega) (by omega) | omega | (simp; done) | (simp; omega) | (intro hsc; have hs0 := hsc; (try have hsd := of_decide_eq_true hsc); (try simp only [Bool.not_eq_true', Bool.or_eq_false_iff, Bool.and_eq_true, Bool.or_eq_true, decide_eq_true_eq, decide_eq_false_iff_not] at hsc); (repeat' (with_reducible apply And.intro)) <;> (first | assumption | trivial | exact (fun hq => by rw [hq]; rfl) | exact i64_of (by omega) (by omega) | omega | (simp; done) | (simp; omega) | (intro hse; simp [hse, hs0]; done) | (intro hse; simp only [hse, hs0, Bool.true_and, Bool.and_true, Bool.not_false, Bool.not_true, Bool.and_self]; done))))))
    refine use1 (plainR (paragraphs_ok b.2 (by omega))) rfl (.inl rfl) ?_
    simp only [ZZ, YY, Ze, ite_true, ite_false, forall_const, reduceCtorEq, Nat.reduceAdd, Nat.reduceMul, Nat.reduceLeDiff, Nat.reduceLT, Nat.reduceEqDiff, tbE_lenR]
    have hfm : fmsF b = (parF b.2).map formF := rfl
    generalize parF b.2 = T at *
    refine loop_intro (fun n fr L => ∃ (j : Nat) (kw : List (List UInt8 × PV)), j ≤ T.length ∧ n = T.length - j ∧ ((kysF kw).Nodup ∧ ∀ x, x ∈ kysF kw ↔ x ∈ (T.take j).map formF) ∧ fr = [.p (.sl 2 (boE l)), .p (int least), .any, .any, .any, .any, .any, .mp (.l 28), .any, .any, .mp (.l 35), .any, .any, .any, .any, .any, .any, .any, .any, .any, .any, .any, .any, .any, .any, .any, .any, .any, .any, .p (.sl 2 (boE l)), .p (int (l.length : Nat)), .p (int (k : Nat)), .any, .any, .any, .any, .any, .any, .p (.sl 1 (tbE T)), .p (int (T.length : Nat)), .p (int (j : Nat)), .any, .any, .any, .any, .any, .any, .any, .any, .any, .any, .any, .any, .any, .any, .any, .any, .any, .any, .any, .any, .any, .any, .any, .any, .any, .any, .any, .any, .any, .any, .any, .any, .any, .any, .any, .any, .any, .any, .any, .any, .any] ∧ L = [(.l 28, .map kv 9 3), (.l 35, .map kw 9 4)]) (T.length) [.p (.sl 2 (boE l)), .p (int least), .any, .any, .any, .any, .any, .mp (.l 28), .any, .any, .mp (.l 35), .any, .any, .any, .any, .any, .any, .any, .any, .any, .any, .any, .any, .any, .any, .any, .any, .any, .any, .p (.sl 2 (boE l)), .p (int (l.length : Nat)), .p (int (k : Nat)), .any, .any, .any, .any, .any, .any, .p (.sl 1 (tbE T)), .p (int (T.length : Nat)), .p (int (0 : Nat)), .any, .any, .any, .any, .any, .any, .any, .any, .any, .any, .any, .any, .any, .any, .any, .any, .any, .any, .any, .any, .any, .any, .any, .any, .any, .any, .any, .any, .any, .any, .any, .any, .any, .any, .any, .any, .any, .any, .any, .any, .any] [(.l 28, .map kv 9 3), (.l 35, .map [] 9 4)] (by simp only [ZZ, YY, Ze, ite_true, ite_false, forall_const, reduceCtorEq, Nat.reduceAdd, Nat.reduceMul, Nat.reduceLeDiff, Nat.reduceLT, Nat.reduceEqDiff, tbE_lenR]; try trivial) (by (simp only [ZZ, YY, Ze, ite_true, ite_false, forall_const, reduceCtorEq, Nat.reduceAdd, Nat.reduceMul, Nat.reduceLeDiff, Nat.reduceLT, Nat.reduceEqDiff]; try trivial)) ⟨0, [], by omega, by omega, by simp [kysF], rfl, rfl⟩ ?_
    rintro n fr L ⟨j, kw, hj, rfl, hw, rfl, rfl⟩
    simp only [ir_near_Common_L1, ZZ, YY, Ze, ite_true, ite_false, forall_const, reduceCtorEq, Nat.reduceAdd, Nat.reduceMul, Nat.reduceLeDiff, Nat.reduceLT, Nat.reduceEqDiff]
    refine br ?_ ?_
    · intro h2
      have hjl : j < T.length := by have := of_decide_eq_true h2; omega
      obtain ⟨p, hp⟩ : ∃ p, T[j]? = some p := ⟨_, List.getElem?_eq_getElem hjl⟩
      have hgp := tbE_getR hp
      have hpp := hpw p (List.mem_of_getElem? hp)
      have htk : T.take (j + 1) = T.take j ++ [p] := by rw [List.take_add_one, hp]; rfl
      simp only [ZZ, YY, Ze, ite_true, ite_false, forall_const, reduceCtorEq, Nat.reduceAdd, Nat.reduceMul, Nat.reduceLeDiff, Nat.reduceLT, Nat.reduceEqDiff, hgp, tbE_lenR]
      ((repeat' (with_reducible apply And.intro)) <;> try ((first | first | assumption | trivial | exact (fun hq => by rw [hq]; rfl) | exact i64_of (by omega) (by omega) | omega | (simp; done) | (simp; omega) | (intro hsc; have hs0 := hsc; (try have hsd := of_decide_eq_true hsc); (try simp only [Bool.not_eq_true', Bool.or_eq_false_iff, Bool.and_eq_true, Bool.or_eq_true, decide_eq_true_eq, decide_eq_false_iff_not] at hsc); (repeat' (with_reducible apply And.intro)) <;> (first | assumption | trivial | exact (fun hq => by rw [hq]; rfl) | exact i64_of (by omega) (by omega) | omega | (simp; done) | (simp; omega) | (intro hse; simp [hse, hs0]; done) | (intro hse; simp only [hse, hs0, Bool.true_and, Bool.and_true, Bool.not_false, Bool.not_true, Bool.and_self]; done))))))
      refine use1 (form_ok p (by omega)) rfl (.inl rfl) ?_
      simp only [ZZ, YY, Ze, ite_true, ite_false, forall_const, reduceCtorEq, Nat.reduceAdd, Nat.reduceMul, Nat.reduceLeDiff, Nat.reduceLT, Nat.reduceEqDiff]
      ((repeat' (with_reducible apply And.intro)) <;> try ((first | first | assumption | trivial | exact (fun hq => by rw [hq]; rfl) | exact i64_of (by omega) (by omega) | omega | (simp; done) | (simp; omega) | (intro hsc; have hs0 := hsc; (try have hsd := of_decide_eq_true hsc); (try simp only [Bool.not_eq_true', Bool.or_eq_false_iff, Bool.and_eq_true, Bool.or_eq_true, decide_eq_true_eq, decide_eq_false_iff_not] at hsc); (repeat' (with_reducible apply And.intro)) <;> (first | assumption | trivial | exact (fun hq => by rw [hq]; rfl) | exact i64_of (by omega) (by omega) | omega | (simp; done) | (simp; omega) | (intro hse; simp [hse, hs0]; done) | (intro hse; simp only [hse, hs0, Bool.true_and, Bool.and_true, Bool.not_false, Bool.not_true, Bool.and_self]; done))))))
      have hw' : (kysF (mpS kw (formF p) (.bool true))).Nodup ∧ ∀ x, x ∈ kysF (mpS kw (formF p) (.bool true)) ↔ x ∈ (T.take (j + 1)).map formF := by
        obtain ⟨w1, w2⟩ := hw
        refine ⟨?_, fun x => ?_⟩
        · rw [kys_put]
          split
          · exact w1
          · rename_i hs
            rw [List.nodup_append]
            exact ⟨w1, by simp, by intro a ha c hc; simp at hc; subst hc; rintro rfl; exact hs ha⟩
        · rw [kys_put, htk, List.map_append, List.mem_append]
          split
          · rename_i hs
            rw [w2]
            refine ⟨.inl, fun h => h.elim id fun h => ?_⟩
            simp at h
            subst h
            exact (w2 _).1 hs
          · rw [List.mem_append, w2]
            simp
      refine end_round (T.length - (j + 1)) [.p (.sl 2 (boE l)), .p (int least), .any, .any, .any, .any, .any, .mp (.l 28), .any, .any, .mp (.l 35), .any, .any, .any, .any, .any, .any, .any, .any, .any, .any, .any, .any, .any, .any, .any, .any, .any, .any, .p (.sl 2 (boE l)), .p (int (l.length : Nat)), .p (int (k : Nat)), .any, .any, .any, .any, .any, .any, .p (.sl 1 (tbE T)), .p (int (T.length : Nat)), .p (int ((j + 1) : Nat)), .any, .any, .any, .any, .any, .any, .any, .any, .any, .any, .any, .any, .any, .any, .any, .any, .any, .any, .any, .any, .any, .any, .any, .any, .any, .any, .any, .any, .any, .any, .any, .any, .any, .any, .any, .any, .any, .any, .any, .any, .any] [(.l 28, .map kv 9 3), (.l 35, .map (mpS kw (formF p) (.bool true)) 9 4)] (by omega) (by (simp only [ZZ, YY, Ze, ite_true, ite_false, forall_const, reduceCtorEq, Nat.reduceAdd, Nat.reduceMul, Nat.reduceLeDiff, Nat.reduceLT, Nat.reduceEqDiff]; try trivial)) (by (simp only [ZZ, YY, Ze, ite_true, ite_false, forall_const, reduceCtorEq, Nat.reduceAdd, Nat.reduceMul, Nat.reduceLeDiff, Nat.reduceLT, Nat.reduceEqDiff]; try trivial)) ⟨j + 1, mpS kw (formF p) (.bool true), by omega, rfl, hw', rfl, rfl⟩
    intro h2
    have hge : j = T.length := by have := of_decide_eq_false h2; omega
    rw [hge, List.take_length, ← hfm] at hw
    clear h2 hge hj
    obtain ⟨w1, w2⟩ := hw
    simp only [ZZ, YY, Ze, ite_true, ite_false, forall_const, reduceCtorEq, Nat.reduceAdd, Nat.reduceMul, Nat.reduceLeDiff, Nat.reduceLT, Nat.reduceEqDiff, zip_kv]
    refine loop_intro (fun n fr L => ∃ (R : List (List UInt8 × PV)) (last : Option (List UInt8 × PV)) (D : SRow) (k2 : List (List UInt8 × PV)), R.length = n ∧ ((kysF kw).Perm (D ++ kysF R)) ∧ (CntI k2 (fun x => cntF (l.take k) x + if x ∈ D then 1 else 0)) ∧ fr = [.p (.sl 2 (boE l)), .p (int least), .any, .any, .any, .any, .any, .mp (.l 28), .any, .any, .any, .any, .any, .any, .any, .any, .any, .any, .any, .any, .any, .any, .any, .any, .any, .any, .any, .any, .any, .p (.sl 2 (boE l)), .p (int (l.length : Nat)), .p (int (k : Nat)), .any, .any, .any, .any, .any, .any, .any, .any, .any, .any, .any, .any, .any, .any, .any, .any, .any, .adr (.l 49) 0, .any, .any, .any, .any, .any, .any, .any, .any, .any, .any, .any, .any, .any, .any, .any, .any, .any, .any, .any, .any, .any, .any, .any, .any, .any, .any, .any, .any, .any, .any, .any, .any] ∧ L = [(.l 28, .map k2 9 3), (.l 49, .mit last R)]) (kw.length) [.p (.sl 2 (boE l)), .p (int least), .any, .any, .any, .any, .any, .mp (.l 28), .any, .any, .any, .any, .any, .any, .any, .any, .any, .any, .any, .any, .any, .any, .any, .any, .any, .any, .any, .any, .any, .p (.sl 2 (boE l)), .p (int (l.length : Nat)), .p (int (k : Nat)), .any, .any, .any, .any, .any, .any, .any, .any, .any, .any, .any, .any, .any, .any, .any, .any, .any, .adr (.l 49) 0, .any, .any, .any, .any, .any, .any, .any, .any, .any, .any, .any, .any, .any, .any, .any, .any, .any, .any, .any, .any, .any, .any, .any, .any, .any, .any, .any, .any, .any, .any, .any, .any] [(.l 28, .map kv 9 3), (.l 49, .mit none kw)] (by (simp only [ZZ, YY, Ze, ite_true, ite_false, forall_const, reduceCtorEq, Nat.reduceAdd, Nat.reduceMul, Nat.reduceLeDiff, Nat.reduceLT, Nat.reduceEqDiff]; try trivial)) (by (simp only [ZZ, YY, Ze, ite_true, ite_false, forall_const, reduceCtorEq, Nat.reduceAdd, Nat.reduceMul, Nat.reduceLeDiff, Nat.reduceLT, Nat.reduceEqDiff]; try trivial)) ⟨kw, none, [], kv, rfl, by simp, by simpa using hC, rfl, rfl⟩ ?_
    rintro n fr L ⟨R, last, D, k2, rfl, hp, hC2, rfl, rfl⟩
    simp only [ir_near_Common_L2, ZZ, YY, Ze, ite_true, ite_false, forall_const, reduceCtorEq, Nat.reduceAdd, Nat.reduceMul, Nat.reduceLeDiff, Nat.reduceLT, Nat.reduceEqDiff]
    refine nxt_split trivial ?_ ?_
    · intro hR
      subst hR
      have hC3 : CntI k2 (cntF (l.take (k + 1))) := hC2.ext fun x => by
        rw [hct]
        congr 1
        have : x ∈ D ↔ x ∈ fmsF b := by
          rw [← w2, hp.mem_iff]
          simp [kysF]
        simp only [this]
      simp only [ZZ, YY, Ze, ite_true, ite_false, forall_const, reduceCtorEq, Nat.reduceAdd, Nat.reduceMul, Nat.reduceLeDiff, Nat.reduceLT, Nat.reduceEqDiff]
      ((repeat' (with_reducible apply And.intro)) <;> try ((first | first | assumption | trivial | exact (fun hq => by rw [hq]; rfl) | exact i64_of (by omega) (by omega) | omega | (simp; done) | (simp; omega) | (intro hsc; have hs0 := hsc; (try have hsd := of_decide_eq_true hsc); (try simp only [Bool.not_eq_true', Bool.or_eq_false_iff, Bool.and_eq_true, Bool.or_eq_true, decide_eq_true_eq, decide_eq_false_iff_not] at hsc); (repeat' (with_reducible apply And.intro)) <;> (first | assumption | trivial | exact (fun hq => by rw [hq]; rfl) | exact i64_of (by omega) (by omega) | omega | (simp; done) | (simp; omega) | (intro hse; simp [hse, hs0]; done) | (intro hse; simp only [hse, hs0, Bool.true_and, Bool.and_true, Bool.not_false, Bool.not_true, Bool.and_self]; done))))))
      refine end_round (l.length - (k + 1)) [.p (.sl 2 (boE l)), .p (int least), .any, .any, .any, .any, .any, .mp (.l 28), .any, .any, .any, .any, .any, .any, .any, .any, .any, .any, .any, .any, .any, .any, .any, .any, .any, .any, .any, .any, .any, .p (.sl 2 (boE l)), .p (int (l.length : Nat)), .p (int ((k + 1) : Nat)), .any, .any, .any, .any, .any, .any, .any, .any, .any, .any, .any, .any, .any, .any, .any, .any, .any, .any, .any, .any, .any, .any, .any, .any, .any, .any, .any, .any, .any, .any, .any, .any, .any, .any, .any, .any, .any, .any, .any, .any, .any, .any, .any, .any, .any, .any, .any, .any, .any, .any] [(.l 28, .map (k2) 9 3)] (by omega) (by (simp only [ZZ, YY, Ze, ite_true, ite_false, forall_const, reduceCtorEq, Nat.reduceAdd, Nat.reduceMul, Nat.reduceLeDiff, Nat.reduceLT, Nat.reduceEqDiff]; try trivial)) (by (simp only [ZZ, YY, Ze, ite_true, ite_false, forall_const, reduceCtorEq, Nat.reduceAdd, Nat.reduceMul, Nat.reduceLeDiff, Nat.reduceLT, Nat.reduceEqDiff]; try trivial)) ⟨k + 1, k2, by omega, rfl, hC3, rfl, rfl⟩
    · intro i p hi
      have hil : i < R.length := (List.getElem?_eq_some_iff.1 hi).1
      have hel : (R.eraseIdx i).length = R.length - 1 := List.length_eraseIdx_of_lt hil
      have hpm : p ∈ R := List.mem_of_getElem? hi
      have hnd : (D ++ kysF R).Nodup := hp.nodup_iff.1 w1
      have hpD : p.1 ∉ D := by
        intro hD
        rw [List.nodup_append] at hnd
        exact hnd.2.2 p.1 hD p.1 (List.mem_map_of_mem hpm) rfl
      have hc0 : cntF (l.take k) p.1 ≤ 300 := by
        have := cnt_le (l.take k) p.1
        rw [List.length_take] at this
        omega
      have hcv : mpD k2 p.1 (int 0) = int (cntF (l.take k) p.1 : Nat) := by have := hC2.1 p.1; simpa [hpD] using this
      have hC3 : CntI (mpS k2 p.1 (int ((cntF (l.take k) p.1 : Nat) + 1))) (fun x => cntF (l.take k) x + if x ∈ D ++ [p.1] then 1 else 0) := by
        have := hC2.put (c' := fun x => cntF (l.take k) x + if x ∈ D ++ [p.1] then 1 else 0) p.1 (fun x => by
          by_cases hx : x = p.1
          · subst hx; simp [hpD]
          · simp [hx])
        simpa [hpD] using this
      have hp3 : (kysF kw).Perm ((D ++ [p.1]) ++ kysF (R.eraseIdx i)) := by
        refine hp.trans ?_
        rw [List.append_assoc]
        refine List.Perm.append_left D ?_
        have := (erase_perm hi).map (·.1)
        exact this
      simp only [ZZ, YY, Ze, ite_true, ite_false, forall_const, reduceCtorEq, Nat.reduceAdd, Nat.reduceMul, Nat.reduceLeDiff, Nat.reduceLT, Nat.reduceEqDiff, hcv]
      ((repeat' (with_reducible apply And.intro)) <;> try ((first | first | assumption | trivial | exact (fun hq => by rw [hq]; rfl) | exact i64_of (by omega) (by omega) | omega | (simp; done) | (simp; omega) | (intro hsc; have hs0 := hsc; (try have hsd := of_decide_eq_true hsc); (try simp only [Bool.not_eq_true', Bool.or_eq_false_iff, Bool.and_eq_true, Bool.or_eq_true, decide_eq_true_eq, decide_eq_false_iff_not] at hsc); (repeat' (with_reducible apply And.intro)) <;> (first | assumption | trivial | exact (fun hq => by rw [hq]; rfl) | exact i64_of (by omega) (by omega) | omega | (simp; done) | (simp; omega) | (intro hse; simp [hse, hs0]; done) | (intro hse; simp only [hse, hs0, Bool.true_and, Bool.and_true, Bool.not_false, Bool.not_true, Bool.and_self]; done))))))
      refine end_round ((R.eraseIdx i).length) [.p (.sl 2 (boE l)), .p (int least), .any, .any, .any, .any, .any, .mp (.l 28), .any, .any, .any, .any, .any, .any, .any, .any, .any, .any, .any, .any, .any, .any, .any, .any, .any, .any, .any, .any, .any, .p (.sl 2 (boE l)), .p (int (l.length : Nat)), .p (int (k : Nat)), .any, .any, .any, .any, .any, .any, .any, .any, .any, .any, .any, .any, .any, .any, .any, .any, .any, .adr (.l 49) 0, .any, .any, .any, .any, .any, .any, .any, .any, .any, .any, .any, .any, .any, .any, .any, .any, .any, .any, .any, .any, .any, .any, .any, .any, .any, .any, .any, .any, .any, .any, .any, .any] [(.l 28, .map (mpS k2 p.1 (int ((cntF (l.take k) p.1 : Nat) + 1))) 9 3), (.l 49, .mit (some p) (R.eraseIdx i))] (by omega) (by (simp only [ZZ, YY, Ze, ite_true, ite_false, forall_const, reduceCtorEq, Nat.reduceAdd, Nat.reduceMul, Nat.reduceLeDiff, Nat.reduceLT, Nat.reduceEqDiff]; try trivial)) (by (simp only [ZZ, YY, Ze, ite_true, ite_false, forall_const, reduceCtorEq, Nat.reduceAdd, Nat.reduceMul, Nat.reduceLeDiff, Nat.reduceLT, Nat.reduceEqDiff]; try trivial)) ⟨R.eraseIdx i, some p, D ++ [p.1], mpS k2 p.1 (int ((cntF (l.take k) p.1 : Nat) + 1)), rfl, hp3, hC3, rfl, rfl⟩
  · intro h
    have hge : k = l.length := by have := of_decide_eq_false h; omega
    rw [hge, List.take_length] at hC
    obtain ⟨C1, C2, C3⟩ := hC
    have hfl : (l.flatMap fmsF).length ≤ l.length * 20001 := by
      have : ∀ l : List Bod, (∀ b ∈ l, b.2.length ≤ 20000) → (l.flatMap fmsF).length ≤ l.length * 20001 := by
        intro l
        induction l with
        | nil => intro _; simp
        | cons b r ih =>
          intro hb
          have h1 := ih fun x hx => hb x (by simp [hx])
          have h2 := hb b (by simp)
          have h3 := parF_len b.2
          rw [List.flatMap_cons, List.length_append, fmsF, List.length_map, List.length_cons]
          omega
      exact this l l2
    have hKl : (kv.map (·.1)).length ≤ 100000000 := by
      have hsub : (kysF kv).length ≤ (l.flatMap fmsF).length := C2.length_le_of_subset fun x hx => (cnt_pos l x).1 ((C3 x).1 hx)
      have : (kv.map (·.1)).length = (kysF kv).length := rfl
      omega
    have hKb : ∀ x ∈ kv.map (·.1), x.length ≤ 1000000 := by
      intro x hx
      have h1 := (cnt_pos l x).1 ((C3 x).1 hx)
      rw [List.mem_flatMap] at h1
      obtain ⟨b, hb, hx2⟩ := h1
      rw [fmsF, List.mem_map] at hx2
      obtain ⟨p, hp, rfl⟩ := hx2
      have h2 := formF_len p
      have h3 := parF_mem b.2 p hp
      have h4 := l2 b hb
      omega
    have hfin := com_keys l least (kysF kv) C2 C3
    simp only [ZZ, YY, Ze, ite_true, ite_false, forall_const, reduceCtorEq, Nat.reduceAdd, Nat.reduceMul, Nat.reduceLeDiff, Nat.reduceLT, Nat.reduceEqDiff]
    refine use1 (Keys_ok (kv.map (·.1)) (kv.map (·.2))) rfl (.inl rfl) ?_
    simp only [ZZ, YY, Ze, ite_true, ite_false, forall_const, reduceCtorEq, Nat.reduceAdd, Nat.reduceMul, Nat.reduceLeDiff, Nat.reduceLT, Nat.reduceEqDiff]
    refine use1 (Sorted_keys (kv.map (·.1)) (kv.map (·.2)) hKl (fun x hx => by have := hKb x hx; omega)) rfl (.inl rfl) ?_
    have hSl : ((kv.map (·.1)).mergeSort fun x y => decide (x ≤ y)).length ≤ 100000000 := by rw [List.length_mergeSort]; exact hKl
    rw [← hfin]
    rw [show kysF kv = kv.map (·.1) from rfl]
    generalize ((kv.map (·.1)).mergeSort fun x y => decide (x ≤ y)) = S at *
    simp only [ZZ, YY, Ze, ite_true, ite_false, forall_const, reduceCtorEq, Nat.reduceAdd, Nat.reduceMul, Nat.reduceLeDiff, Nat.reduceLT, Nat.reduceEqDiff, strE_len]
    have hS0 : ([] : List (List PV)) = strE ((S.take 0).filter (comQ l least)) := by simp [strE]
    rw [hS0]
    refine loop_intro (fun n fr L => ∃ (j : Nat), j ≤ S.length ∧ n = S.length - j ∧ fr = [.p (.sl 2 (boE l)), .p (int least), .any, .any, .any, .any, .any, .p (.mpv (kv.map (·.1)) (kv.map (·.2))), .any, .any, .any, .any, .any, .any, .row (.l 14), .any, .any, .any, .any, .any, .any, .any, .any, .any, .any, .any, .any, .any, .any, .any, .any, .any, .any, .any, .any, .any, .any, .any, .any, .any, .any, .any, .any, .any, .any, .any, .any, .any, .any, .any, .any, .any, .any, .any, .any, .any, .any, .any, .any, .any, .any, .p (.sl 1 (strE S)), .p (int (S.length : Nat)), .p (int (j : Nat)), .any, .any, .any, .any, .any, .any, .any, .any, .any, .any, .any, .any, .any, .any, .any, .any, .any, .any] ∧ L = [(.l 14, .row (strE ((S.take j).filter (comQ l least))) tStr 1 true)]) (S.length) [.p (.sl 2 (boE l)), .p (int least), .any, .any, .any, .any, .any, .p (.mpv (kv.map (·.1)) (kv.map (·.2))), .any, .any, .any, .any, .any, .any, .row (.l 14), .any, .any, .any, .any, .any, .any, .any, .any, .any, .any, .any, .any, .any, .any, .any, .any, .any, .any, .any, .any, .any, .any, .any, .any, .any, .any, .any, .any, .any, .any, .any, .any, .any, .any, .any, .any, .any, .any, .any, .any, .any, .any, .any, .any, .any, .any, .p (.sl 1 (strE S)), .p (int (S.length : Nat)), .p (int (0 : Nat)), .any, .any, .any, .any, .any, .any, .any, .any, .any, .any, .any, .any, .any, .any, .any, .any, .any, .any] [(.l 14, .row (strE ((S.take 0).filter (comQ l least))) tStr 1 true)] (by simp only [ZZ, YY, Ze, ite_true, ite_false, forall_const, reduceCtorEq, Nat.reduceAdd, Nat.reduceMul, Nat.reduceLeDiff, Nat.reduceLT, Nat.reduceEqDiff, strE_len]; try trivial) (by (simp only [ZZ, YY, Ze, ite_true, ite_false, forall_const, reduceCtorEq, Nat.reduceAdd, Nat.reduceMul, Nat.reduceLeDiff, Nat.reduceLT, Nat.reduceEqDiff]; try trivial)) ⟨0, by omega, by omega, rfl, rfl⟩ ?_
    rintro n fr L ⟨j, hj, rfl, rfl, rfl⟩
    simp only [ir_near_Common_L3, ZZ, YY, Ze, ite_true, ite_false, forall_const, reduceCtorEq, Nat.reduceAdd, Nat.reduceMul, Nat.reduceLeDiff, Nat.reduceLT, Nat.reduceEqDiff]
    refine br ?_ ?_
    · intro h2
      have hjl : j < S.length := by have := of_decide_eq_true h2; omega
      obtain ⟨f, hf⟩ : ∃ f, S[j]? = some f := ⟨_, List.getElem?_eq_getElem hjl⟩
      have hgf := strE_get hf
      have htk : (S.take (j + 1)).filter (comQ l least) = (S.take j).filter (comQ l least) ++ if comQ l least f then [f] else [] := by
        rw [List.take_add_one, hf, List.filter_append]
        simp only [Option.toList_some, List.filter_cons, List.filter_nil]
      have hfl2 : ((S.take j).filter (comQ l least)).length ≤ 100000000 := Nat.le_trans (List.length_filter_le _ _) (by simp; omega)
      have hcq : (!decide (f = []) && decide (least ≤ ((cntF l f : Nat) : Int))) = comQ l least f := rfl
      have hsl : (strE ((S.take j).filter (comQ l least))).length ≤ 100000000 := by rw [strE_len]; exact hfl2
      simp only [ZZ, YY, Ze, ite_true, ite_false, forall_const, reduceCtorEq, Nat.reduceAdd, Nat.reduceMul, Nat.reduceLeDiff, Nat.reduceLT, Nat.reduceEqDiff, hgf, strE_len, zip_kv, C1 f, hcq]
      ((repeat' (with_reducible apply And.intro)) <;> try ((first | first | assumption | trivial | exact (fun hq => by rw [hq]; rfl) | exact i64_of (by omega) (by omega) | omega | (simp; done) | (simp; omega) | (intro hsc; have hs0 := hsc; (try have hsd := of_decide_eq_true hsc); (try simp only [Bool.not_eq_true', Bool.or_eq_false_iff, Bool.and_eq_true, Bool.or_eq_true, decide_eq_true_eq, decide_eq_false_iff_not] at hsc); (repeat' (with_reducible apply And.intro)) <;> (first | assumption | trivial | exact (fun hq => by rw [hq]; rfl) | exact i64_of (by omega) (by omega) | omega | (simp; done) | (simp; omega) | (intro hse; simp [hse, hs0]; done) | (intro hse; simp only [hse, hs0, Bool.true_and, Bool.and_true, Bool.not_false, Bool.not_true, Bool.and_self]; done))))))
      refine br ?_ ?_
      · intro hq
        rw [hq, if_pos rfl] at htk
        have happ : strE ((S.take j).filter (comQ l least)) ++ [[.str f]] = strE ((S.take (j + 1)).filter (comQ l least)) := by rw [htk]; simp [strE]
        simp only [ZZ, YY, Ze, ite_true, ite_false, forall_const, reduceCtorEq, Nat.reduceAdd, Nat.reduceMul, Nat.reduceLeDiff, Nat.reduceLT, Nat.reduceEqDiff, strE_len, hgf]
        ((repeat' (with_reducible apply And.intro)) <;> try ((first | first | assumption | trivial | exact (fun hq => by rw [hq]; rfl) | exact i64_of (by omega) (by omega) | omega | (simp; done) | (simp; omega) | (intro hsc; have hs0 := hsc; (try have hsd := of_decide_eq_true hsc); (try simp only [Bool.not_eq_true', Bool.or_eq_false_iff, Bool.and_eq_true, Bool.or_eq_true, decide_eq_true_eq, decide_eq_false_iff_not] at hsc); (repeat' (with_reducible apply And.intro)) <;> (first | assumption | trivial | exact (fun hq => by rw [hq]; rfl) | exact i64_of (by omega) (by omega) | omega | (simp; done) | (simp; omega) | (intro hse; simp [hse, hs0]; done) | (intro hse; simp only [hse, hs0, Bool.true_and, Bool.and_true, Bool.not_false, Bool.not_true, Bool.and_self]; done))))))
        refine cut_same (by simp only [ZZ, YY, Ze, ite_true, ite_false, forall_const, reduceCtorEq, Nat.reduceAdd, Nat.reduceMul, Nat.reduceLeDiff, Nat.reduceLT, Nat.reduceEqDiff]) ?_
        simp only [ZZ, YY, Ze, ite_true, ite_false, forall_const, reduceCtorEq, Nat.reduceAdd, Nat.reduceMul, Nat.reduceLeDiff, Nat.reduceLT, Nat.reduceEqDiff]
        ((repeat' (with_reducible apply And.intro)) <;> try ((first | first | assumption | trivial | exact (fun hq => by rw [hq]; rfl) | exact i64_of (by omega) (by omega) | omega | (simp; done) | (simp; omega) | (intro hsc; have hs0 := hsc; (try have hsd := of_decide_eq_true hsc); (try simp only [Bool.not_eq_true', Bool.or_eq_false_iff, Bool.and_eq_true, Bool.or_eq_true, decide_eq_true_eq, decide_eq_false_iff_not] at hsc); (repeat' (with_reducible apply And.intro)) <;> (first | assumption | trivial | exact (fun hq => by rw [hq]; rfl) | exact i64_of (by omega) (by omega) | omega | (simp; done) | (simp; omega) | (intro hse; simp [hse, hs0]; done) | (intro hse; simp only [hse, hs0, Bool.true_and, Bool.and_true, Bool.not_false, Bool.not_true, Bool.and_self]; done))))))
        rw [happ]
        refine end_round (S.length - (j + 1)) [.p (.sl 2 (boE l)), .p (int least), .any, .any, .any, .any, .any, .p (.mpv (kv.map (·.1)) (kv.map (·.2))), .any, .any, .any, .any, .any, .any, .row (.l 14), .any, .any, .any, .any, .any, .any, .any, .any, .any, .any, .any, .any, .any, .any, .any, .any, .any, .any, .any, .any, .any, .any, .any, .any, .any, .any, .any, .any, .any, .any, .any, .any, .any, .any, .any, .any, .any, .any, .any, .any, .any, .any, .any, .any, .any, .any, .p (.sl 1 (strE S)), .p (int (S.length : Nat)), .p (int ((j + 1) : Nat)), .any, .any, .any, .any, .any, .any, .any, .any, .any, .any, .any, .any, .any, .any, .any, .any, .any, .any] [(.l 14, .row (strE ((S.take (j + 1)).filter (comQ l least))) tStr 1 true)] (by omega) (by (simp only [ZZ, YY, Ze, ite_true, ite_false, forall_const, reduceCtorEq, Nat.reduceAdd, Nat.reduceMul, Nat.reduceLeDiff, Nat.reduceLT, Nat.reduceEqDiff]; try trivial)) (by (simp only [ZZ, YY, Ze, ite_true, ite_false, forall_const, reduceCtorEq, Nat.reduceAdd, Nat.reduceMul, Nat.reduceLeDiff, Nat.reduceLT, Nat.reduceEqDiff]; try trivial)) ⟨j + 1, by omega, rfl, rfl, rfl⟩
      · intro hq
        rw [hq, if_neg (by simp), List.append_nil] at htk
        simp only [ZZ, YY, Ze, ite_true, ite_false, forall_const, reduceCtorEq, Nat.reduceAdd, Nat.reduceMul, Nat.reduceLeDiff, Nat.reduceLT, Nat.reduceEqDiff]
        ((repeat' (with_reducible apply And.intro)) <;> try ((first | first | assumption | trivial | exact (fun hq => by rw [hq]; rfl) | exact i64_of (by omega) (by omega) | omega | (simp; done) | (simp; omega) | (intro hsc; have hs0 := hsc; (try have hsd := of_decide_eq_true hsc); (try simp only [Bool.not_eq_true', Bool.or_eq_false_iff, Bool.and_eq_true, Bool.or_eq_true, decide_eq_true_eq, decide_eq_false_iff_not] at hsc); (repeat' (with_reducible apply And.intro)) <;> (first | assumption | trivial | exact (fun hq => by rw [hq]; rfl) | exact i64_of (by omega) (by omega) | omega | (simp; done) | (simp; omega) | (intro hse; simp [hse, hs0]; done) | (intro hse; simp only [hse, hs0, Bool.true_and, Bool.and_true, Bool.not_false, Bool.not_true, Bool.and_self]; done))))))
        rw [← htk]
        refine cut_same (by simp only [ZZ, YY, Ze, ite_true, ite_false, forall_const, reduceCtorEq, Nat.reduceAdd, Nat.reduceMul, Nat.reduceLeDiff, Nat.reduceLT, Nat.reduceEqDiff]) ?_
        simp only [ZZ, YY, Ze, ite_true, ite_false, forall_const, reduceCtorEq, Nat.reduceAdd, Nat.reduceMul, Nat.reduceLeDiff, Nat.reduceLT, Nat.reduceEqDiff]
        ((repeat' (with_reducible apply And.intro)) <;> try ((first | first | assumption | trivial | exact (fun hq => by rw [hq]; rfl) | exact i64_of (by omega) (by omega) | omega | (simp; done) | (simp; omega) | (intro hsc; have hs0 := hsc; (try have hsd := of_decide_eq_true hsc); (try simp only [Bool.not_eq_true', Bool.or_eq_false_iff, Bool.and_eq_true, Bool.or_eq_true, decide_eq_true_eq, decide_eq_false_iff_not] at hsc); (repeat' (with_reducible apply And.intro)) <;> (first | assumption | trivial | exact (fun hq => by rw [hq]; rfl) | exact i64_of (by omega) (by omega) | omega | (simp; done) | (simp; omega) | (intro hse; simp [hse, hs0]; done) | (intro hse; simp only [hse, hs0, Bool.true_and, Bool.and_true, Bool.not_false, Bool.not_true, Bool.and_self]; done))))))
        refine end_round (S.length - (j + 1)) [.p (.sl 2 (boE l)), .p (int least), .any, .any, .any, .any, .any, .p (.mpv (kv.map (·.1)) (kv.map (·.2))), .any, .any, .any, .any, .any, .any, .row (.l 14), .any, .any, .any, .any, .any, .any, .any, .any, .any, .any, .any, .any, .any, .any, .any, .any, .any, .any, .any, .any, .any, .any, .any, .any, .any, .any, .any, .any, .any, .any, .any, .any, .any, .any, .any, .any, .any, .any, .any, .any, .any, .any, .any, .any, .any, .any, .p (.sl 1 (strE S)), .p (int (S.length : Nat)), .p (int ((j + 1) : Nat)), .any, .any, .any, .any, .any, .any, .any, .any, .any, .any, .any, .any, .any, .any, .any, .any, .any, .any] [(.l 14, .row (strE ((S.take (j + 1)).filter (comQ l least))) tStr 1 true)] (by omega) (by (simp only [ZZ, YY, Ze, ite_true, ite_false, forall_const, reduceCtorEq, Nat.reduceAdd, Nat.reduceMul, Nat.reduceLeDiff, Nat.reduceLT, Nat.reduceEqDiff]; try trivial)) (by (simp only [ZZ, YY, Ze, ite_true, ite_false, forall_const, reduceCtorEq, Nat.reduceAdd, Nat.reduceMul, Nat.reduceLeDiff, Nat.reduceLT, Nat.reduceEqDiff]; try trivial)) ⟨j + 1, by omega, rfl, rfl, rfl⟩
    · intro h2
      have hge2 : j = S.length := by have := of_decide_eq_false h2; omega
      rw [hge2, List.take_length]
      simp only [ZZ, YY, Ze, ite_true, ite_false, forall_const, reduceCtorEq, Nat.reduceAdd, Nat.reduceMul, Nat.reduceLeDiff, Nat.reduceLT, Nat.reduceEqDiff]
end Go.Proofs.YthfpehmbellmcaaGreatDoor

/- What documents have in common: the reference's side. -/
namespace Go.Proofs.YthfpehmbellmcaaGreatDoor
open Go.RowKit
set_option linter.unusedVariables false
set_option linter.unusedSimpArgs false
set_option linter.defProp false

/- paperchase/chaseref1.CommonOf -/
def ir_chaseref1_CommonOf_L3 : IC :=
  (.seq (.reg [⟨some 65, .nxt (.t 64), none⟩,
      ⟨some 66, .ext 0 (.t 65), none⟩])
    (.seq (.cond (.t 66) .skip (.exit 6))
    (.block 7 (.seq (.reg [⟨some 67, .ent (.t 64), none⟩,
      ⟨some 68, .ext 0 (.t 67), none⟩,
      ⟨some 69, .ext 1 (.t 67), none⟩,
      ⟨some 16, .mov (.t 68), none⟩,
      ⟨some 17, .mov (.t 69), none⟩])
    (.seq (.reg [⟨some 70, .mov (.t 16), none⟩,
      ⟨some 71, .bin .neq (.t 70) (.c (.str [])), none⟩,
      ⟨some 72, .mov (.t 71), none⟩,
      ⟨some 73, .mov (.t 17), (some (72, true))⟩,
      ⟨some 74, .mov (.t 1), (some (72, true))⟩,
      ⟨some 75, .bin .geq (.t 73) (.t 74), (some (72, true))⟩,
      ⟨some 76, .pick (.t 72) (.t 75) (.c (.bool false)), none⟩])
    (.cond (.t 76) (.reg [⟨some 77, .mov (.t 15), none⟩,
      ⟨some 78, .mov (.t 16), none⟩,
      ⟨some 79, .bsl 1 [.t 78], none⟩,
      ⟨some 80, .app 9 1 16 (.t 77) (.t 79), none⟩,
      ⟨some 15, .mov (.t 80), none⟩]) .skip))))))
def ir_chaseref1_CommonOf_L2 : IC :=
  (.seq (.reg [⟨some 54, .bin .lss (.t 53) (.t 52), none⟩])
    (.seq (.cond (.t 54) .skip (.exit 4))
    (.seq (.block 5 (.seq (.reg [⟨some 55, .ixa 1 (.t 51) (.t 53), none⟩,
      ⟨some 56, .ld 1 false (.t 55), none⟩,
      ⟨some 14, .mov (.t 56), none⟩])
    (.reg [⟨some 57, .mov (.t 7), none⟩,
      ⟨some 58, .mov (.t 14), none⟩,
      ⟨some 59, .mpl false (.int .i64 0) (.t 57) (.t 58), none⟩,
      ⟨some 60, .bin .add (.t 59) (.c (.int .i64 1)), none⟩,
      ⟨none, .mpu (.t 57) (.t 58) (.t 60), none⟩])))
    (.reg [⟨some 61, .bin .add (.t 53) (.c (.int .i64 1)), none⟩,
      ⟨some 53, .mov (.t 61), none⟩]))))
def ir_chaseref1_CommonOf_L1 : IC :=
  (.seq (.reg [⟨some 41, .bin .lss (.t 40) (.t 39), none⟩])
    (.seq (.cond (.t 41) .skip (.exit 2))
    (.seq (.block 3 (.seq (.reg [⟨some 42, .ixa 1 (.t 38) (.t 40), none⟩,
      ⟨some 43, .ld 1 false (.t 42), none⟩,
      ⟨some 12, .mov (.t 43), none⟩])
    (.reg [⟨some 44, .mov (.t 10), none⟩,
      ⟨some 45, .mov (.t 12), none⟩,
      ⟨some 46, .call 65 [.t 45], none⟩,
      ⟨some 47, .bsl 1 [.t 46], none⟩,
      ⟨some 48, .app 9 1 16 (.t 44) (.t 47), none⟩,
      ⟨some 10, .mov (.t 48), none⟩])))
    (.reg [⟨some 49, .bin .add (.t 40) (.c (.int .i64 1)), none⟩,
      ⟨some 40, .mov (.t 49), none⟩]))))
def ir_chaseref1_CommonOf_L0 : IC :=
  (.seq (.reg [⟨some 33, .bin .lss (.t 32) (.t 31), none⟩])
    (.seq (.cond (.t 33) .skip (.exit 0))
    (.seq (.block 1 (.seq (.reg [⟨some 34, .ixa 2 (.t 30) (.t 32), none⟩,
      ⟨some 35, .ld 2 true (.t 34), none⟩,
      ⟨some 9, .alc 86 [.str [], .str []], none⟩,
      ⟨none, .st 2 (.t 9) (.t 35), none⟩])
    (.seq (.reg [⟨some 10, .nilr 9 1, none⟩])
    (.seq (.seq (.reg [⟨some 36, .fla 1 (.t 9), none⟩,
      ⟨some 37, .ld 1 false (.t 36), none⟩,
      ⟨some 38, .call 64 [.t 37], none⟩,
      ⟨some 39, .len (.t 38), none⟩,
      ⟨some 40, .mov (.c (.int .i64 0)), none⟩])
    (.block 2 (.loop ir_chaseref1_CommonOf_L1)))
    (.seq (.reg [⟨some 50, .mov (.t 10), none⟩,
      ⟨none, .fz (.t 50), none⟩,
      ⟨some 51, .call 66 [.t 50], none⟩,
      ⟨some 52, .len (.t 51), none⟩,
      ⟨some 53, .mov (.c (.int .i64 0)), none⟩])
    (.block 4 (.loop ir_chaseref1_CommonOf_L2)))))))
    (.reg [⟨some 62, .bin .add (.t 32) (.c (.int .i64 1)), none⟩,
      ⟨some 32, .mov (.t 62), none⟩]))))
def ir_chaseref1_CommonOf : IC :=
  (.seq (.reg [⟨some 4, .mov (.c (.nl 1)), none⟩,
      ⟨some 5, .mov (.c (.int .i64 0)), none⟩])
    (.seq (.seq (.reg [⟨some 18, .mov (.t 0), none⟩,
      ⟨some 19, .call 63 [.t 18], none⟩,
      ⟨some 6, .mov (.t 19), none⟩])
    (.seq (.reg [⟨some 20, .mov (.t 6), none⟩,
      ⟨some 21, .bin .neq (.t 20) (.c (.int .i64 0)), none⟩])
    (.cond (.t 21) (.seq (.reg [⟨some 22, .mov (.t 6), none⟩,
      ⟨some 4, .mov (.c (.nl 1)), none⟩,
      ⟨some 5, .mov (.t 22), none⟩])
    .ret) .skip)))
    (.seq (.seq (.reg [⟨some 23, .mov (.t 1), none⟩,
      ⟨some 24, .bin .lss (.t 23) (.c (.int .i64 2)), none⟩,
      ⟨some 25, .mov (.t 24), none⟩,
      ⟨some 26, .mov (.t 1), (some (25, false))⟩,
      ⟨some 27, .bin .gtr (.t 26) (.c (.int .i64 300)), (some (25, false))⟩,
      ⟨some 28, .pick (.t 25) (.c (.bool true)) (.t 27), none⟩])
    (.cond (.t 28) (.seq (.reg [⟨some 4, .mov (.c (.nl 1)), none⟩,
      ⟨some 5, .mov (.c (.int .i64 1)), none⟩])
    .ret) .skip))
    (.seq (.reg [⟨some 29, .mkm 9 3, none⟩,
      ⟨some 7, .mov (.t 29), none⟩])
    (.seq (.seq (.reg [⟨some 30, .mov (.t 0), none⟩,
      ⟨some 31, .len (.t 30), none⟩,
      ⟨some 32, .mov (.c (.int .i64 0)), none⟩])
    (.block 0 (.loop ir_chaseref1_CommonOf_L0)))
    (.seq (.reg [⟨some 15, .nilr 9 1, none⟩])
    (.seq (.seq (.reg [⟨some 63, .mov (.t 7), none⟩,
      ⟨none, .fz (.t 63), none⟩,
      ⟨some 64, .rng (.t 63), none⟩])
    (.block 6 (.loop ir_chaseref1_CommonOf_L3)))
    (.seq (.reg [⟨some 81, .mov (.t 15), none⟩,
      ⟨none, .fz (.t 81), none⟩,
      ⟨some 82, .call 66 [.t 81], none⟩,
      ⟨some 4, .mov (.t 82), none⟩,
      ⟨some 5, .mov (.c (.int .i64 0)), none⟩])
    .ret))))))))
def rs_chaseref1_CommonOf : List IRes := [.t 4, .t 5]
theorem ck_chaseref1_CommonOf : chkF Tryz.prog Tryz.f26 ir_chaseref1_CommonOf rs_chaseref1_CommonOf 83 = true := by kernel_rfl

theorem bodE_sum {l : List Bod} (h : bodE l = 0) : sumB l ≤ 500000 := by
  unfold bodE at h
  split at h
  · cases h
  split at h
  · split at h
    · cases h
    · omega
  · rename_i h2; exact absurd h h2
theorem fms_total : ∀ l : List Bod, (l.flatMap fmsF).length ≤ sumB l + l.length
  | [] => by simp
  | b :: r => by
    have ih := fms_total r
    have h3 := parF_len b.2
    rw [List.flatMap_cons, List.length_append, fmsF, List.length_map, List.length_cons]
    have : sumB (b :: r) = b.2.length + sumB r := by simp [sumB]
    omega
theorem sortF_le (l : SRow) : (sortF l).length ≤ l.length := by
  have h1 := (sortF_nd l).length_le_of_subset fun x hx => (sortF_mem l x).1 hx
  exact h1
set_option maxHeartbeats 8000000 in
set_option maxRecDepth 100000 in
theorem CommonOf_ok (l : List Bod) (least : Int) (hl : BodB l) : PCall Tryz.prog E0 26 [.sl 2 (boE l), int least] (· = if comE l least = 0 then .tup [.sl 1 (strE (comF l least)), int 0] else .tup [.sl 1 [], int (comE l least)]) := by
  refine pcallF mixed Tryz.func26 ck_chaseref1_CommonOf ?_
  simp only [a0, l0, OS.ao, List.map_cons, List.map_nil, List.length_cons, List.length_nil, List.cons_append, List.nil_append, Nat.reduceSub, Nat.reduceAdd, List.replicate_succ, List.replicate_zero, ir_chaseref1_CommonOf, rs_chaseref1_CommonOf, ZZ, YY, Ze, ite_true, ite_false, forall_const, reduceCtorEq, Nat.reduceAdd, Nat.reduceMul, Nat.reduceLeDiff, Nat.reduceLT, Nat.reduceEqDiff]
  refine use1 (BodiesFault_ok l hl) rfl (.inl rfl) ?_
  simp only [ZZ, YY, Ze, ite_true, ite_false, forall_const, reduceCtorEq, Nat.reduceAdd, Nat.reduceMul, Nat.reduceLeDiff, Nat.reduceLT, Nat.reduceEqDiff]
  by_cases h0 : bodE l = 0
  rotate_left
  · have hd : decide (bodE l = 0) = false := decide_eq_false h0
    have hce : comE l least = bodE l := by rw [comE, if_neg h0]
    simp only [ZZ, YY, Ze, ite_true, ite_false, forall_const, reduceCtorEq, Nat.reduceAdd, Nat.reduceMul, Nat.reduceLeDiff, Nat.reduceLT, Nat.reduceEqDiff, hd]
    rw [hce, if_neg h0]
  have hd : decide (bodE l = 0) = true := decide_eq_true h0
  have hce : comE l least = whenE (!inE least 2 300) 1 := by rw [comE, if_pos h0]
  have hin : (decide (least < 2) || decide (300 < least)) = !inE least 2 300 := by
    rw [inE, Bool.eq_iff_iff]
    simp
  simp only [ZZ, YY, Ze, ite_true, ite_false, forall_const, reduceCtorEq, Nat.reduceAdd, Nat.reduceMul, Nat.reduceLeDiff, Nat.reduceLT, Nat.reduceEqDiff, hd]
  ((repeat' (with_reducible apply And.intro)) <;> try ((first | first | assumption | trivial | exact (fun hq => by rw [hq]; rfl) | exact i64_of (by omega) (by omega) | omega | (simp; done) | (simp; omega) | (intro hsc; have hs0 := hsc; (try have hsd := of_decide_eq_true hsc); (try simp only [Bool.not_eq_true', Bool.or_eq_false_iff, Bool.and_eq_true, Bool.or_eq_true, decide_eq_true_eq, decide_eq_false_iff_not] at hsc); (repeat' (with_reducible apply And.intro)) <;> (first | assumption | trivial | exact (fun hq => by rw [hq]; rfl) | exact i64_of (by omega) (by omega) | omega | (simp; done) | (simp; omega) | (intro hse; simp [hse, hs0]; done) | (intro hse; simp only [hse, hs0, Bool.true_and, Bool.and_true, Bool.not_false, Bool.not_true, Bool.and_self]; done))))))
  refine br ?_ ?_
  · intro hb
    rw [hin] at hb
    have hb1 : inE least 2 300 = false := by simpa using hb
    have hc1 : comE l least = 1 := by rw [hce, hb1]; rfl
    simp only [ZZ, YY, Ze, ite_true, ite_false, forall_const, reduceCtorEq, Nat.reduceAdd, Nat.reduceMul, Nat.reduceLeDiff, Nat.reduceLT, Nat.reduceEqDiff]
    rw [hc1]
    trivial
  intro hb
  rw [hin] at hb
  have hc1 : comE l least = 0 := by
    have hb1 : inE least 2 300 = true := by simpa using hb
    rw [hce, hb1]; rfl
  rw [if_pos hc1]
  obtain ⟨l1, l2⟩ := bodE_zero h0
  have l3 := bodE_sum h0
  simp only [ZZ, YY, Ze, ite_true, ite_false, forall_const, reduceCtorEq, Nat.reduceAdd, Nat.reduceMul, Nat.reduceLeDiff, Nat.reduceLT, Nat.reduceEqDiff, boE_len]
  refine loop_intro (fun n fr L => ∃ (k : Nat) (kv : List (List UInt8 × PV)), k ≤ l.length ∧ n = l.length - k ∧ (CntI kv (cntF (l.take k))) ∧ fr = [.p (.sl 2 (boE l)), .p (int least), .any, .any, .any, .any, .any, .mp (.l 29), .any, .any, .any, .any, .any, .any, .any, .any, .any, .any, .any, .any, .any, .any, .any, .any, .any, .any, .any, .any, .any, .any, .p (.sl 2 (boE l)), .p (int (l.length : Nat)), .p (int (k : Nat)), .any, .any, .any, .any, .any, .any, .any, .any, .any, .any, .any, .any, .any, .any, .any, .any, .any, .any, .any, .any, .any, .any, .any, .any, .any, .any, .any, .any, .any, .any, .any, .any, .any, .any, .any, .any, .any, .any, .any, .any, .any, .any, .any, .any, .any, .any, .any, .any, .any, .any] ∧ L = [(.l 29, .map kv 9 3)]) (l.length) [.p (.sl 2 (boE l)), .p (int least), .any, .any, .any, .any, .any, .mp (.l 29), .any, .any, .any, .any, .any, .any, .any, .any, .any, .any, .any, .any, .any, .any, .any, .any, .any, .any, .any, .any, .any, .any, .p (.sl 2 (boE l)), .p (int (l.length : Nat)), .p (int (0 : Nat)), .any, .any, .any, .any, .any, .any, .any, .any, .any, .any, .any, .any, .any, .any, .any, .any, .any, .any, .any, .any, .any, .any, .any, .any, .any, .any, .any, .any, .any, .any, .any, .any, .any, .any, .any, .any, .any, .any, .any, .any, .any, .any, .any, .any, .any, .any, .any, .any, .any, .any] [(.l 29, .map [] 9 3)] (by simp only [ZZ, YY, Ze, ite_true, ite_false, forall_const, reduceCtorEq, Nat.reduceAdd, Nat.reduceMul, Nat.reduceLeDiff, Nat.reduceLT, Nat.reduceEqDiff, boE_len]; try trivial) (by (simp only [ZZ, YY, Ze, ite_true, ite_false, forall_const, reduceCtorEq, Nat.reduceAdd, Nat.reduceMul, Nat.reduceLeDiff, Nat.reduceLT, Nat.reduceEqDiff]; try trivial)) ⟨0, [], by omega, by omega, CntI.nil, rfl, rfl⟩ ?_
  rintro n fr L ⟨k, kv, hk, rfl, hC, rfl, rfl⟩
  simp only [ir_chaseref1_CommonOf_L0, ZZ, YY, Ze, ite_true, ite_false, forall_const, reduceCtorEq, Nat.reduceAdd, Nat.reduceMul, Nat.reduceLeDiff, Nat.reduceLT, Nat.reduceEqDiff]
  refine br ?_ ?_
  · intro h
    have hlt : k < l.length := by have := of_decide_eq_true h; omega
    obtain ⟨b, hb⟩ : ∃ b, l[k]? = some b := ⟨_, List.getElem?_eq_getElem hlt⟩
    have hg := boE_get hb
    have hbl := l2 b (List.mem_of_getElem? hb)
    have hpl := parF_len b.2
    have hpw := parF_mem b.2
    have hct := cnt_take hb
    simp only [ZZ, YY, Ze, ite_true, ite_false, forall_const, reduceCtorEq, Nat.reduceAdd, Nat.reduceMul, Nat.reduceLeDiff, Nat.reduceLT, Nat.reduceEqDiff, hg, boE_len]
    ((repeat' (with_reducible apply And.intro)) <;> try ((first | first | assumption | trivial | exact (fun hq => by rw [hq]; rfl) | exact i64_of (by omega) (by omega) | omega | (simp; done) | (simp; omega) | (intro hsc; have hs0 := hsc; (try have hsd := of_decide_eq_true hsc); (try simp only [Bool.not_eq_true', Bool.or_eq_false_iff, Bool.and_eq_true, Bool.or_eq_true, decide_eq_true_eq, decide_eq_false_iff_not] at hsc); (repeat' (with_reducible apply And.intro)) <;> (first | assumption | trivial | exact (fun hq => by rw [hq]; rfl) | exact i64_of (by omega) (by omega) | omega | (simp; done) | (simp; omega) | (intro hse; simp [hse, hs0]; done) | (intro hse; simp only [hse, hs0, Bool.true_and, Bool.and_true, Bool.not_false, Bool.not_true, Bool.and_self]; done))))))
    refine use1 (plainR (blocks_ok b.2 (by omega))) rfl (.inl rfl) ?_
    simp only [ZZ, YY, Ze, ite_true, ite_false, forall_const, reduceCtorEq, Nat.reduceAdd, Nat.reduceMul, Nat.reduceLeDiff, Nat.reduceLT, Nat.reduceEqDiff, tbE_lenR]
    have hfm : fmsF b = (parF b.2).map formF := rfl
    generalize parF b.2 = T at *
    have hR0 : ([] : List (List PV)) = strE ((T.take 0).map formF) := by simp [strE]
    rw [hR0]
    refine loop_intro (fun n fr L => ∃ (j : Nat), j ≤ T.length ∧ n = T.length - j ∧ fr = [.p (.sl 2 (boE l)), .p (int least), .any, .any, .any, .any, .any, .mp (.l 29), .any, .any, .row (.l 10), .any, .any, .any, .any, .any, .any, .any, .any, .any, .any, .any, .any, .any, .any, .any, .any, .any, .any, .any, .p (.sl 2 (boE l)), .p (int (l.length : Nat)), .p (int (k : Nat)), .any, .any, .any, .any, .any, .p (.sl 1 (tbE T)), .p (int (T.length : Nat)), .p (int (j : Nat)), .any, .any, .any, .any, .any, .any, .any, .any, .any, .any, .any, .any, .any, .any, .any, .any, .any, .any, .any, .any, .any, .any, .any, .any, .any, .any, .any, .any, .any, .any, .any, .any, .any, .any, .any, .any, .any, .any, .any, .any, .any, .any] ∧ L = [(.l 29, .map kv 9 3), (.l 10, .row (strE ((T.take j).map formF)) tStr 1 true)]) (T.length) [.p (.sl 2 (boE l)), .p (int least), .any, .any, .any, .any, .any, .mp (.l 29), .any, .any, .row (.l 10), .any, .any, .any, .any, .any, .any, .any, .any, .any, .any, .any, .any, .any, .any, .any, .any, .any, .any, .any, .p (.sl 2 (boE l)), .p (int (l.length : Nat)), .p (int (k : Nat)), .any, .any, .any, .any, .any, .p (.sl 1 (tbE T)), .p (int (T.length : Nat)), .p (int (0 : Nat)), .any, .any, .any, .any, .any, .any, .any, .any, .any, .any, .any, .any, .any, .any, .any, .any, .any, .any, .any, .any, .any, .any, .any, .any, .any, .any, .any, .any, .any, .any, .any, .any, .any, .any, .any, .any, .any, .any, .any, .any, .any, .any] [(.l 29, .map kv 9 3), (.l 10, .row (strE ((T.take 0).map formF)) tStr 1 true)] (by simp only [ZZ, YY, Ze, ite_true, ite_false, forall_const, reduceCtorEq, Nat.reduceAdd, Nat.reduceMul, Nat.reduceLeDiff, Nat.reduceLT, Nat.reduceEqDiff, tbE_lenR]; try trivial) (by (simp only [ZZ, YY, Ze, ite_true, ite_false, forall_const, reduceCtorEq, Nat.reduceAdd, Nat.reduceMul, Nat.reduceLeDiff, Nat.reduceLT, Nat.reduceEqDiff]; try trivial)) ⟨0, by omega, by omega, rfl, rfl⟩ ?_
    rintro n fr L ⟨j, hj, rfl, rfl, rfl⟩
    simp only [ir_chaseref1_CommonOf_L1, ZZ, YY, Ze, ite_true, ite_false, forall_const, reduceCtorEq, Nat.reduceAdd, Nat.reduceMul, Nat.reduceLeDiff, Nat.reduceLT, Nat.reduceEqDiff]
    refine br ?_ ?_
    · intro h2
      have hjl : j < T.length := by have := of_decide_eq_true h2; omega
      obtain ⟨p, hp⟩ : ∃ p, T[j]? = some p := ⟨_, List.getElem?_eq_getElem hjl⟩
      have hgp := tbE_getR hp
      have hpp := hpw p (List.mem_of_getElem? hp)
      have htk : T.take (j + 1) = T.take j ++ [p] := by rw [List.take_add_one, hp]; rfl
      have hsl : (strE ((T.take j).map formF)).length ≤ 100000 := by rw [strE_len, List.length_map, List.length_take]; omega
      have happ : strE ((T.take j).map formF) ++ [[.str (formF p)]] = strE ((T.take (j + 1)).map formF) := by rw [htk]; simp [strE]
      simp only [ZZ, YY, Ze, ite_true, ite_false, forall_const, reduceCtorEq, Nat.reduceAdd, Nat.reduceMul, Nat.reduceLeDiff, Nat.reduceLT, Nat.reduceEqDiff, hgp, tbE_lenR]
      ((repeat' (with_reducible apply And.intro)) <;> try ((first | first | assumption | trivial | exact (fun hq => by rw [hq]; rfl) | exact i64_of (by omega) (by omega) | omega | (simp; done) | (simp; omega) | (intro hsc; have hs0 := hsc; (try have hsd := of_decide_eq_true hsc); (try simp only [Bool.not_eq_true', Bool.or_eq_false_iff, Bool.and_eq_true, Bool.or_eq_true, decide_eq_true_eq, decide_eq_false_iff_not] at hsc); (repeat' (with_reducible apply And.intro)) <;> (first | assumption | trivial | exact (fun hq => by rw [hq]; rfl) | exact i64_of (by omega) (by omega) | omega | (simp; done) | (simp; omega) | (intro hse; simp [hse, hs0]; done) | (intro hse; simp only [hse, hs0, Bool.true_and, Bool.and_true, Bool.not_false, Bool.not_true, Bool.and_self]; done))))))
      refine use1 (formOf_ok p (by omega)) rfl (.inl rfl) ?_
      simp only [ZZ, YY, Ze, ite_true, ite_false, forall_const, reduceCtorEq, Nat.reduceAdd, Nat.reduceMul, Nat.reduceLeDiff, Nat.reduceLT, Nat.reduceEqDiff]
      ((repeat' (with_reducible apply And.intro)) <;> try ((first | first | assumption | trivial | exact (fun hq => by rw [hq]; rfl) | exact i64_of (by omega) (by omega) | omega | (simp; done) | (simp; omega) | (intro hsc; have hs0 := hsc; (try have hsd := of_decide_eq_true hsc); (try simp only [Bool.not_eq_true', Bool.or_eq_false_iff, Bool.and_eq_true, Bool.or_eq_true, decide_eq_true_eq, decide_eq_false_iff_not] at hsc); (repeat' (with_reducible apply And.intro)) <;> (first | assumption | trivial | exact (fun hq => by rw [hq]; rfl) | exact i64_of (by omega) (by omega) | omega | (simp; done) | (simp; omega) | (intro hse; simp [hse, hs0]; done) | (intro hse; simp only [hse, hs0, Bool.true_and, Bool.and_true, Bool.not_false, Bool.not_true, Bool.and_self]; done))))))
      rw [happ]
      refine end_round (T.length - (j + 1)) [.p (.sl 2 (boE l)), .p (int least), .any, .any, .any, .any, .any, .mp (.l 29), .any, .any, .row (.l 10), .any, .any, .any, .any, .any, .any, .any, .any, .any, .any, .any, .any, .any, .any, .any, .any, .any, .any, .any, .p (.sl 2 (boE l)), .p (int (l.length : Nat)), .p (int (k : Nat)), .any, .any, .any, .any, .any, .p (.sl 1 (tbE T)), .p (int (T.length : Nat)), .p (int ((j + 1) : Nat)), .any, .any, .any, .any, .any, .any, .any, .any, .any, .any, .any, .any, .any, .any, .any, .any, .any, .any, .any, .any, .any, .any, .any, .any, .any, .any, .any, .any, .any, .any, .any, .any, .any, .any, .any, .any, .any, .any, .any, .any, .any, .any] [(.l 29, .map kv 9 3), (.l 10, .row (strE ((T.take (j + 1)).map formF)) tStr 1 true)] (by omega) (by (simp only [ZZ, YY, Ze, ite_true, ite_false, forall_const, reduceCtorEq, Nat.reduceAdd, Nat.reduceMul, Nat.reduceLeDiff, Nat.reduceLT, Nat.reduceEqDiff]; try trivial)) (by (simp only [ZZ, YY, Ze, ite_true, ite_false, forall_const, reduceCtorEq, Nat.reduceAdd, Nat.reduceMul, Nat.reduceLeDiff, Nat.reduceLT, Nat.reduceEqDiff]; try trivial)) ⟨j + 1, by omega, rfl, rfl, rfl⟩
    intro h2
    have hge : j = T.length := by have := of_decide_eq_false h2; omega
    rw [hge, List.take_length, ← hfm]
    clear h2 hge hj
    have hfl : (fmsF b).length ≤ 20001 := by rw [hfm, List.length_map]; omega
    simp only [ZZ, YY, Ze, ite_true, ite_false, forall_const, reduceCtorEq, Nat.reduceAdd, Nat.reduceMul, Nat.reduceLeDiff, Nat.reduceLT, Nat.reduceEqDiff, strE_len]
    refine use1 (sorted_ok (fmsF b) (by omega)) rfl (.inl rfl) ?_
    have hSn := sortF_nd (fmsF b)
    have hSm := sortF_mem (fmsF b)
    have hSl := sortF_le (fmsF b)
    generalize sortF (fmsF b) = S at *
    simp only [ZZ, YY, Ze, ite_true, ite_false, forall_const, reduceCtorEq, Nat.reduceAdd, Nat.reduceMul, Nat.reduceLeDiff, Nat.reduceLT, Nat.reduceEqDiff, strE_len]
    refine loop_intro (fun n fr L => ∃ (j : Nat) (k2 : List (List UInt8 × PV)), j ≤ S.length ∧ n = S.length - j ∧ (CntI k2 (fun x => cntF (l.take k) x + if x ∈ S.take j then 1 else 0)) ∧ fr = [.p (.sl 2 (boE l)), .p (int least), .any, .any, .any, .any, .any, .mp (.l 29), .any, .any, .any, .any, .any, .any, .any, .any, .any, .any, .any, .any, .any, .any, .any, .any, .any, .any, .any, .any, .any, .any, .p (.sl 2 (boE l)), .p (int (l.length : Nat)), .p (int (k : Nat)), .any, .any, .any, .any, .any, .any, .any, .any, .any, .any, .any, .any, .any, .any, .any, .any, .any, .any, .p (.sl 1 (strE S)), .p (int (S.length : Nat)), .p (int (j : Nat)), .any, .any, .any, .any, .any, .any, .any, .any, .any, .any, .any, .any, .any, .any, .any, .any, .any, .any, .any, .any, .any, .any, .any, .any, .any, .any, .any, .any, .any] ∧ L = [(.l 29, .map k2 9 3)]) (S.length) [.p (.sl 2 (boE l)), .p (int least), .any, .any, .any, .any, .any, .mp (.l 29), .any, .any, .any, .any, .any, .any, .any, .any, .any, .any, .any, .any, .any, .any, .any, .any, .any, .any, .any, .any, .any, .any, .p (.sl 2 (boE l)), .p (int (l.length : Nat)), .p (int (k : Nat)), .any, .any, .any, .any, .any, .any, .any, .any, .any, .any, .any, .any, .any, .any, .any, .any, .any, .any, .p (.sl 1 (strE S)), .p (int (S.length : Nat)), .p (int (0 : Nat)), .any, .any, .any, .any, .any, .any, .any, .any, .any, .any, .any, .any, .any, .any, .any, .any, .any, .any, .any, .any, .any, .any, .any, .any, .any, .any, .any, .any, .any] [(.l 29, .map kv 9 3)] (by simp only [ZZ, YY, Ze, ite_true, ite_false, forall_const, reduceCtorEq, Nat.reduceAdd, Nat.reduceMul, Nat.reduceLeDiff, Nat.reduceLT, Nat.reduceEqDiff, strE_len]; try trivial) (by (simp only [ZZ, YY, Ze, ite_true, ite_false, forall_const, reduceCtorEq, Nat.reduceAdd, Nat.reduceMul, Nat.reduceLeDiff, Nat.reduceLT, Nat.reduceEqDiff]; try trivial)) ⟨0, kv, by omega, by omega, by simpa using hC, rfl, rfl⟩ ?_
    rintro n fr L ⟨j, k2, hj, rfl, hC2, rfl, rfl⟩
    simp only [ir_chaseref1_CommonOf_L2, ZZ, YY, Ze, ite_true, ite_false, forall_const, reduceCtorEq, Nat.reduceAdd, Nat.reduceMul, Nat.reduceLeDiff, Nat.reduceLT, Nat.reduceEqDiff]
    refine br ?_ ?_
    · intro h2
      have hjl : j < S.length := by have := of_decide_eq_true h2; omega
      obtain ⟨f, hf⟩ : ∃ f, S[j]? = some f := ⟨_, List.getElem?_eq_getElem hjl⟩
      have hgf := strE_get hf
      have htk : S.take (j + 1) = S.take j ++ [f] := by rw [List.take_add_one, hf]; rfl
      have hnD : f ∉ S.take j := by
        intro hD
        have hn2 : (S.take (j + 1)).Nodup := hSn.sublist (List.take_sublist _ _)
        rw [htk, List.nodup_append] at hn2
        exact hn2.2.2 f hD f (by simp) rfl
      have hc0 : cntF (l.take k) f ≤ 300 := by
        have := cnt_le (l.take k) f
        rw [List.length_take] at this
        omega
      have hcv : mpD k2 f (int 0) = int (cntF (l.take k) f : Nat) := by have := hC2.1 f; simpa [hnD] using this
      have hC3 : CntI (mpS k2 f (int ((cntF (l.take k) f : Nat) + 1))) (fun x => cntF (l.take k) x + if x ∈ S.take (j + 1) then 1 else 0) := by
        have := hC2.put (c' := fun x => cntF (l.take k) x + if x ∈ S.take (j + 1) then 1 else 0) f (fun x => by
          rw [htk]
          by_cases hx : x = f
          · subst hx; simp [hnD]
          · simp [hx])
        simpa [hnD] using this
      simp only [ZZ, YY, Ze, ite_true, ite_false, forall_const, reduceCtorEq, Nat.reduceAdd, Nat.reduceMul, Nat.reduceLeDiff, Nat.reduceLT, Nat.reduceEqDiff, hgf, strE_len, hcv]
      ((repeat' (with_reducible apply And.intro)) <;> try ((first | first | assumption | trivial | exact (fun hq => by rw [hq]; rfl) | exact i64_of (by omega) (by omega) | omega | (simp; done) | (simp; omega) | (intro hsc; have hs0 := hsc; (try have hsd := of_decide_eq_true hsc); (try simp only [Bool.not_eq_true', Bool.or_eq_false_iff, Bool.and_eq_true, Bool.or_eq_true, decide_eq_true_eq, decide_eq_false_iff_not] at hsc); (repeat' (with_reducible apply And.intro)) <;> (first | assumption | trivial | exact (fun hq => by rw [hq]; rfl) | exact i64_of (by omega) (by omega) | omega | (simp; done) | (simp; omega) | (intro hse; simp [hse, hs0]; done) | (intro hse; simp only [hse, hs0, Bool.true_and, Bool.and_true, Bool.not_false, Bool.not_true, Bool.and_self]; done))))))
      refine end_round (S.length - (j + 1)) [.p (.sl 2 (boE l)), .p (int least), .any, .any, .any, .any, .any, .mp (.l 29), .any, .any, .any, .any, .any, .any, .any, .any, .any, .any, .any, .any, .any, .any, .any, .any, .any, .any, .any, .any, .any, .any, .p (.sl 2 (boE l)), .p (int (l.length : Nat)), .p (int (k : Nat)), .any, .any, .any, .any, .any, .any, .any, .any, .any, .any, .any, .any, .any, .any, .any, .any, .any, .any, .p (.sl 1 (strE S)), .p (int (S.length : Nat)), .p (int ((j + 1) : Nat)), .any, .any, .any, .any, .any, .any, .any, .any, .any, .any, .any, .any, .any, .any, .any, .any, .any, .any, .any, .any, .any, .any, .any, .any, .any, .any, .any, .any, .any] [(.l 29, .map (mpS k2 f (int ((cntF (l.take k) f : Nat) + 1))) 9 3)] (by omega) (by (simp only [ZZ, YY, Ze, ite_true, ite_false, forall_const, reduceCtorEq, Nat.reduceAdd, Nat.reduceMul, Nat.reduceLeDiff, Nat.reduceLT, Nat.reduceEqDiff]; try trivial)) (by (simp only [ZZ, YY, Ze, ite_true, ite_false, forall_const, reduceCtorEq, Nat.reduceAdd, Nat.reduceMul, Nat.reduceLeDiff, Nat.reduceLT, Nat.reduceEqDiff]; try trivial)) ⟨j + 1, mpS k2 f (int ((cntF (l.take k) f : Nat) + 1)), by omega, rfl, hC3, rfl, rfl⟩
    intro h2
    have hge2 : j = S.length := by have := of_decide_eq_false h2; omega
    rw [hge2, List.take_length] at hC2
    have hC3 : CntI k2 (cntF (l.take (k + 1))) := hC2.ext fun x => by
      rw [hct]
      simp only [hSm]
    simp only [ZZ, YY, Ze, ite_true, ite_false, forall_const, reduceCtorEq, Nat.reduceAdd, Nat.reduceMul, Nat.reduceLeDiff, Nat.reduceLT, Nat.reduceEqDiff]
    ((repeat' (with_reducible apply And.intro)) <;> try ((first | first | assumption | trivial | exact (fun hq => by rw [hq]; rfl) | exact i64_of (by omega) (by omega) | omega | (simp; done) | (simp; omega) | (intro hsc; have hs0 := hsc; (try have hsd := of_decide_eq_true hsc); (try simp only [Bool.not_eq_true', Bool.or_eq_false_iff, Bool.and_eq_true, Bool.or_eq_true, decide_eq_true_eq, decide_eq_false_iff_not] at hsc); (repeat' (with_reducible apply And.intro)) <;> (first | assumption | trivial | exact (fun hq => by rw [hq]; rfl) | exact i64_of (by omega) (by omega) | omega | (simp; done) | (simp; omega) | (intro hse; simp [hse, hs0]; done) | (intro hse; simp only [hse, hs0, Bool.true_and, Bool.and_true, Bool.not_false, Bool.not_true, Bool.and_self]; done))))))
    refine end_round (l.length - (k + 1)) [.p (.sl 2 (boE l)), .p (int least), .any, .any, .any, .any, .any, .mp (.l 29), .any, .any, .any, .any, .any, .any, .any, .any, .any, .any, .any, .any, .any, .any, .any, .any, .any, .any, .any, .any, .any, .any, .p (.sl 2 (boE l)), .p (int (l.length : Nat)), .p (int ((k + 1) : Nat)), .any, .any, .any, .any, .any, .any, .any, .any, .any, .any, .any, .any, .any, .any, .any, .any, .any, .any, .any, .any, .any, .any, .any, .any, .any, .any, .any, .any, .any, .any, .any, .any, .any, .any, .any, .any, .any, .any, .any, .any, .any, .any, .any, .any, .any, .any, .any, .any, .any, .any] [(.l 29, .map (k2) 9 3)] (by omega) (by (simp only [ZZ, YY, Ze, ite_true, ite_false, forall_const, reduceCtorEq, Nat.reduceAdd, Nat.reduceMul, Nat.reduceLeDiff, Nat.reduceLT, Nat.reduceEqDiff]; try trivial)) (by (simp only [ZZ, YY, Ze, ite_true, ite_false, forall_const, reduceCtorEq, Nat.reduceAdd, Nat.reduceMul, Nat.reduceLeDiff, Nat.reduceLT, Nat.reduceEqDiff]; try trivial)) ⟨k + 1, k2, by omega, rfl, hC3, rfl, rfl⟩
  intro h
  have hge : k = l.length := by have := of_decide_eq_false h; omega
  rw [hge, List.take_length] at hC
  clear h hge hk
  obtain ⟨C1, C2, C3⟩ := hC
  have hft := fms_total l
  simp only [ZZ, YY, Ze, ite_true, ite_false, forall_const, reduceCtorEq, Nat.reduceAdd, Nat.reduceMul, Nat.reduceLeDiff, Nat.reduceLT, Nat.reduceEqDiff, zip_kv]
  refine loop_intro (fun n fr L => ∃ (R : List (List UInt8 × PV)) (last : Option (List UInt8 × PV)) (D : SRow), R.length = n ∧ ((kysF kv).Perm (D ++ kysF R)) ∧ (∀ p ∈ R, p ∈ kv) ∧ fr = [.p (.sl 2 (boE l)), .p (int least), .any, .any, .any, .any, .any, .p (.mpv (kv.map (·.1)) (kv.map (·.2))), .any, .any, .any, .any, .any, .any, .any, .row (.l 15), .any, .any, .any, .any, .any, .any, .any, .any, .any, .any, .any, .any, .any, .any, .any, .any, .any, .any, .any, .any, .any, .any, .any, .any, .any, .any, .any, .any, .any, .any, .any, .any, .any, .any, .any, .any, .any, .any, .any, .any, .any, .any, .any, .any, .any, .any, .any, .any, .adr (.l 64) 0, .any, .any, .any, .any, .any, .any, .any, .any, .any, .any, .any, .any, .any, .any, .any, .any, .any, .any] ∧ L = [(.l 64, .mit last R), (.l 15, .row (strE (D.filter (comQ l least))) tStr 1 true)]) (kv.length) [.p (.sl 2 (boE l)), .p (int least), .any, .any, .any, .any, .any, .p (.mpv (kv.map (·.1)) (kv.map (·.2))), .any, .any, .any, .any, .any, .any, .any, .row (.l 15), .any, .any, .any, .any, .any, .any, .any, .any, .any, .any, .any, .any, .any, .any, .any, .any, .any, .any, .any, .any, .any, .any, .any, .any, .any, .any, .any, .any, .any, .any, .any, .any, .any, .any, .any, .any, .any, .any, .any, .any, .any, .any, .any, .any, .any, .any, .any, .any, .adr (.l 64) 0, .any, .any, .any, .any, .any, .any, .any, .any, .any, .any, .any, .any, .any, .any, .any, .any, .any, .any] [(.l 64, .mit none kv), (.l 15, .row (strE ([].filter (comQ l least))) tStr 1 true)] (by (simp only [ZZ, YY, Ze, ite_true, ite_false, forall_const, reduceCtorEq, Nat.reduceAdd, Nat.reduceMul, Nat.reduceLeDiff, Nat.reduceLT, Nat.reduceEqDiff]; try trivial)) (by (simp only [ZZ, YY, Ze, ite_true, ite_false, forall_const, reduceCtorEq, Nat.reduceAdd, Nat.reduceMul, Nat.reduceLeDiff, Nat.reduceLT, Nat.reduceEqDiff]; try trivial)) ⟨kv, none, [], rfl, by simp, fun p h => h, rfl, rfl⟩ ?_
  rintro n fr L ⟨R, last, D, rfl, hp, hR, rfl, rfl⟩
  simp only [ir_chaseref1_CommonOf_L3, ZZ, YY, Ze, ite_true, ite_false, forall_const, reduceCtorEq, Nat.reduceAdd, Nat.reduceMul, Nat.reduceLeDiff, Nat.reduceLT, Nat.reduceEqDiff]
  have hnd : (D ++ kysF R).Nodup := hp.nodup_iff.1 C2
  have hsub : (D.filter (comQ l least)).length ≤ 500300 := by
    have h1 : (D.filter (comQ l least)).length ≤ D.length := List.length_filter_le _ _
    have h2 : (kysF kv).length = D.length + (kysF R).length := by rw [hp.length_eq, List.length_append]
    have h3 : (kysF kv).length ≤ (l.flatMap fmsF).length := C2.length_le_of_subset fun x hx => (cnt_pos l x).1 ((C3 x).1 hx)
    omega
  refine nxt_split trivial ?_ ?_
  · intro hR0
    subst hR0
    have hp2 : (kysF kv).Perm D := by simpa [kysF] using hp
    have hfin := com_sort l least (D.filter (comQ l least)) ((hp2.nodup_iff.1 C2).sublist List.filter_sublist) (fun x => by rw [List.mem_filter, ← hp2.mem_iff, C3])
    simp only [ZZ, YY, Ze, ite_true, ite_false, forall_const, reduceCtorEq, Nat.reduceAdd, Nat.reduceMul, Nat.reduceLeDiff, Nat.reduceLT, Nat.reduceEqDiff, strE_len]
    refine use1 (sorted_ok (D.filter (comQ l least)) (by omega)) rfl (.inl rfl) ?_
    rw [hfin]
    simp only [ZZ, YY, Ze, ite_true, ite_false, forall_const, reduceCtorEq, Nat.reduceAdd, Nat.reduceMul, Nat.reduceLeDiff, Nat.reduceLT, Nat.reduceEqDiff]
  · rintro i ⟨f, v⟩ hi
    have hil : i < R.length := (List.getElem?_eq_some_iff.1 hi).1
    have hel : (R.eraseIdx i).length = R.length - 1 := List.length_eraseIdx_of_lt hil
    have hpm : (f, v) ∈ R := List.mem_of_getElem? hi
    have hv : v = int (cntF l f : Nat) := by
      have h1 := mpF_mem C2 (hR _ hpm)
      have h2 := C1 f
      rw [mpD, h1] at h2
      exact h2
    subst hv
    have hp3 : (kysF kv).Perm ((D ++ [f]) ++ kysF (R.eraseIdx i)) := by
      refine hp.trans ?_
      rw [List.append_assoc]
      refine List.Perm.append_left D ?_
      have := (erase_perm hi).map (·.1)
      exact this
    have hR3 : ∀ p ∈ R.eraseIdx i, p ∈ kv := fun p h => hR p ((List.eraseIdx_sublist R i).subset h)
    have hfx : (D ++ [f]).filter (comQ l least) = D.filter (comQ l least) ++ if comQ l least f then [f] else [] := by
      rw [List.filter_append]
      simp only [List.filter_cons, List.filter_nil]
    have hcq : (!decide (f = []) && decide (least ≤ ((cntF l f : Nat) : Int))) = comQ l least f := rfl
    simp only [ZZ, YY, Ze, ite_true, ite_false, forall_const, reduceCtorEq, Nat.reduceAdd, Nat.reduceMul, Nat.reduceLeDiff, Nat.reduceLT, Nat.reduceEqDiff, hcq]
    ((repeat' (with_reducible apply And.intro)) <;> try ((first | first | assumption | trivial | exact (fun hq => by rw [hq]; rfl) | exact i64_of (by omega) (by omega) | omega | (simp; done) | (simp; omega) | (intro hsc; have hs0 := hsc; (try have hsd := of_decide_eq_true hsc); (try simp only [Bool.not_eq_true', Bool.or_eq_false_iff, Bool.and_eq_true, Bool.or_eq_true, decide_eq_true_eq, decide_eq_false_iff_not] at hsc); (repeat' (with_reducible apply And.intro)) <;> (first | assumption | trivial | exact (fun hq => by rw [hq]; rfl) | exact i64_of (by omega) (by omega) | omega | (simp; done) | (simp; omega) | (intro hse; simp [hse, hs0]; done) | (intro hse; simp only [hse, hs0, Bool.true_and, Bool.and_true, Bool.not_false, Bool.not_true, Bool.and_self]; done))))))
    refine br ?_ ?_
    · intro hq
      rw [hq, if_pos rfl] at hfx
      have happ : strE (D.filter (comQ l least)) ++ [[.str f]] = strE ((D ++ [f]).filter (comQ l least)) := by rw [hfx]; simp [strE]
      simp only [ZZ, YY, Ze, ite_true, ite_false, forall_const, reduceCtorEq, Nat.reduceAdd, Nat.reduceMul, Nat.reduceLeDiff, Nat.reduceLT, Nat.reduceEqDiff, strE_len]
      ((repeat' (with_reducible apply And.intro)) <;> try ((first | first | assumption | trivial | exact (fun hq => by rw [hq]; rfl) | exact i64_of (by omega) (by omega) | omega | (simp; done) | (simp; omega) | (intro hsc; have hs0 := hsc; (try have hsd := of_decide_eq_true hsc); (try simp only [Bool.not_eq_true', Bool.or_eq_false_iff, Bool.and_eq_true, Bool.or_eq_true, decide_eq_true_eq, decide_eq_false_iff_not] at hsc); (repeat' (with_reducible apply And.intro)) <;> (first | assumption | trivial | exact (fun hq => by rw [hq]; rfl) | exact i64_of (by omega) (by omega) | omega | (simp; done) | (simp; omega) | (intro hse; simp [hse, hs0]; done) | (intro hse; simp only [hse, hs0, Bool.true_and, Bool.and_true, Bool.not_false, Bool.not_true, Bool.and_self]; done))))))
      rw [happ]
      refine end_round ((R.eraseIdx i).length) [.p (.sl 2 (boE l)), .p (int least), .any, .any, .any, .any, .any, .p (.mpv (kv.map (·.1)) (kv.map (·.2))), .any, .any, .any, .any, .any, .any, .any, .row (.l 15), .any, .any, .any, .any, .any, .any, .any, .any, .any, .any, .any, .any, .any, .any, .any, .any, .any, .any, .any, .any, .any, .any, .any, .any, .any, .any, .any, .any, .any, .any, .any, .any, .any, .any, .any, .any, .any, .any, .any, .any, .any, .any, .any, .any, .any, .any, .any, .any, .adr (.l 64) 0, .any, .any, .any, .any, .any, .any, .any, .any, .any, .any, .any, .any, .any, .any, .any, .any, .any, .any] [(.l 64, .mit (some (f, int (cntF l f : Nat))) (R.eraseIdx i)), (.l 15, .row (strE ((D ++ [f]).filter (comQ l least))) tStr 1 true)] (by omega) (by (simp only [ZZ, YY, Ze, ite_true, ite_false, forall_const, reduceCtorEq, Nat.reduceAdd, Nat.reduceMul, Nat.reduceLeDiff, Nat.reduceLT, Nat.reduceEqDiff]; try trivial)) (by (simp only [ZZ, YY, Ze, ite_true, ite_false, forall_const, reduceCtorEq, Nat.reduceAdd, Nat.reduceMul, Nat.reduceLeDiff, Nat.reduceLT, Nat.reduceEqDiff]; try trivial)) ⟨R.eraseIdx i, some (f, int (cntF l f : Nat)), D ++ [f], rfl, hp3, hR3, rfl, rfl⟩
    · intro hq
      rw [hq, if_neg (by simp), List.append_nil] at hfx
      simp only [ZZ, YY, Ze, ite_true, ite_false, forall_const, reduceCtorEq, Nat.reduceAdd, Nat.reduceMul, Nat.reduceLeDiff, Nat.reduceLT, Nat.reduceEqDiff]
      ((repeat' (with_reducible apply And.intro)) <;> try ((first | first | assumption | trivial | exact (fun hq => by rw [hq]; rfl) | exact i64_of (by omega) (by omega) | omega | (simp; done) | (simp; omega) | (intro hsc; have hs0 := hsc; (try have hsd := of_decide_eq_true hsc); (try simp only [Bool.not_eq_true', Bool.or_eq_false_iff, Bool.and_eq_true, Bool.or_eq_true, decide_eq_true_eq, decide_eq_false_iff_not] at hsc); (repeat' (with_reducible apply And.intro)) <;> (first | assumption | trivial | exact (fun hq => by rw [hq]; rfl) | exact i64_of (by omega) (by omega) | omega | (simp; done) | (simp; omega) | (intro hse; simp [hse, hs0]; done) | (intro hse; simp only [hse, hs0, Bool.true_and, Bool.and_true, Bool.not_false, Bool.not_true, Bool.and_self]; done))))))
      rw [← hfx]
      refine end_round ((R.eraseIdx i).length) [.p (.sl 2 (boE l)), .p (int least), .any, .any, .any, .any, .any, .p (.mpv (kv.map (·.1)) (kv.map (·.2))), .any, .any, .any, .any, .any, .any, .any, .row (.l 15), .any, .any, .any, .any, .any, .any, .any, .any, .any, .any, .any, .any, .any, .any, .any, .any, .any, .any, .any, .any, .any, .any, .any, .any, .any, .any, .any, .any, .any, .any, .any, .any, .any, .any, .any, .any, .any, .any, .any, .any, .any, .any, .any, .any, .any, .any, .any, .any, .adr (.l 64) 0, .any, .any, .any, .any, .any, .any, .any, .any, .any, .any, .any, .any, .any, .any, .any, .any, .any, .any] [(.l 64, .mit (some (f, int (cntF l f : Nat))) (R.eraseIdx i)), (.l 15, .row (strE ((D ++ [f]).filter (comQ l least))) tStr 1 true)] (by omega) (by (simp only [ZZ, YY, Ze, ite_true, ite_false, forall_const, reduceCtorEq, Nat.reduceAdd, Nat.reduceMul, Nat.reduceLeDiff, Nat.reduceLT, Nat.reduceEqDiff]; try trivial)) (by (simp only [ZZ, YY, Ze, ite_true, ite_false, forall_const, reduceCtorEq, Nat.reduceAdd, Nat.reduceMul, Nat.reduceLeDiff, Nat.reduceLT, Nat.reduceEqDiff]; try trivial)) ⟨R.eraseIdx i, some (f, int (cntF l f : Nat)), D ++ [f], rfl, hp3, hR3, rfl, rfl⟩
end Go.Proofs.YthfpehmbellmcaaGreatDoor

/- Search in sorted texts. -/
namespace Go.Proofs.YthfpehmbellmcaaGreatDoor
open Go.RowKit
set_option linter.unusedVariables false
set_option linter.unusedSimpArgs false
set_option linter.defProp false

/- cmp.isNaN[string] -/
def ir_cmp_isNaN_string : IC :=
  (.seq (.reg [⟨some 2, .mov (.c (.bool false)), none⟩])
    (.seq (.reg [⟨some 3, .mov (.t 0), none⟩,
      ⟨some 4, .mov (.t 0), none⟩,
      ⟨some 5, .bin .neq (.t 3) (.t 4), none⟩,
      ⟨some 2, .mov (.t 5), none⟩])
    .ret))
def rs_cmp_isNaN_string : List IRes := [.t 2]
theorem ck_cmp_isNaN_string : chkF Tryz.prog Tryz.f158 ir_cmp_isNaN_string rs_cmp_isNaN_string 6 = true := by kernel_rfl
/- slices.isNaN[string] -/
def ir_slices_isNaN_string : IC :=
  (.seq (.reg [⟨some 2, .mov (.c (.bool false)), none⟩])
    (.seq (.reg [⟨some 3, .mov (.t 0), none⟩,
      ⟨some 4, .mov (.t 0), none⟩,
      ⟨some 5, .bin .neq (.t 3) (.t 4), none⟩,
      ⟨some 2, .mov (.t 5), none⟩])
    .ret))
def rs_slices_isNaN_string : List IRes := [.t 2]
theorem ck_slices_isNaN_string : chkF Tryz.prog Tryz.f121 ir_slices_isNaN_string rs_slices_isNaN_string 6 = true := by kernel_rfl
/- cmp.Less[string] -/
def ir_cmp_Less_string : IC :=
  (.seq (.reg [⟨some 4, .mov (.c (.bool false)), none⟩])
    (.seq (.reg [⟨some 5, .mov (.t 0), none⟩,
      ⟨some 6, .call 158 [.t 5], none⟩,
      ⟨some 7, .mov (.t 6), none⟩,
      ⟨some 8, .mov (.t 1), (some (7, true))⟩,
      ⟨some 9, .call 158 [.t 8], (some (7, true))⟩,
      ⟨some 10, .not (.t 9), (some (7, true))⟩,
      ⟨some 11, .pick (.t 7) (.t 10) (.c (.bool false)), none⟩,
      ⟨some 12, .mov (.t 11), none⟩,
      ⟨some 13, .mov (.t 0), (some (12, false))⟩,
      ⟨some 14, .mov (.t 1), (some (12, false))⟩,
      ⟨some 15, .bin .lss (.t 13) (.t 14), (some (12, false))⟩,
      ⟨some 16, .pick (.t 12) (.c (.bool true)) (.t 15), none⟩,
      ⟨some 4, .mov (.t 16), none⟩])
    .ret))
def rs_cmp_Less_string : List IRes := [.t 4]
theorem ck_cmp_Less_string : chkF Tryz.prog Tryz.f120 ir_cmp_Less_string rs_cmp_Less_string 17 = true := by kernel_rfl
/- slices.BinarySearch[[]string,string] -/
def ir_slices_BinarySearch_string_string_L0 : IC :=
  (.seq (.seq (.reg [⟨some 13, .mov (.t 7), none⟩,
      ⟨some 14, .mov (.t 8), none⟩,
      ⟨some 15, .bin .lss (.t 13) (.t 14), none⟩])
    (.cond (.t 15) .skip (.exit 0)))
    (.block 1 (.seq (.reg [⟨some 16, .mov (.t 7), none⟩,
      ⟨some 17, .mov (.t 8), none⟩,
      ⟨some 18, .bin .add (.t 16) (.t 17), none⟩,
      ⟨some 19, .cvi .u64 (.t 18), none⟩,
      ⟨some 20, .bin .shr (.t 19) (.c (.int .u64 1)), none⟩,
      ⟨some 21, .cvi .i64 (.t 20), none⟩,
      ⟨some 9, .mov (.t 21), none⟩])
    (.seq (.reg [⟨some 22, .mov (.t 0), none⟩,
      ⟨some 23, .mov (.t 9), none⟩,
      ⟨some 24, .ixa 1 (.t 22) (.t 23), none⟩,
      ⟨some 25, .ld 1 false (.t 24), none⟩,
      ⟨some 26, .mov (.t 1), none⟩,
      ⟨some 27, .call 120 [.t 25, .t 26], none⟩])
    (.cond (.t 27) (.reg [⟨some 28, .mov (.t 9), none⟩,
      ⟨some 29, .bin .add (.t 28) (.c (.int .i64 1)), none⟩,
      ⟨some 7, .mov (.t 29), none⟩]) (.reg [⟨some 30, .mov (.t 9), none⟩,
      ⟨some 8, .mov (.t 30), none⟩]))))))
def ir_slices_BinarySearch_string_string : IC :=
  (.seq (.reg [⟨some 4, .mov (.c (.int .i64 0)), none⟩,
      ⟨some 5, .mov (.c (.bool false)), none⟩])
    (.seq (.reg [⟨some 10, .mov (.t 0), none⟩,
      ⟨some 11, .len (.t 10), none⟩,
      ⟨some 6, .mov (.t 11), none⟩])
    (.seq (.reg [⟨some 12, .mov (.t 6), none⟩,
      ⟨some 7, .mov (.c (.int .i64 0)), none⟩,
      ⟨some 8, .mov (.t 12), none⟩])
    (.seq (.block 0 (.loop ir_slices_BinarySearch_string_string_L0))
    (.seq (.reg [⟨some 31, .mov (.t 7), none⟩,
      ⟨some 32, .mov (.t 7), none⟩,
      ⟨some 33, .mov (.t 6), none⟩,
      ⟨some 34, .bin .lss (.t 32) (.t 33), none⟩,
      ⟨some 35, .mov (.t 34), none⟩,
      ⟨some 36, .mov (.t 0), (some (35, true))⟩,
      ⟨some 37, .mov (.t 7), (some (35, true))⟩,
      ⟨some 38, .ixa 1 (.t 36) (.t 37), (some (35, true))⟩,
      ⟨some 39, .ld 1 false (.t 38), (some (35, true))⟩,
      ⟨none, .re, none⟩,
      ⟨some 40, .mov (.t 1), (some (35, true))⟩,
      ⟨some 41, .bin .eql (.t 39) (.t 40), (some (35, true))⟩,
      ⟨some 42, .mov (.t 41), (some (35, true))⟩,
      ⟨some 43, .mov (.t 0), (some (42, false))⟩,
      ⟨some 44, .mov (.t 7), (some (42, false))⟩,
      ⟨some 45, .ixa 1 (.t 43) (.t 44), (some (42, false))⟩,
      ⟨some 46, .ld 1 false (.t 45), (some (42, false))⟩,
      ⟨some 47, .call 121 [.t 46], (some (42, false))⟩,
      ⟨some 48, .mov (.t 47), (some (42, false))⟩,
      ⟨some 49, .mov (.t 1), (some (48, true))⟩,
      ⟨some 50, .call 121 [.t 49], (some (48, true))⟩,
      ⟨some 51, .pick (.t 48) (.t 50) (.c (.bool false)), (some (42, false))⟩,
      ⟨some 52, .pick (.t 42) (.c (.bool true)) (.t 51), (some (35, true))⟩,
      ⟨some 53, .pick (.t 35) (.t 52) (.c (.bool false)), none⟩,
      ⟨some 4, .mov (.t 31), none⟩,
      ⟨some 5, .mov (.t 53), none⟩])
    .ret)))))
def rs_slices_BinarySearch_string_string : List IRes := [.t 4, .t 5]
theorem ck_slices_BinarySearch_string_string : chkF Tryz.prog Tryz.f68 ir_slices_BinarySearch_string_string rs_slices_BinarySearch_string_string 54 = true := by kernel_rfl

section
variable {E : Envt}
theorem nanC_ok (x : List UInt8) : PCall Tryz.prog E 158 [.str x] (· = .bool false) := by
  refine pcallF mixed Tryz.func158 ck_cmp_isNaN_string ?_
  simp only [a0, l0, OS.ao, List.map_cons, List.map_nil, List.length_cons, List.length_nil, List.cons_append, List.nil_append, Nat.reduceSub, Nat.reduceAdd, List.replicate_succ, List.replicate_zero, ir_cmp_isNaN_string, rs_cmp_isNaN_string, ZZ, YY, Ze, ite_true, ite_false, forall_const, reduceCtorEq, Nat.reduceAdd, Nat.reduceMul, Nat.reduceLeDiff, Nat.reduceLT, Nat.reduceEqDiff]
  simp
theorem nanS_ok (x : List UInt8) : PCall Tryz.prog E 121 [.str x] (· = .bool false) := by
  refine pcallF mixed Tryz.func121 ck_slices_isNaN_string ?_
  simp only [a0, l0, OS.ao, List.map_cons, List.map_nil, List.length_cons, List.length_nil, List.cons_append, List.nil_append, Nat.reduceSub, Nat.reduceAdd, List.replicate_succ, List.replicate_zero, ir_slices_isNaN_string, rs_slices_isNaN_string, ZZ, YY, Ze, ite_true, ite_false, forall_const, reduceCtorEq, Nat.reduceAdd, Nat.reduceMul, Nat.reduceLeDiff, Nat.reduceLT, Nat.reduceEqDiff]
  simp
theorem LessS_ok (x y : List UInt8) : PCall Tryz.prog E 120 [.str x, .str y] (· = .bool (decide (x < y))) := by
  refine pcallF mixed Tryz.func120 ck_cmp_Less_string ?_
  simp only [a0, l0, OS.ao, List.map_cons, List.map_nil, List.length_cons, List.length_nil, List.cons_append, List.nil_append, Nat.reduceSub, Nat.reduceAdd, List.replicate_succ, List.replicate_zero, ir_cmp_Less_string, rs_cmp_Less_string, ZZ, YY, Ze, ite_true, ite_false, forall_const, reduceCtorEq, Nat.reduceAdd, Nat.reduceMul, Nat.reduceLeDiff, Nat.reduceLT, Nat.reduceEqDiff]
  refine use1 (nanC_ok x) rfl (.inl rfl) ?_
  simp only [ZZ, YY, Ze, ite_true, ite_false, forall_const, reduceCtorEq, Nat.reduceAdd, Nat.reduceMul, Nat.reduceLeDiff, Nat.reduceLT, Nat.reduceEqDiff]
  refine useG (fun _ => nanC_ok y) rfl (.inl rfl) ?_
  simp only [ZZ, YY, Ze, ite_true, ite_false, forall_const, reduceCtorEq, Nat.reduceAdd, Nat.reduceMul, Nat.reduceLeDiff, Nat.reduceLT, Nat.reduceEqDiff]
  simp only [bytesLess, bytesLess_eq]
end
/-- What a false guard holds may be told in any words. -/
theorem re_dead {E : Envt} {fr : List AV} {L : Objs} {d : Nat} {x y : AV} (h : fr[d]? = some (.g false y)) : ReOk E fr L (fr.set d (.g false x)) L := fun B w ι a hs => by
  refine ⟨ι, hs.1, ⟨by rw [hs.2.1.1, List.length_set], fun i z hz => ?_⟩, hs.2.2⟩
  rw [List.getElem?_set] at hz
  split at hz
  · rename_i e
    subst e
    split at hz
    · cases hz
      obtain ⟨v, hv, hr⟩ := hs.2.1.2 d _ h
      exact ⟨v, hv, fun hc => (by cases hc), hr.2⟩
    · cases hz
  · exact hs.2.1.2 i z hz
/-- Sorted, each once. -/
def SrtS (l : SRow) : Prop := ∀ (a b : Nat) (p q : List UInt8), a < b → l[a]? = some p → l[b]? = some q → p < q
theorem srtS_adj {l : SRow} (h : ∀ (a : Nat) (p q : List UInt8), l[a]? = some p → l[a + 1]? = some q → p < q) : SrtS l := by
  intro a b
  induction b with
  | zero => intro p q hab; omega
  | succ b ih =>
    intro p q hab hp hq
    rcases Nat.lt_or_ge a b with h1 | h1
    · have hb : b < l.length := by have := (List.getElem?_eq_some_iff.1 hq).1; omega
      obtain ⟨r, hr⟩ : ∃ r, l[b]? = some r := ⟨_, List.getElem?_eq_getElem hb⟩
      exact List.lt_trans (ih p r h1 hp hr) (h b r q hr hq)
    · have : a = b := by omega
      subst this
      exact h a p q hp hq
set_option maxHeartbeats 4000000 in
set_option maxRecDepth 100000 in
theorem SearchS_ok {E : Envt} (l : SRow) (m : List UInt8) (hl : l.length ≤ 1000000) (hs : SrtS l) : PCall Tryz.prog E 68 [.sl 1 (strE l), .str m] (fun y => ∃ i : Nat, y = .tup [int i, .bool (decide (m ∈ l))]) := by
  refine pcallF mixed Tryz.func68 ck_slices_BinarySearch_string_string ?_
  simp only [a0, l0, OS.ao, List.map_cons, List.map_nil, List.length_cons, List.length_nil, List.cons_append, List.nil_append, Nat.reduceSub, Nat.reduceAdd, List.replicate_succ, List.replicate_zero, ir_slices_BinarySearch_string_string, rs_slices_BinarySearch_string_string, ZZ, YY, Ze, ite_true, ite_false, forall_const, reduceCtorEq, Nat.reduceAdd, Nat.reduceMul, Nat.reduceLeDiff, Nat.reduceLT, Nat.reduceEqDiff]
  simp only [ZZ, YY, Ze, ite_true, ite_false, forall_const, reduceCtorEq, Nat.reduceAdd, Nat.reduceMul, Nat.reduceLeDiff, Nat.reduceLT, Nat.reduceEqDiff, strE_len]
  refine loop_intro (fun n fr L => ∃ (i : Nat) (j : Nat), j - i = n ∧ (i ≤ j) ∧ (j ≤ l.length) ∧ (∀ (a : Nat) (p : List UInt8), a < i → l[a]? = some p → p < m) ∧ (∀ (a : Nat) (p : List UInt8), j ≤ a → l[a]? = some p → ¬ p < m) ∧ fr = [.p (.sl 1 (strE l)), .p (.str m), .any, .any, .any, .any, .p (int (l.length : Nat)), .p (int (i : Nat)), .p (int (j : Nat)), .any, .any, .any, .any, .any, .any, .any, .any, .any, .any, .any, .any, .any, .any, .any, .any, .any, .any, .any, .any, .any, .any, .any, .any, .any, .any, .any, .any, .any, .any, .any, .any, .any, .any, .any, .any, .any, .any, .any, .any, .any, .any, .any, .any, .any] ∧ L = []) ((l.length) - 0) [.p (.sl 1 (strE l)), .p (.str m), .any, .any, .any, .any, .p (int (l.length : Nat)), .p (int (0 : Nat)), .p (int ((l.length) : Nat)), .any, .any, .any, .any, .any, .any, .any, .any, .any, .any, .any, .any, .any, .any, .any, .any, .any, .any, .any, .any, .any, .any, .any, .any, .any, .any, .any, .any, .any, .any, .any, .any, .any, .any, .any, .any, .any, .any, .any, .any, .any, .any, .any, .any, .any] [] (by simp only [ZZ, YY, Ze, ite_true, ite_false, forall_const, reduceCtorEq, Nat.reduceAdd, Nat.reduceMul, Nat.reduceLeDiff, Nat.reduceLT, Nat.reduceEqDiff, strE_len]; try trivial) (trivial) ⟨0, l.length, rfl, by omega, by omega, fun a p h => absurd h (by omega), fun a p h hp => absurd (List.getElem?_eq_some_iff.1 hp).1 (by omega), rfl, rfl⟩ ?_
  rintro n fr L ⟨i, j, rfl, hij, hjn, hlo, hhi, rfl, rfl⟩
  simp only [ir_slices_BinarySearch_string_string_L0, ZZ, YY, Ze, ite_true, ite_false, forall_const, reduceCtorEq, Nat.reduceAdd, Nat.reduceMul, Nat.reduceLeDiff, Nat.reduceLT, Nat.reduceEqDiff]
  refine br ?_ ?_
  · intro h
    have hlt : i < j := by have := of_decide_eq_true h; omega
    have hm : ((IntKind.u64.wrap ((i : Int) + j)).fdiv (2 ^ min (Int.toNat 1) IntKind.u64.bits)) = (((i + j) / 2 : Nat) : Int) := by
      have e1 : IntKind.u64.wrap ((i : Int) + j) = ((i + j : Nat) : Int) := by simp [IntKind.wrap, IntKind.bits, IntKind.signed]; omega
      rw [e1]
      have e2 : (2 : Int) ^ min (Int.toNat 1) IntKind.u64.bits = 2 := by decide
      rw [e2, Int.fdiv_eq_ediv_of_nonneg _ (by omega)]
      omega
    obtain ⟨x, hx⟩ : ∃ x, l[(i + j) / 2]? = some x := ⟨_, List.getElem?_eq_getElem (by omega)⟩
    have hg := strE_get hx
    have hmn : (((((i + j) / 2 : Nat) : Int))).toNat = (i + j) / 2 := by omega
    simp only [ZZ, YY, Ze, ite_true, ite_false, forall_const, reduceCtorEq, Nat.reduceAdd, Nat.reduceMul, Nat.reduceLeDiff, Nat.reduceLT, Nat.reduceEqDiff, strE_len, hm]
    generalize hh : (i + j) / 2 = g at *
    have hg1 : i ≤ g := by omega
    have hg2 : g < j := by omega
    simp only [ZZ, YY, Ze, ite_true, ite_false, forall_const, reduceCtorEq, Nat.reduceAdd, Nat.reduceMul, Nat.reduceLeDiff, Nat.reduceLT, Nat.reduceEqDiff, hg]
    ((repeat' (with_reducible apply And.intro)) <;> try ((first | first | assumption | trivial | exact (fun hq => by rw [hq]; rfl) | exact i64_of (by omega) (by omega) | omega | (simp; done) | (simp; omega) | (intro hsc; have hs0 := hsc; (try have hsd := of_decide_eq_true hsc); (try simp only [Bool.not_eq_true', Bool.or_eq_false_iff, Bool.and_eq_true, Bool.or_eq_true, decide_eq_true_eq, decide_eq_false_iff_not] at hsc); (repeat' (with_reducible apply And.intro)) <;> (first | assumption | trivial | exact (fun hq => by rw [hq]; rfl) | exact i64_of (by omega) (by omega) | omega | (simp; done) | (simp; omega) | (intro hse; simp [hse, hs0]; done) | (intro hse; simp only [hse, hs0, Bool.true_and, Bool.and_true, Bool.not_false, Bool.not_true, Bool.and_self]; done))))))
    refine use1 (LessS_ok x m) rfl (.inl rfl) ?_
    simp only [ZZ, YY, Ze, ite_true, ite_false, forall_const, reduceCtorEq, Nat.reduceAdd, Nat.reduceMul, Nat.reduceLeDiff, Nat.reduceLT, Nat.reduceEqDiff]
    refine br ?_ ?_
    · intro hc
      have hc : x < m := of_decide_eq_true hc
      have hlow : ∀ (a : Nat) (p : List UInt8), a < g + 1 → l[a]? = some p → p < m := by
        intro a p ha hp
        rcases Nat.lt_or_ge a g with h1 | h1
        · exact List.lt_trans (hs a g p x h1 hp hx) hc
        · have : a = g := by omega
          subst this
          rw [hx] at hp; cases hp; exact hc
      simp only [ZZ, YY, Ze, ite_true, ite_false, forall_const, reduceCtorEq, Nat.reduceAdd, Nat.reduceMul, Nat.reduceLeDiff, Nat.reduceLT, Nat.reduceEqDiff]
      ((repeat' (with_reducible apply And.intro)) <;> try ((first | first | assumption | trivial | exact (fun hq => by rw [hq]; rfl) | exact i64_of (by omega) (by omega) | omega | (simp; done) | (simp; omega) | (intro hsc; have hs0 := hsc; (try have hsd := of_decide_eq_true hsc); (try simp only [Bool.not_eq_true', Bool.or_eq_false_iff, Bool.and_eq_true, Bool.or_eq_true, decide_eq_true_eq, decide_eq_false_iff_not] at hsc); (repeat' (with_reducible apply And.intro)) <;> (first | assumption | trivial | exact (fun hq => by rw [hq]; rfl) | exact i64_of (by omega) (by omega) | omega | (simp; done) | (simp; omega) | (intro hse; simp [hse, hs0]; done) | (intro hse; simp only [hse, hs0, Bool.true_and, Bool.and_true, Bool.not_false, Bool.not_true, Bool.and_self]; done))))))
      refine end_round (j - (g + 1)) [.p (.sl 1 (strE l)), .p (.str m), .any, .any, .any, .any, .p (int (l.length : Nat)), .p (int ((g + 1) : Nat)), .p (int (j : Nat)), .any, .any, .any, .any, .any, .any, .any, .any, .any, .any, .any, .any, .any, .any, .any, .any, .any, .any, .any, .any, .any, .any, .any, .any, .any, .any, .any, .any, .any, .any, .any, .any, .any, .any, .any, .any, .any, .any, .any, .any, .any, .any, .any, .any, .any] [] (by omega) (by (simp only [ZZ, YY, Ze, ite_true, ite_false, forall_const, reduceCtorEq, Nat.reduceAdd, Nat.reduceMul, Nat.reduceLeDiff, Nat.reduceLT, Nat.reduceEqDiff]; try trivial)) (by (simp only [ZZ, YY, Ze, ite_true, ite_false, forall_const, reduceCtorEq, Nat.reduceAdd, Nat.reduceMul, Nat.reduceLeDiff, Nat.reduceLT, Nat.reduceEqDiff]; try trivial)) ⟨g + 1, j, rfl, by omega, hjn, hlow, hhi, rfl, rfl⟩
    · intro hc
      have hc : ¬ x < m := of_decide_eq_false hc
      have hupp : ∀ (a : Nat) (p : List UInt8), g ≤ a → l[a]? = some p → ¬ p < m := by
        intro a p ha hp hpm
        rcases Nat.lt_or_ge g a with h1 | h1
        · exact hc (List.lt_trans (hs g a x p h1 hx hp) hpm)
        · have : a = g := by omega
          subst this
          rw [hx] at hp; cases hp; exact hc hpm
      simp only [ZZ, YY, Ze, ite_true, ite_false, forall_const, reduceCtorEq, Nat.reduceAdd, Nat.reduceMul, Nat.reduceLeDiff, Nat.reduceLT, Nat.reduceEqDiff]
      refine end_round ((g) - i) [.p (.sl 1 (strE l)), .p (.str m), .any, .any, .any, .any, .p (int (l.length : Nat)), .p (int (i : Nat)), .p (int ((g) : Nat)), .any, .any, .any, .any, .any, .any, .any, .any, .any, .any, .any, .any, .any, .any, .any, .any, .any, .any, .any, .any, .any, .any, .any, .any, .any, .any, .any, .any, .any, .any, .any, .any, .any, .any, .any, .any, .any, .any, .any, .any, .any, .any, .any, .any, .any] [] (by omega) (by (simp only [ZZ, YY, Ze, ite_true, ite_false, forall_const, reduceCtorEq, Nat.reduceAdd, Nat.reduceMul, Nat.reduceLeDiff, Nat.reduceLT, Nat.reduceEqDiff]; try trivial)) (by (simp only [ZZ, YY, Ze, ite_true, ite_false, forall_const, reduceCtorEq, Nat.reduceAdd, Nat.reduceMul, Nat.reduceLeDiff, Nat.reduceLT, Nat.reduceEqDiff]; try trivial)) ⟨i, g, rfl, by omega, by omega, hlo, hupp, rfl, rfl⟩
  · intro h
    have hge : i = j := by have := of_decide_eq_false h; omega
    subst hge
    by_cases hin : i < l.length
    · obtain ⟨x, hx⟩ : ∃ x, l[i]? = some x := ⟨_, List.getElem?_eq_getElem hin⟩
      have hg := strE_get hx
      have hd : decide ((i : Int) < l.length) = true := by simp; omega
      have hmem : decide (x = m) = decide (m ∈ l) := by
        rw [Bool.eq_iff_iff, decide_eq_true_iff, decide_eq_true_iff]
        refine ⟨fun e => e ▸ List.mem_of_getElem? hx, fun hml => ?_⟩
        obtain ⟨a, ha⟩ := List.getElem?_of_mem hml
        rcases Nat.lt_trichotomy a i with h1 | h1 | h1
        · exact absurd (hlo a m h1 ha) (List.lt_irrefl m)
        · subst h1; rw [hx] at ha; cases ha; rfl
        · exact absurd (hs i a x m h1 hx ha) (hhi i x (Nat.le_refl _) hx)
      simp only [ZZ, YY, Ze, ite_true, ite_false, forall_const, reduceCtorEq, Nat.reduceAdd, Nat.reduceMul, Nat.reduceLeDiff, Nat.reduceLT, Nat.reduceEqDiff, strE_len, hg, hd]
      ((repeat' (with_reducible apply And.intro)) <;> try ((first | first | assumption | trivial | exact (fun hq => by rw [hq]; rfl) | exact i64_of (by omega) (by omega) | omega | (simp; done) | (simp; omega) | (intro hsc; have hs0 := hsc; (try have hsd := of_decide_eq_true hsc); (try simp only [Bool.not_eq_true', Bool.or_eq_false_iff, Bool.and_eq_true, Bool.or_eq_true, decide_eq_true_eq, decide_eq_false_iff_not] at hsc); (repeat' (with_reducible apply And.intro)) <;> (first | assumption | trivial | exact (fun hq => by rw [hq]; rfl) | exact i64_of (by omega) (by omega) | omega | (simp; done) | (simp; omega) | (intro hse; simp [hse, hs0]; done) | (intro hse; simp only [hse, hs0, Bool.true_and, Bool.and_true, Bool.not_false, Bool.not_true, Bool.and_self]; done))))))
      rw [ops_re]
      refine ⟨_, _, ReOk.refl, ?_⟩
      simp only [ZZ, YY, Ze, ite_true, ite_false, forall_const, reduceCtorEq, Nat.reduceAdd, Nat.reduceMul, Nat.reduceLeDiff, Nat.reduceLT, Nat.reduceEqDiff, hg, strE_len]
      ((repeat' (with_reducible apply And.intro)) <;> try ((first | first | assumption | trivial | exact (fun hq => by rw [hq]; rfl) | exact i64_of (by omega) (by omega) | omega | (simp; done) | (simp; omega) | (intro hsc; have hs0 := hsc; (try have hsd := of_decide_eq_true hsc); (try simp only [Bool.not_eq_true', Bool.or_eq_false_iff, Bool.and_eq_true, Bool.or_eq_true, decide_eq_true_eq, decide_eq_false_iff_not] at hsc); (repeat' (with_reducible apply And.intro)) <;> (first | assumption | trivial | exact (fun hq => by rw [hq]; rfl) | exact i64_of (by omega) (by omega) | omega | (simp; done) | (simp; omega) | (intro hse; simp [hse, hs0]; done) | (intro hse; simp only [hse, hs0, Bool.true_and, Bool.and_true, Bool.not_false, Bool.not_true, Bool.and_self]; done))))))
      refine useG (fun _ => nanS_ok x) rfl (.inl rfl) ?_
      simp only [ZZ, YY, Ze, ite_true, ite_false, forall_const, reduceCtorEq, Nat.reduceAdd, Nat.reduceMul, Nat.reduceLeDiff, Nat.reduceLT, Nat.reduceEqDiff]
      refine useGC (fun h => by simp at h) (fun _ => ?_)
      simp only [ZZ, YY, Ze, ite_true, ite_false, forall_const, reduceCtorEq, Nat.reduceAdd, Nat.reduceMul, Nat.reduceLeDiff, Nat.reduceLT, Nat.reduceEqDiff]
      exact ⟨fun h => by rw [h]; rfl, i, by rw [hmem]⟩
    · have hgd : (strE l).getD i [] = [] := by simp [List.getD, strE]; rw [List.getElem?_eq_none (by omega)]; rfl
      have hfl : decide ((i : Int) < l.length) = false := by simp; omega
      have hmem : decide (m ∈ l) = false := by
        rw [decide_eq_false_iff_not]
        intro hml
        obtain ⟨a, ha⟩ := List.getElem?_of_mem hml
        have := (List.getElem?_eq_some_iff.1 ha).1
        exact absurd (hlo a m (by omega) ha) (List.lt_irrefl m)
      simp only [ZZ, YY, Ze, ite_true, ite_false, forall_const, reduceCtorEq, Nat.reduceAdd, Nat.reduceMul, Nat.reduceLeDiff, Nat.reduceLT, Nat.reduceEqDiff, strE_len, hgd, hfl]
      ((repeat' (with_reducible apply And.intro)) <;> try ((first | first | assumption | trivial | exact (fun hq => by rw [hq]; rfl) | exact i64_of (by omega) (by omega) | omega | (simp; done) | (simp; omega) | (intro hsc; have hs0 := hsc; (try have hsd := of_decide_eq_true hsc); (try simp only [Bool.not_eq_true', Bool.or_eq_false_iff, Bool.and_eq_true, Bool.or_eq_true, decide_eq_true_eq, decide_eq_false_iff_not] at hsc); (repeat' (with_reducible apply And.intro)) <;> (first | assumption | trivial | exact (fun hq => by rw [hq]; rfl) | exact i64_of (by omega) (by omega) | omega | (simp; done) | (simp; omega) | (intro hse; simp [hse, hs0]; done) | (intro hse; simp only [hse, hs0, Bool.true_and, Bool.and_true, Bool.not_false, Bool.not_true, Bool.and_self]; done))))))
      rw [ops_re]
      refine ⟨_, _, re_dead (d := 39) (x := .p (.str [])) rfl, ?_⟩
      simp only [ZZ, YY, Ze, ite_true, ite_false, forall_const, reduceCtorEq, Nat.reduceAdd, Nat.reduceMul, Nat.reduceLeDiff, Nat.reduceLT, Nat.reduceEqDiff, Bool.false_and, hgd, strE_len]
      ((repeat' (with_reducible apply And.intro)) <;> try ((first | first | assumption | trivial | exact (fun hq => by rw [hq]; rfl) | exact i64_of (by omega) (by omega) | omega | (simp; done) | (simp; omega) | (intro hsc; have hs0 := hsc; (try have hsd := of_decide_eq_true hsc); (try simp only [Bool.not_eq_true', Bool.or_eq_false_iff, Bool.and_eq_true, Bool.or_eq_true, decide_eq_true_eq, decide_eq_false_iff_not] at hsc); (repeat' (with_reducible apply And.intro)) <;> (first | assumption | trivial | exact (fun hq => by rw [hq]; rfl) | exact i64_of (by omega) (by omega) | omega | (simp; done) | (simp; omega) | (intro hse; simp [hse, hs0]; done) | (intro hse; simp only [hse, hs0, Bool.true_and, Bool.and_true, Bool.not_false, Bool.not_true, Bool.and_self]; done))))))
      refine useG (r := .bool false) (fun h => by cases h) rfl (.inl rfl) ?_
      simp only [ZZ, YY, Ze, ite_true, ite_false, forall_const, reduceCtorEq, Nat.reduceAdd, Nat.reduceMul, Nat.reduceLeDiff, Nat.reduceLT, Nat.reduceEqDiff]
      refine useGC (fun h => by cases h) (fun _ => ?_)
      simp only [ZZ, YY, Ze, ite_true, ite_false, forall_const, reduceCtorEq, Nat.reduceAdd, Nat.reduceMul, Nat.reduceLeDiff, Nat.reduceLT, Nat.reduceEqDiff, Bool.false_and]
      exact ⟨by simp, i, by rw [hmem]⟩
end Go.Proofs.YthfpehmbellmcaaGreatDoor
