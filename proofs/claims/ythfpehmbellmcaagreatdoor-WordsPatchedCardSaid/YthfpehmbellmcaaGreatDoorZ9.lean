
/- Own texts, put together: Q2 Q6 M8 Q7. -/
import Derived.Test.YthfpehmbellmcaaGreatDoorZ8
import Derived.Test.YthfpehmbellmcaaGreatDoorZ5
import Derived.Laws.Cover4
/- slices.Grow at nil and slices.Concat, at strings. -/
namespace Go.Proofs.YthfpehmbellmcaaGreatDoor
set_option linter.unusedVariables false
set_option linter.unusedSimpArgs false
set_option linter.defProp false

/- slices.Grow[[]string,string] -/
def ir_slices_Grow_string_string : IC :=
  (.seq (.reg [⟨some 4, .mov (.c (.nl 1)), none⟩])
    (.seq (.seq (.reg [⟨some 5, .mov (.t 1), none⟩,
      ⟨some 6, .bin .lss (.t 5) (.c (.int .i64 0)), none⟩])
    (.cond (.t 6) (.reg [⟨some 7, .dead, none⟩,
      ⟨none, .dead, none⟩]) .skip))
    (.cut (.seq (.seq (.reg [⟨some 8, .mov (.t 1), none⟩,
      ⟨some 9, .mov (.t 0), none⟩,
      ⟨some 10, .cap0 (.t 9), none⟩,
      ⟨some 11, .mov (.t 0), none⟩,
      ⟨some 12, .len (.t 11), none⟩,
      ⟨some 13, .bin .sub (.t 10) (.t 12), none⟩,
      ⟨some 14, .bin .sub (.t 8) (.t 13), none⟩,
      ⟨some 1, .mov (.t 14), none⟩])
    (.seq (.reg [⟨some 15, .mov (.t 1), none⟩,
      ⟨some 16, .bin .gtr (.t 15) (.c (.int .i64 0)), none⟩])
    (.cond (.t 16) (.reg [⟨some 17, .mov (.t 0), none⟩,
      ⟨some 18, .mov (.t 0), none⟩,
      ⟨some 19, .cap0 (.t 18), none⟩,
      ⟨some 20, .vsn (.t 17) (.t 19), none⟩,
      ⟨some 21, .mov (.t 1), none⟩,
      ⟨some 22, .apz 9 1 16 [.str []] (.t 20) (.t 21), none⟩,
      ⟨some 23, .mov (.t 0), none⟩,
      ⟨some 24, .len (.t 23), none⟩,
      ⟨some 25, .trn 1 (.t 22) (.t 24), none⟩,
      ⟨some 0, .mov (.t 25), none⟩]) .skip)))
    (.cut (.seq (.reg [⟨some 26, .mov (.t 0), none⟩,
      ⟨some 4, .mov (.t 26), none⟩])
    .ret))))))
def rs_slices_Grow_string_string : List IRes := [.t 4]
theorem ck_slices_Grow_string_string : chkF Tryz.prog Tryz.f146 ir_slices_Grow_string_string rs_slices_Grow_string_string 27 = true := by kernel_rfl
/- slices.Concat[[]string,string] -/
def ir_slices_Concat_string_string_L1 : IC :=
  (.seq (.reg [⟨some 28, .bin .lss (.t 27) (.t 26), none⟩])
    (.seq (.cond (.t 28) .skip (.exit 2))
    (.seq (.block 3 (.seq (.reg [⟨some 29, .ixa 1 (.t 25) (.t 27), none⟩,
      ⟨some 30, .ld 1 false (.t 29), none⟩,
      ⟨some 8, .mov (.t 30), none⟩])
    (.reg [⟨some 31, .mov (.t 6), none⟩,
      ⟨some 32, .mov (.t 8), none⟩,
      ⟨some 33, .app 9 1 16 (.t 31) (.t 32), none⟩,
      ⟨some 6, .mov (.t 33), none⟩])))
    (.reg [⟨some 34, .bin .add (.t 27) (.c (.int .i64 1)), none⟩,
      ⟨some 27, .mov (.t 34), none⟩]))))
def ir_slices_Concat_string_string_L0 : IC :=
  (.seq (.reg [⟨some 12, .bin .lss (.t 11) (.t 10), none⟩])
    (.seq (.cond (.t 12) .skip (.exit 0))
    (.seq (.block 1 (.seq (.reg [⟨some 13, .ixa 1 (.t 9) (.t 11), none⟩,
      ⟨some 14, .ld 1 false (.t 13), none⟩,
      ⟨some 5, .mov (.t 14), none⟩])
    (.seq (.reg [⟨some 15, .mov (.t 3), none⟩,
      ⟨some 16, .mov (.t 5), none⟩,
      ⟨some 17, .len (.t 16), none⟩,
      ⟨some 18, .bin .add (.t 15) (.t 17), none⟩,
      ⟨some 3, .mov (.t 18), none⟩])
    (.seq (.reg [⟨some 19, .mov (.t 3), none⟩,
      ⟨some 20, .bin .lss (.t 19) (.c (.int .i64 0)), none⟩])
    (.cond (.t 20) (.reg [⟨some 21, .dead, none⟩,
      ⟨none, .dead, none⟩]) .skip)))))
    (.cut (.reg [⟨some 22, .bin .add (.t 11) (.c (.int .i64 1)), none⟩,
      ⟨some 11, .mov (.t 22), none⟩])))))
def ir_slices_Concat_string_string : IC :=
  (.seq (.reg [⟨some 2, .mov (.c (.nl 1)), none⟩])
    (.seq (.reg [⟨some 3, .mov (.c (.int .i64 0)), none⟩])
    (.seq (.seq (.reg [⟨some 9, .mov (.t 0), none⟩,
      ⟨some 10, .len (.t 9), none⟩,
      ⟨some 11, .mov (.c (.int .i64 0)), none⟩])
    (.block 0 (.loop ir_slices_Concat_string_string_L0)))
    (.seq (.reg [⟨some 23, .mov (.t 3), none⟩,
      ⟨some 24, .call 146 [.c (.nl 1), .t 23], none⟩,
      ⟨some 6, .mov (.t 24), none⟩])
    (.seq (.seq (.reg [⟨some 25, .mov (.t 0), none⟩,
      ⟨some 26, .len (.t 25), none⟩,
      ⟨some 27, .mov (.c (.int .i64 0)), none⟩])
    (.block 2 (.loop ir_slices_Concat_string_string_L1)))
    (.seq (.reg [⟨some 35, .mov (.t 6), none⟩,
      ⟨some 2, .mov (.t 35), none⟩])
    .ret))))))
def rs_slices_Concat_string_string : List IRes := [.t 2]
theorem ck_slices_Concat_string_string : chkF Tryz.prog Tryz.f106 ir_slices_Concat_string_string rs_slices_Concat_string_string 36 = true := by kernel_rfl


section
variable {E : Envt}
theorem GrowT_ok (n : Nat) (hn : n ≤ 1000000000) : FCall Tryz.prog E 146 [.nl 1, int n] tStr 1 (· = []) := by
  unfold FCall
  refine gcallR mixed Tryz.func146 ck_slices_Grow_string_string ?_
  simp only [a0, l0, OS.ao, List.map_cons, List.map_nil, List.length_cons, List.length_nil, List.cons_append, List.nil_append, Nat.reduceSub, Nat.reduceAdd, List.replicate_succ, List.replicate_zero, ir_slices_Grow_string_string, rs_slices_Grow_string_string, ZZ, YY, Ze, ite_true, ite_false, forall_const, reduceCtorEq, Nat.reduceAdd, Nat.reduceMul, Nat.reduceLeDiff, Nat.reduceLT, Nat.reduceEqDiff]
  refine br ?_ ?_
  · intro h
    have := of_decide_eq_true h
    omega
  · intro h
    simp only [ZZ, YY, Ze, ite_true, ite_false, forall_const, reduceCtorEq, Nat.reduceAdd, Nat.reduceMul, Nat.reduceLeDiff, Nat.reduceLT, Nat.reduceEqDiff]
    refine cut_same (by simp only [ZZ, YY, Ze, ite_true, ite_false, forall_const, reduceCtorEq, Nat.reduceAdd, Nat.reduceMul, Nat.reduceLeDiff, Nat.reduceLT, Nat.reduceEqDiff]) ?_
    simp only [ZZ, YY, Ze, ite_true, ite_false, forall_const, reduceCtorEq, Nat.reduceAdd, Nat.reduceMul, Nat.reduceLeDiff, Nat.reduceLT, Nat.reduceEqDiff]
    ((repeat' (with_reducible apply And.intro)) <;> try ((first | first | assumption | trivial | exact (fun hq => by rw [hq]; rfl) | exact i64_of (by omega) (by omega) | omega | (simp; done) | (simp; omega) | (intro hsc; have hs0 := hsc; (try have hsd := of_decide_eq_true hsc); (try simp only [Bool.not_eq_true', Bool.or_eq_false_iff, Bool.and_eq_true, Bool.or_eq_true, decide_eq_true_eq, decide_eq_false_iff_not] at hsc); (repeat' (with_reducible apply And.intro)) <;> (first | assumption | trivial | exact (fun hq => by rw [hq]; rfl) | exact i64_of (by omega) (by omega) | omega | (simp; done) | (simp; omega) | (intro hse; simp [hse, hs0]; done) | (intro hse; simp only [hse, hs0, Bool.true_and, Bool.and_true, Bool.not_false, Bool.not_true, Bool.and_self]; done))))))
    refine br ?_ ?_
    · intro h2
      have h2 := of_decide_eq_true h2
      simp only [ZZ, YY, Ze, ite_true, ite_false, forall_const, reduceCtorEq, Nat.reduceAdd, Nat.reduceMul, Nat.reduceLeDiff, Nat.reduceLT, Nat.reduceEqDiff]
      ((repeat' (with_reducible apply And.intro)) <;> try ((first | first | assumption | trivial | exact (fun hq => by rw [hq]; rfl) | exact i64_of (by omega) (by omega) | omega | (simp; done) | (simp; omega) | (intro hsc; have hs0 := hsc; (try have hsd := of_decide_eq_true hsc); (try simp only [Bool.not_eq_true', Bool.or_eq_false_iff, Bool.and_eq_true, Bool.or_eq_true, decide_eq_true_eq, decide_eq_false_iff_not] at hsc); (repeat' (with_reducible apply And.intro)) <;> (first | assumption | trivial | exact (fun hq => by rw [hq]; rfl) | exact i64_of (by omega) (by omega) | omega | (simp; done) | (simp; omega) | (intro hse; simp [hse, hs0]; done) | (intro hse; simp only [hse, hs0, Bool.true_and, Bool.and_true, Bool.not_false, Bool.not_true, Bool.and_self]; done))))))
      refine cut_same (by simp only [ZZ, YY, Ze, ite_true, ite_false, forall_const, reduceCtorEq, Nat.reduceAdd, Nat.reduceMul, Nat.reduceLeDiff, Nat.reduceLT, Nat.reduceEqDiff]) ?_
      simp only [ZZ, YY, Ze, ite_true, ite_false, forall_const, reduceCtorEq, Nat.reduceAdd, Nat.reduceMul, Nat.reduceLeDiff, Nat.reduceLT, Nat.reduceEqDiff]
      exact fin_F 22 [] rfl rfl rfl
    · intro h2
      simp only [ZZ, YY, Ze, ite_true, ite_false, forall_const, reduceCtorEq, Nat.reduceAdd, Nat.reduceMul, Nat.reduceLeDiff, Nat.reduceLT, Nat.reduceEqDiff]
      refine cut_same (by simp only [ZZ, YY, Ze, ite_true, ite_false, forall_const, reduceCtorEq, Nat.reduceAdd, Nat.reduceMul, Nat.reduceLeDiff, Nat.reduceLT, Nat.reduceEqDiff]) ?_
      simp only [ZZ, YY, Ze, ite_true, ite_false, forall_const, reduceCtorEq, Nat.reduceAdd, Nat.reduceMul, Nat.reduceLeDiff, Nat.reduceLT, Nat.reduceEqDiff]
      exact fin_Fn rfl rfl

def lenT (ls : List Toks) : Nat := (ls.map List.length).sum
theorem lenT_take {ls : List Toks} {k : Nat} {x : Toks} (h : ls[k]? = some x) : lenT (ls.take (k + 1)) = lenT (ls.take k) + x.length := by
  obtain ⟨hk, hx⟩ := List.getElem?_eq_some_iff.1 h
  unfold lenT
  rw [List.take_succ_eq_append_getElem hk, List.map_append, List.sum_append, hx]
  simp
theorem flatT_take {ls : List Toks} {k : Nat} {x : Toks} (h : ls[k]? = some x) : (ls.take (k + 1)).flatten = (ls.take k).flatten ++ x := by
  obtain ⟨hk, hx⟩ := List.getElem?_eq_some_iff.1 h
  rw [List.take_succ_eq_append_getElem hk, List.flatten_append, hx]
  simp
theorem lenT_le (ls : List Toks) (k : Nat) : lenT (ls.take k) ≤ lenT ls := by
  unfold lenT
  conv => rhs; rw [← List.take_append_drop k ls, List.map_append, List.sum_append]
  omega
theorem flatT_len (ls : List Toks) : ls.flatten.length = lenT ls := by simp [lenT, List.length_flatten]
theorem ConcatT_ok (ls : List Toks) (hn : ls.length ≤ 1000000) (hs : lenT ls ≤ 1000000000) : FCall Tryz.prog E 106 [.sl 1 (ls.map fun l => [PV.sl 1 (strE l)])] tStr 1 (· = strE ls.flatten) := by
  unfold FCall
  refine gcallR mixed Tryz.func106 ck_slices_Concat_string_string ?_
  simp only [a0, l0, OS.ao, List.map_cons, List.map_nil, List.length_cons, List.length_nil, List.cons_append, List.nil_append, Nat.reduceSub, Nat.reduceAdd, List.replicate_succ, List.replicate_zero, ir_slices_Concat_string_string, rs_slices_Concat_string_string, ZZ, YY, Ze, ite_true, ite_false, forall_const, reduceCtorEq, Nat.reduceAdd, Nat.reduceMul, Nat.reduceLeDiff, Nat.reduceLT, Nat.reduceEqDiff]
  have hln : (ls.map fun l => [PV.sl 1 (strE l)]).length = ls.length := by simp
  have hget : ∀ k s, ls[k]? = some s → (ls.map fun l => [PV.sl 1 (strE l)]).getD k [] = [.sl 1 (strE s)] := fun k s hs => getD_map hs
  generalize (ls.map fun l => [PV.sl 1 (strE l)]) = es at hln hget ⊢
  simp only [hln]
  refine loop_intro (fun n fr L => ∃ (k : Nat), k ≤ ls.length ∧ n = ls.length - k ∧ fr = [.p (.sl 1 es), .any, .p (.nl 1), .p (int (lenT (ls.take k) : Nat)), .any, .any, .any, .any, .any, .p (.sl 1 es), .p (int (ls.length : Nat)), .p (int (k : Nat)), .any, .any, .any, .any, .any, .any, .any, .any, .any, .any, .any, .any, .any, .any, .any, .any, .any, .any, .any, .any, .any, .any, .any, .any] ∧ L = []) ls.length [.p (.sl 1 es), .any, .p (.nl 1), .p (int (0 : Nat)), .any, .any, .any, .any, .any, .p (.sl 1 es), .p (int (ls.length : Nat)), .p (int (0 : Nat)), .any, .any, .any, .any, .any, .any, .any, .any, .any, .any, .any, .any, .any, .any, .any, .any, .any, .any, .any, .any, .any, .any, .any, .any] [] (by (simp only [ZZ, YY, Ze, ite_true, ite_false, forall_const, reduceCtorEq, Nat.reduceAdd, Nat.reduceMul, Nat.reduceLeDiff, Nat.reduceLT, Nat.reduceEqDiff]; try trivial)) (by simp only [ZZ, YY, Ze, ite_true, ite_false, forall_const, reduceCtorEq, Nat.reduceAdd, Nat.reduceMul, Nat.reduceLeDiff, Nat.reduceLT, Nat.reduceEqDiff]) ⟨0, by omega, by omega, rfl, rfl⟩ ?_
  rintro n fr L ⟨k, hk, rfl, rfl, rfl⟩
  simp only [ir_slices_Concat_string_string_L0, ZZ, YY, Ze, ite_true, ite_false, forall_const, reduceCtorEq, Nat.reduceAdd, Nat.reduceMul, Nat.reduceLeDiff, Nat.reduceLT, Nat.reduceEqDiff]
  have hle := lenT_le ls k
  refine br ?_ ?_
  · intro h
    have hlt : k < ls.length := by have := of_decide_eq_true h; omega
    obtain ⟨s, hs⟩ : ∃ x, ls[k]? = some x := ⟨_, List.getElem?_eq_getElem hlt⟩
    have hg := hget k s hs
    have hnx := lenT_take hs
    have hle' := lenT_le ls (k + 1)
    simp only [ZZ, YY, Ze, ite_true, ite_false, forall_const, reduceCtorEq, Nat.reduceAdd, Nat.reduceMul, Nat.reduceLeDiff, Nat.reduceLT, Nat.reduceEqDiff, hg, strE_len, hln]
    ((repeat' (with_reducible apply And.intro)) <;> try ((first | first | assumption | trivial | exact (fun hq => by rw [hq]; rfl) | exact i64_of (by omega) (by omega) | omega | (simp; done) | (simp; omega) | (intro hsc; have hs0 := hsc; (try have hsd := of_decide_eq_true hsc); (try simp only [Bool.not_eq_true', Bool.or_eq_false_iff, Bool.and_eq_true, Bool.or_eq_true, decide_eq_true_eq, decide_eq_false_iff_not] at hsc); (repeat' (with_reducible apply And.intro)) <;> (first | assumption | trivial | exact (fun hq => by rw [hq]; rfl) | exact i64_of (by omega) (by omega) | omega | (simp; done) | (simp; omega) | (intro hse; simp [hse, hs0]; done) | (intro hse; simp only [hse, hs0, Bool.true_and, Bool.and_true, Bool.not_false, Bool.not_true, Bool.and_self]; done))))))
    refine br ?_ ?_
    · intro h2
      have := of_decide_eq_true h2
      omega
    · intro h2
      simp only [ZZ, YY, Ze, ite_true, ite_false, forall_const, reduceCtorEq, Nat.reduceAdd, Nat.reduceMul, Nat.reduceLeDiff, Nat.reduceLT, Nat.reduceEqDiff]
      refine cut_same (by simp only [ZZ, YY, Ze, ite_true, ite_false, forall_const, reduceCtorEq, Nat.reduceAdd, Nat.reduceMul, Nat.reduceLeDiff, Nat.reduceLT, Nat.reduceEqDiff]) ?_
      simp only [ZZ, YY, Ze, ite_true, ite_false, forall_const, reduceCtorEq, Nat.reduceAdd, Nat.reduceMul, Nat.reduceLeDiff, Nat.reduceLT, Nat.reduceEqDiff]
      refine ⟨i64_of (by omega) (by omega), ?_⟩
      refine end_round (ls.length - (k + 1)) [.p (.sl 1 es), .any, .p (.nl 1), .p (int (lenT (ls.take (k + 1)) : Nat)), .any, .any, .any, .any, .any, .p (.sl 1 es), .p (int (ls.length : Nat)), .p (int ((k + 1 : Nat) : Nat)), .any, .any, .any, .any, .any, .any, .any, .any, .any, .any, .any, .any, .any, .any, .any, .any, .any, .any, .any, .any, .any, .any, .any, .any] [] (by omega) (by rw [hnx]; simp only [Int.natCast_add, ZZ, YY, Ze, ite_true, ite_false, forall_const, reduceCtorEq, Nat.reduceAdd, Nat.reduceMul, Nat.reduceLeDiff, Nat.reduceLT, Nat.reduceEqDiff]; try trivial) (by simp only [ZZ, YY, Ze, ite_true, ite_false, forall_const, reduceCtorEq, Nat.reduceAdd, Nat.reduceMul, Nat.reduceLeDiff, Nat.reduceLT, Nat.reduceEqDiff]) ⟨k + 1, by omega, rfl, rfl, rfl⟩
  · intro h
    have hge : k = ls.length := by have := of_decide_eq_false h; omega
    subst hge
    rw [List.take_length]
    simp only [ZZ, YY, Ze, ite_true, ite_false, forall_const, reduceCtorEq, Nat.reduceAdd, Nat.reduceMul, Nat.reduceLeDiff, Nat.reduceLT, Nat.reduceEqDiff]
    refine useF0 (GrowT_ok (lenT ls) hs) rfl ?_
    rintro es' rfl
    simp only [ZZ, YY, Ze, ite_true, ite_false, forall_const, reduceCtorEq, Nat.reduceAdd, Nat.reduceMul, Nat.reduceLeDiff, Nat.reduceLT, Nat.reduceEqDiff, hln]
    refine loop_intro (fun n fr L => ∃ (k : Nat), k ≤ ls.length ∧ n = ls.length - k ∧ fr = [.p (.sl 1 es), .any, .p (.nl 1), .any, .any, .any, .row (.l 24), .any, .any, .any, .any, .any, .any, .any, .any, .any, .any, .any, .any, .any, .any, .any, .any, .any, .any, .p (.sl 1 es), .p (int (ls.length : Nat)), .p (int (k : Nat)), .any, .any, .any, .any, .any, .any, .any, .any] ∧ L = [(.l 24, .row (strE (ls.take k).flatten) tStr 1 true)]) ls.length [.p (.sl 1 es), .any, .p (.nl 1), .any, .any, .any, .row (.l 24), .any, .any, .any, .any, .any, .any, .any, .any, .any, .any, .any, .any, .any, .any, .any, .any, .any, .any, .p (.sl 1 es), .p (int (ls.length : Nat)), .p (int (0 : Nat)), .any, .any, .any, .any, .any, .any, .any, .any] [(.l 24, .row [] tStr 1 true)] (by (simp only [ZZ, YY, Ze, ite_true, ite_false, forall_const, reduceCtorEq, Nat.reduceAdd, Nat.reduceMul, Nat.reduceLeDiff, Nat.reduceLT, Nat.reduceEqDiff]; try trivial)) (by simp only [ZZ, YY, Ze, ite_true, ite_false, forall_const, reduceCtorEq, Nat.reduceAdd, Nat.reduceMul, Nat.reduceLeDiff, Nat.reduceLT, Nat.reduceEqDiff]) ⟨0, by omega, by omega, rfl, rfl⟩ ?_
    rintro n fr L ⟨k, hk, rfl, rfl, rfl⟩
    simp only [ir_slices_Concat_string_string_L1, ZZ, YY, Ze, ite_true, ite_false, forall_const, reduceCtorEq, Nat.reduceAdd, Nat.reduceMul, Nat.reduceLeDiff, Nat.reduceLT, Nat.reduceEqDiff]
    have hle := lenT_le ls k
    refine br ?_ ?_
    · intro h
      have hlt : k < ls.length := by have := of_decide_eq_true h; omega
      obtain ⟨s, hs⟩ : ∃ x, ls[k]? = some x := ⟨_, List.getElem?_eq_getElem hlt⟩
      have hg := hget k s hs
      have hnx := lenT_take hs
      have hfx := flatT_take hs
      have hle' := lenT_le ls (k + 1)
      have hfl : (strE (ls.take k).flatten).length = lenT (ls.take k) := by rw [strE_len, flatT_len]
      simp only [ZZ, YY, Ze, ite_true, ite_false, forall_const, reduceCtorEq, Nat.reduceAdd, Nat.reduceMul, Nat.reduceLeDiff, Nat.reduceLT, Nat.reduceEqDiff, hg, hln]
      simp only [hfl, strE_len]
      ((repeat' (with_reducible apply And.intro)) <;> try ((first | first | assumption | trivial | exact (fun hq => by rw [hq]; rfl) | exact i64_of (by omega) (by omega) | omega | (simp; done) | (simp; omega) | (intro hsc; have hs0 := hsc; (try have hsd := of_decide_eq_true hsc); (try simp only [Bool.not_eq_true', Bool.or_eq_false_iff, Bool.and_eq_true, Bool.or_eq_true, decide_eq_true_eq, decide_eq_false_iff_not] at hsc); (repeat' (with_reducible apply And.intro)) <;> (first | assumption | trivial | exact (fun hq => by rw [hq]; rfl) | exact i64_of (by omega) (by omega) | omega | (simp; done) | (simp; omega) | (intro hse; simp [hse, hs0]; done) | (intro hse; simp only [hse, hs0, Bool.true_and, Bool.and_true, Bool.not_false, Bool.not_true, Bool.and_self]; done))))))
      refine end_round (ls.length - (k + 1)) [.p (.sl 1 es), .any, .p (.nl 1), .any, .any, .any, .row (.l 24), .any, .any, .any, .any, .any, .any, .any, .any, .any, .any, .any, .any, .any, .any, .any, .any, .any, .any, .p (.sl 1 es), .p (int (ls.length : Nat)), .p (int ((k + 1 : Nat) : Nat)), .any, .any, .any, .any, .any, .any, .any, .any] [(.l 24, .row (strE (ls.take (k + 1)).flatten) tStr 1 true)] (by omega) (by (simp only [ZZ, YY, Ze, ite_true, ite_false, forall_const, reduceCtorEq, Nat.reduceAdd, Nat.reduceMul, Nat.reduceLeDiff, Nat.reduceLT, Nat.reduceEqDiff]; try trivial)) (by rw [hfx, strE_app]; simp only [ZZ, YY, Ze, ite_true, ite_false, forall_const, reduceCtorEq, Nat.reduceAdd, Nat.reduceMul, Nat.reduceLeDiff, Nat.reduceLT, Nat.reduceEqDiff]) ⟨k + 1, by omega, rfl, rfl, rfl⟩
    · intro h
      have hge : k = ls.length := by have := of_decide_eq_false h; omega
      subst hge
      rw [List.take_length]
      simp only [ZZ, YY, Ze, ite_true, ite_false, forall_const, reduceCtorEq, Nat.reduceAdd, Nat.reduceMul, Nat.reduceLeDiff, Nat.reduceLT, Nat.reduceEqDiff]
      exact fin_F 24 _ rfl rfl rfl
end
end Go.Proofs.YthfpehmbellmcaaGreatDoor

/- Changes put into a text, and those that lead back: the paper's side. -/
namespace Go.Proofs.YthfpehmbellmcaaGreatDoor
open Go.RowKit
set_option linter.unusedVariables false
set_option linter.unusedSimpArgs false
set_option linter.defProp false

/- paperchase/chaseref1.patched -/
def ir_chaseref1_patched_L1 : IC :=
  (.seq (.reg [⟨some 71, .bin .lss (.t 70) (.t 69), none⟩])
    (.seq (.cond (.t 71) .skip (.exit 3))
    (.seq (.block 4 (.seq (.reg [⟨some 72, .ixa 1 (.t 68) (.t 70), none⟩,
      ⟨some 73, .ld 1 false (.t 72), none⟩,
      ⟨some 15, .mov (.t 73), none⟩])
    (.seq (.reg [⟨some 74, .mov (.t 15), none⟩,
      ⟨some 75, .call 98 [.t 74], none⟩,
      ⟨some 76, .mov (.t 15), none⟩,
      ⟨some 77, .bsl 1 [.t 76], none⟩,
      ⟨some 78, .call 11 [.t 75, .t 77], none⟩,
      ⟨some 79, .not (.t 78), none⟩])
    (.cond (.t 79) (.seq (.reg [⟨some 4, .mov (.c (.str [])), none⟩,
      ⟨some 5, .mov (.c (.nl 3)), none⟩,
      ⟨some 6, .mov (.c (.int .i64 3)), none⟩])
    .ret) .skip))))
    (.reg [⟨some 80, .bin .add (.t 70) (.c (.int .i64 1)), none⟩,
      ⟨some 70, .mov (.t 80), none⟩]))))
def ir_chaseref1_patched_L0 : IC :=
  (.seq (.reg [⟨some 28, .bin .lss (.t 27) (.t 26), none⟩])
    (.seq (.cond (.t 28) .skip (.exit 0))
    (.seq (.block 1 (.seq (.reg [⟨some 29, .mov (.t 27), none⟩,
      ⟨some 30, .ixa 3 (.t 25) (.t 27), none⟩,
      ⟨some 31, .ld 3 true (.t 30), none⟩,
      ⟨some 13, .alc 76 [.int .i64 0, .nl 1, .nl 1], none⟩,
      ⟨some 12, .mov (.t 29), none⟩,
      ⟨none, .st 3 (.t 13) (.t 31), none⟩])
    (.seq (.block 2 (.seq (.reg [⟨some 33, .fla 0 (.t 13), none⟩,
      ⟨some 34, .ld 1 false (.t 33), none⟩,
      ⟨some 35, .bin .lss (.t 34) (.c (.int .i64 0)), none⟩,
      ⟨some 36, .mov (.t 35), none⟩,
      ⟨some 37, .fla 0 (.t 13), (some (36, false))⟩,
      ⟨some 38, .ld 1 false (.t 37), (some (36, false))⟩,
      ⟨some 39, .mov (.t 8), (some (36, false))⟩,
      ⟨some 40, .len (.t 39), (some (36, false))⟩,
      ⟨some 41, .bin .gtr (.t 38) (.t 40), (some (36, false))⟩,
      ⟨some 42, .pick (.t 36) (.c (.bool true)) (.t 41), none⟩,
      ⟨some 32, .mov (.t 42), none⟩])
    (.cond (.t 32) (.seq (.reg [⟨some 4, .mov (.c (.str [])), none⟩,
      ⟨some 5, .mov (.c (.nl 3)), none⟩,
      ⟨some 6, .mov (.c (.int .i64 1)), none⟩])
    .ret) (.seq (.reg [⟨some 44, .mov (.t 12), none⟩,
      ⟨some 45, .bin .gtr (.t 44) (.c (.int .i64 0)), none⟩,
      ⟨some 46, .mov (.t 45), none⟩,
      ⟨some 47, .fla 0 (.t 13), (some (46, true))⟩,
      ⟨some 48, .ld 1 false (.t 47), (some (46, true))⟩,
      ⟨some 49, .mov (.t 11), (some (46, true))⟩,
      ⟨some 50, .bin .leq (.t 48) (.t 49), (some (46, true))⟩,
      ⟨some 51, .pick (.t 46) (.t 50) (.c (.bool false)), none⟩,
      ⟨some 43, .mov (.t 51), none⟩])
    (.cond (.t 43) (.seq (.reg [⟨some 4, .mov (.c (.str [])), none⟩,
      ⟨some 5, .mov (.c (.nl 3)), none⟩,
      ⟨some 6, .mov (.c (.int .i64 7)), none⟩])
    .ret) (.seq (.reg [⟨some 53, .fla 1 (.t 13), none⟩,
      ⟨some 54, .ld 1 false (.t 53), none⟩,
      ⟨some 55, .len (.t 54), none⟩,
      ⟨some 56, .bin .eql (.t 55) (.c (.int .i64 0)), none⟩,
      ⟨some 57, .mov (.t 56), none⟩,
      ⟨some 58, .fla 2 (.t 13), (some (57, true))⟩,
      ⟨some 59, .ld 1 false (.t 58), (some (57, true))⟩,
      ⟨some 60, .len (.t 59), (some (57, true))⟩,
      ⟨some 61, .bin .eql (.t 60) (.c (.int .i64 0)), (some (57, true))⟩,
      ⟨some 62, .pick (.t 57) (.t 61) (.c (.bool false)), none⟩,
      ⟨some 52, .mov (.t 62), none⟩])
    (.cond (.t 52) (.seq (.reg [⟨some 4, .mov (.c (.str [])), none⟩,
      ⟨some 5, .mov (.c (.nl 3)), none⟩,
      ⟨some 6, .mov (.c (.int .i64 3)), none⟩])
    .ret) .skip)))))))
    (.seq (.seq (.reg [⟨some 63, .fla 1 (.t 13), none⟩,
      ⟨some 64, .ld 1 false (.t 63), none⟩,
      ⟨some 65, .fla 2 (.t 13), none⟩,
      ⟨some 66, .ld 1 false (.t 65), none⟩,
      ⟨some 67, .bsl 1 [.t 64, .t 66], none⟩,
      ⟨some 68, .call 106 [.t 67], none⟩,
      ⟨some 69, .len (.t 68), none⟩,
      ⟨some 70, .mov (.c (.int .i64 0)), none⟩])
    (.block 3 (.loop ir_chaseref1_patched_L1)))
    (.seq (.seq (.drg [⟨some 81, .fla 0 (.t 13), none⟩,
      ⟨some 82, .ld 1 false (.t 81), none⟩,
      ⟨some 83, .fla 1 (.t 13), none⟩,
      ⟨some 84, .ld 1 false (.t 83), none⟩,
      ⟨some 85, .len (.t 84), none⟩,
      ⟨some 86, .bin .add (.t 82) (.t 85), none⟩,
      ⟨some 87, .mov (.t 8), none⟩,
      ⟨some 88, .len (.t 87), none⟩,
      ⟨some 89, .bin .gtr (.t 86) (.t 88), none⟩,
      ⟨some 90, .mov (.t 89), none⟩,
      ⟨some 91, .mov (.t 8), (some (90, false))⟩,
      ⟨some 92, .fla 0 (.t 13), (some (90, false))⟩,
      ⟨some 93, .ld 1 false (.t 92), (some (90, false))⟩,
      ⟨some 94, .fla 0 (.t 13), (some (90, false))⟩,
      ⟨some 95, .ld 1 false (.t 94), (some (90, false))⟩,
      ⟨some 96, .fla 1 (.t 13), (some (90, false))⟩,
      ⟨some 97, .ld 1 false (.t 96), (some (90, false))⟩,
      ⟨some 98, .len (.t 97), (some (90, false))⟩,
      ⟨some 99, .bin .add (.t 95) (.t 98), (some (90, false))⟩,
      ⟨some 100, .vsl 1 (.t 91) (some (.t 93)) (some (.t 99)), (some (90, false))⟩,
      ⟨some 101, .fla 1 (.t 13), (some (90, false))⟩,
      ⟨some 102, .ld 1 false (.t 101), (some (90, false))⟩,
      ⟨some 103, .pcall 0 11 [.t 100, .t 102], (some (90, false))⟩,
      ⟨some 104, .not (.t 103), (some (90, false))⟩,
      ⟨some 105, .pick (.t 90) (.c (.bool true)) (.t 104), none⟩])
    (.cond (.t 105) (.seq (.reg [⟨some 4, .mov (.c (.str [])), none⟩,
      ⟨some 5, .mov (.c (.nl 3)), none⟩,
      ⟨some 6, .mov (.c (.int .i64 13)), none⟩])
    .ret) .skip))
    (.seq (.reg [⟨some 106, .mov (.t 9), none⟩,
      ⟨some 107, .mov (.t 8), none⟩,
      ⟨some 108, .mov (.t 11), none⟩,
      ⟨some 109, .fla 0 (.t 13), none⟩,
      ⟨some 110, .ld 1 false (.t 109), none⟩,
      ⟨some 111, .vsl 1 (.t 107) (some (.t 108)) (some (.t 110)), none⟩,
      ⟨some 112, .app 9 1 16 (.t 106) (.t 111), none⟩,
      ⟨some 9, .mov (.t 112), none⟩])
    (.seq (.drg [⟨none, .fz (.t 118), none⟩,
      ⟨none, .fz (.t 121), none⟩,
      ⟨some 113, .mov (.t 10), none⟩,
      ⟨some 114, .mov (.t 9), none⟩,
      ⟨some 115, .len (.t 114), none⟩,
      ⟨some 116, .fla 2 (.t 13), none⟩,
      ⟨some 117, .ld 1 false (.t 116), none⟩,
      ⟨some 118, .pcall 0 37 [.t 117], none⟩,
      ⟨some 119, .fla 1 (.t 13), none⟩,
      ⟨some 120, .ld 1 false (.t 119), none⟩,
      ⟨some 121, .pcall 1 37 [.t 120], none⟩,
      ⟨some 122, .bld [.int .i64 0, .nl 1, .nl 1] [(0, 1, .t 115), (1, 1, .t 118), (2, 1, .t 121)], none⟩,
      ⟨some 123, .bsl 3 [.t 122], none⟩,
      ⟨some 124, .app 76 3 56 (.t 113) (.t 123), none⟩,
      ⟨some 10, .mov (.t 124), none⟩])
    (.seq (.reg [⟨some 125, .mov (.t 9), none⟩,
      ⟨some 126, .fla 2 (.t 13), none⟩,
      ⟨some 127, .ld 1 false (.t 126), none⟩,
      ⟨some 128, .app 9 1 16 (.t 125) (.t 127), none⟩,
      ⟨some 9, .mov (.t 128), none⟩])
    (.reg [⟨some 129, .fla 0 (.t 13), none⟩,
      ⟨some 130, .ld 1 false (.t 129), none⟩,
      ⟨some 131, .fla 1 (.t 13), none⟩,
      ⟨some 132, .ld 1 false (.t 131), none⟩,
      ⟨some 133, .len (.t 132), none⟩,
      ⟨some 134, .bin .add (.t 130) (.t 133), none⟩,
      ⟨some 11, .mov (.t 134), none⟩])))))))))
    (.reg [⟨some 135, .bin .add (.t 27) (.c (.int .i64 1)), none⟩,
      ⟨some 27, .mov (.t 135), none⟩]))))
def ir_chaseref1_patched : IC :=
  (.seq (.reg [⟨some 4, .mov (.c (.str [])), none⟩,
      ⟨some 5, .mov (.c (.nl 3)), none⟩,
      ⟨some 6, .mov (.c (.int .i64 0)), none⟩])
    (.seq (.seq (.reg [⟨some 17, .mov (.t 0), none⟩,
      ⟨some 18, .bsl 1 [.t 17], none⟩,
      ⟨some 19, .call 105 [.t 18], none⟩,
      ⟨some 7, .mov (.t 19), none⟩])
    (.seq (.reg [⟨some 20, .mov (.t 7), none⟩,
      ⟨some 21, .bin .neq (.t 20) (.c (.int .i64 0)), none⟩])
    (.cond (.t 21) (.seq (.reg [⟨some 22, .mov (.t 7), none⟩,
      ⟨some 4, .mov (.c (.str [])), none⟩,
      ⟨some 5, .mov (.c (.nl 3)), none⟩,
      ⟨some 6, .mov (.t 22), none⟩])
    .ret) .skip)))
    (.seq (.reg [⟨some 23, .mov (.t 0), none⟩,
      ⟨some 24, .call 98 [.t 23], none⟩,
      ⟨some 8, .mov (.t 24), none⟩])
    (.seq (.reg [⟨some 9, .nilr 9 1, none⟩])
    (.seq (.reg [⟨some 10, .nilr 76 3, none⟩])
    (.seq (.reg [⟨some 11, .mov (.c (.int .i64 0)), none⟩])
    (.seq (.seq (.reg [⟨some 25, .mov (.t 1), none⟩,
      ⟨some 26, .len (.t 25), none⟩,
      ⟨some 27, .mov (.c (.int .i64 0)), none⟩])
    (.block 0 (.loop ir_chaseref1_patched_L0)))
    (.seq (.reg [⟨some 136, .mov (.t 9), none⟩,
      ⟨some 137, .mov (.t 8), none⟩,
      ⟨some 138, .mov (.t 11), none⟩,
      ⟨some 139, .vsl 1 (.t 137) (some (.t 138)) none, none⟩,
      ⟨some 140, .app 9 1 16 (.t 136) (.t 139), none⟩,
      ⟨some 141, .call 107 [.t 140], none⟩,
      ⟨some 16, .mov (.t 141), none⟩])
    (.seq (.seq (.reg [⟨some 142, .mov (.t 16), none⟩,
      ⟨some 143, .sln (.t 142), none⟩,
      ⟨some 144, .bin .gtr (.t 143) (.c (.int .i64 20000)), none⟩])
    (.cond (.t 144) (.seq (.reg [⟨some 4, .mov (.c (.str [])), none⟩,
      ⟨some 5, .mov (.c (.nl 3)), none⟩,
      ⟨some 6, .mov (.c (.int .i64 2)), none⟩])
    .ret) .skip))
    (.seq (.reg [⟨some 145, .mov (.t 16), none⟩,
      ⟨some 146, .mov (.t 10), none⟩,
      ⟨some 4, .mov (.t 145), none⟩,
      ⟨some 5, .mov (.t 146), none⟩,
      ⟨some 6, .mov (.c (.int .i64 0)), none⟩])
    .ret))))))))))
def rs_chaseref1_patched : List IRes := [.t 4, .t 5, .t 6]
theorem ck_chaseref1_patched : chkF Tryz.prog Tryz.f51 ir_chaseref1_patched rs_chaseref1_patched 147 = true := by kernel_rfl
/- paperchase/chaseref1.PatchOf -/
def ir_chaseref1_PatchOf : IC :=
  (.seq (.reg [⟨some 4, .mov (.c (.str [])), none⟩,
      ⟨some 5, .mov (.c (.int .i64 0)), none⟩])
    (.seq (.reg [⟨some 10, .mov (.t 0), none⟩,
      ⟨some 11, .mov (.t 1), none⟩,
      ⟨some 12, .call 51 [.t 10, .t 11], none⟩,
      ⟨some 9, .mov (.t 12), none⟩,
      ⟨some 13, .ext 0 (.t 9), none⟩,
      ⟨some 14, .ext 1 (.t 9), none⟩,
      ⟨some 15, .ext 2 (.t 9), none⟩,
      ⟨some 6, .mov (.t 13), none⟩,
      ⟨some 7, .mov (.t 14), none⟩,
      ⟨some 8, .mov (.t 15), none⟩])
    (.seq (.reg [⟨some 16, .mov (.t 6), none⟩,
      ⟨some 17, .mov (.t 8), none⟩,
      ⟨some 4, .mov (.t 16), none⟩,
      ⟨some 5, .mov (.t 17), none⟩])
    .ret)))
def rs_chaseref1_PatchOf : List IRes := [.t 4, .t 5]
theorem ck_chaseref1_PatchOf : chkF Tryz.prog Tryz.f19 ir_chaseref1_PatchOf rs_chaseref1_PatchOf 18 = true := by kernel_rfl
/- paperchase/chaseref1.TurnOf -/
def ir_chaseref1_TurnOf : IC :=
  (.seq (.reg [⟨some 4, .mov (.c (.nl 3)), none⟩,
      ⟨some 5, .mov (.c (.int .i64 0)), none⟩])
    (.seq (.reg [⟨some 10, .mov (.t 0), none⟩,
      ⟨some 11, .mov (.t 1), none⟩,
      ⟨some 12, .call 51 [.t 10, .t 11], none⟩,
      ⟨some 9, .mov (.t 12), none⟩,
      ⟨some 13, .ext 0 (.t 9), none⟩,
      ⟨some 14, .ext 1 (.t 9), none⟩,
      ⟨some 15, .ext 2 (.t 9), none⟩,
      ⟨some 6, .mov (.t 13), none⟩,
      ⟨some 7, .mov (.t 14), none⟩,
      ⟨some 8, .mov (.t 15), none⟩])
    (.seq (.reg [⟨some 16, .mov (.t 7), none⟩,
      ⟨some 17, .mov (.t 8), none⟩,
      ⟨some 4, .mov (.t 16), none⟩,
      ⟨some 5, .mov (.t 17), none⟩])
    .ret)))
def rs_chaseref1_TurnOf : List IRes := [.t 4, .t 5]
theorem ck_chaseref1_TurnOf : chkF Tryz.prog Tryz.f20 ir_chaseref1_TurnOf rs_chaseref1_TurnOf 18 = true := by kernel_rfl

set_option maxHeartbeats 8000000 in
set_option maxRecDepth 100000 in
theorem patchedOf_ok (s : List UInt8) (l : List ChI) (hs : s.length ≤ 1000000) (hl : ChB l) : PCall Tryz.prog E0 51 [.str s, .sl 3 (ciE l)] (fun r => ∃ bk : List Chg, r = .tup [.str (if pE s l = 0 then jnF (paT (tokF s) l 0 []) else []), .sl 3 (chE bk), int (pE s l)] ∧ (pE s l = 0 → chE bk = ciE (baT l 0)) ∧ (¬ pE s l = 0 → bk = []) ∧ bk.length ≤ 2000 ∧ ∀ c ∈ bk, c.2.1.length ≤ 100000 ∧ c.2.2.length ≤ 100000) := by
  refine pcallF mixed Tryz.func51 ck_chaseref1_patched ?_
  simp only [a0, l0, OS.ao, List.map_cons, List.map_nil, List.length_cons, List.length_nil, List.cons_append, List.nil_append, Nat.reduceSub, Nat.reduceAdd, List.replicate_succ, List.replicate_zero, ir_chaseref1_patched, rs_chaseref1_patched, ZZ, YY, Ze, ite_true, ite_false, forall_const, reduceCtorEq, Nat.reduceAdd, Nat.reduceMul, Nat.reduceLeDiff, Nat.reduceLT, Nat.reduceEqDiff]
  have hq1 : ([[PV.str s]] : List (List PV)) = strE [s] := rfl
  have htf : (if [s].any badT then 2 else 0 : Int) = eTok s := by simp [eTok]
  simp only [ZZ, YY, Ze, ite_true, ite_false, forall_const, reduceCtorEq, Nat.reduceAdd, Nat.reduceMul, Nat.reduceLeDiff, Nat.reduceLT, Nat.reduceEqDiff, hq1]
  refine use1 (TokensFault_ok [s] (by simp) (by simp; omega)) rfl (.inl rfl) ?_
  rw [htf]
  simp only [ZZ, YY, Ze, ite_true, ite_false, forall_const, reduceCtorEq, Nat.reduceAdd, Nat.reduceMul, Nat.reduceLeDiff, Nat.reduceLT, Nat.reduceEqDiff]
  by_cases h0 : eTok s = 0
  rotate_left
  · have hd : decide (eTok s = 0) = false := decide_eq_false h0
    simp only [ZZ, YY, Ze, ite_true, ite_false, forall_const, reduceCtorEq, Nat.reduceAdd, Nat.reduceMul, Nat.reduceLeDiff, Nat.reduceLT, Nat.reduceEqDiff, hd]
    have hp : pE s l = eTok s := by rw [pE, if_neg h0]
    have hn : ¬ pE s l = 0 := by rw [hp]; exact h0
    exact ⟨[], by rw [if_neg hn, hp]; rfl, fun h => absurd h hn, fun _ => rfl, by simp, by simp⟩
  have hd : decide (eTok s = 0) = true := decide_eq_true h0
  obtain ⟨s1, s2⟩ := eTok_zero h0
  have hw0 := tokF_wgt s
  have hp : pE s l = if paE (tokF s) l true 0 = 0 then if 20000 < (jnF (paT (tokF s) l 0 [])).length then 2 else 0 else paE (tokF s) l true 0 := by rw [pE, if_pos h0]
  rw [hp]
  clear hp htf
  obtain ⟨l1, l2⟩ := hl
  have hA := addW_le ⟨l1, l2⟩
  simp only [ZZ, YY, Ze, ite_true, ite_false, forall_const, reduceCtorEq, Nat.reduceAdd, Nat.reduceMul, Nat.reduceLeDiff, Nat.reduceLT, Nat.reduceEqDiff, hd]
  refine use1 (plainR (TokensOf_ok s (by omega))) rfl (.inl rfl) ?_
  generalize tokF s = x at *
  simp only [ZZ, YY, Ze, ite_true, ite_false, forall_const, reduceCtorEq, Nat.reduceAdd, Nat.reduceMul, Nat.reduceLeDiff, Nat.reduceLT, Nat.reduceEqDiff, ciE_len]
  have hce0 : ciE (baT l 0) = chE [] ++ ciE (baT (l.drop 0) 0) := rfl
  refine loop_intro (fun n fr L => ∃ (k : Nat) (p : Nat) (m0 : Int) (out : Toks) (bk : List Chg), k ≤ l.length ∧ n = l.length - k ∧ (paE x l true 0 = paE x (l.drop k) (decide (k = 0)) p) ∧ (paT x l 0 [] = paT x (l.drop k) p out) ∧ (p ≤ x.length) ∧ (k = 0 → p = 0) ∧ (wgt out + wgt (x.drop p) + addW (l.drop k) ≤ 300000000) ∧ (ciE (baT l 0) = chE bk ++ ciE (baT (l.drop k) m0)) ∧ ((out.length : Int) = p + m0) ∧ (bk.length ≤ k) ∧ (∀ c ∈ bk, c.2.1.length ≤ 100000 ∧ c.2.2.length ≤ 100000) ∧ fr = [.p (.str s), .p (.sl 3 (ciE l)), .any, .any, .any, .any, .any, .any, .p (.sl 1 (strE x)), .row (.l 9), .row (.l 10), .p (int (p : Nat)), .any, .any, .any, .any, .any, .any, .any, .any, .any, .any, .any, .any, .any, .p (.sl 3 (ciE l)), .p (int (l.length : Nat)), .p (int (k : Nat)), .any, .any, .any, .any, .any, .any, .any, .any, .any, .any, .any, .any, .any, .any, .any, .any, .any, .any, .any, .any, .any, .any, .any, .any, .any, .any, .any, .any, .any, .any, .any, .any, .any, .any, .any, .any, .any, .any, .any, .any, .any, .any, .any, .any, .any, .any, .any, .any, .any, .any, .any, .any, .any, .any, .any, .any, .any, .any, .any, .any, .any, .any, .any, .any, .any, .any, .any, .any, .any, .any, .any, .any, .any, .any, .any, .any, .any, .any, .any, .any, .any, .any, .any, .any, .any, .any, .any, .any, .any, .any, .any, .any, .any, .any, .any, .any, .any, .any, .any, .any, .any, .any, .any, .any, .any, .any, .any, .any, .any, .any, .any, .any, .any, .any, .any, .any, .any, .any, .any] ∧ L = [(.l 9, .row (strE out) tStr 1 true), (.l 10, .row (chE bk) tCh 3 true)]) (l.length) [.p (.str s), .p (.sl 3 (ciE l)), .any, .any, .any, .any, .any, .any, .p (.sl 1 (strE x)), .row (.l 9), .row (.l 10), .p (int (0 : Nat)), .any, .any, .any, .any, .any, .any, .any, .any, .any, .any, .any, .any, .any, .p (.sl 3 (ciE l)), .p (int (l.length : Nat)), .p (int (0 : Nat)), .any, .any, .any, .any, .any, .any, .any, .any, .any, .any, .any, .any, .any, .any, .any, .any, .any, .any, .any, .any, .any, .any, .any, .any, .any, .any, .any, .any, .any, .any, .any, .any, .any, .any, .any, .any, .any, .any, .any, .any, .any, .any, .any, .any, .any, .any, .any, .any, .any, .any, .any, .any, .any, .any, .any, .any, .any, .any, .any, .any, .any, .any, .any, .any, .any, .any, .any, .any, .any, .any, .any, .any, .any, .any, .any, .any, .any, .any, .any, .any, .any, .any, .any, .any, .any, .any, .any, .any, .any, .any, .any, .any, .any, .any, .any, .any, .any, .any, .any, .any, .any, .any, .any, .any, .any, .any, .any, .any, .any, .any, .any, .any, .any, .any, .any, .any, .any, .any, .any] [(.l 9, .row (strE []) tStr 1 true), (.l 10, .row (chE []) tCh 3 true)] (by simp only [ZZ, YY, Ze, ite_true, ite_false, forall_const, reduceCtorEq, Nat.reduceAdd, Nat.reduceMul, Nat.reduceLeDiff, Nat.reduceLT, Nat.reduceEqDiff, ciE_len]; try trivial) (by (simp only [ZZ, YY, Ze, ite_true, ite_false, forall_const, reduceCtorEq, Nat.reduceAdd, Nat.reduceMul, Nat.reduceLeDiff, Nat.reduceLT, Nat.reduceEqDiff]; try trivial)) ⟨0, 0, 0, [], [], by omega, by omega, by simp, by simp, by omega, by intro _; rfl, by simp [wgt]; omega, hce0, by simp, by simp, by simp, rfl, rfl⟩ ?_
  rintro n fr L ⟨k, p, m0, out, bk, hk, rfl, hE, hT, hpx, hp0, hw, hB, hm, hbl, hbb, rfl, rfl⟩
  simp only [ir_chaseref1_patched_L0, ZZ, YY, Ze, ite_true, ite_false, forall_const, reduceCtorEq, Nat.reduceAdd, Nat.reduceMul, Nat.reduceLeDiff, Nat.reduceLT, Nat.reduceEqDiff]
  have hap : ∀ a b : Toks, strE a ++ strE b = strE (a ++ b) := fun a b => (strE_app a b).symm
  have wlo := wgt_len out
  refine br ?_ ?_
  · intro h
    have hlt : k < l.length := by have := of_decide_eq_true h; omega
    obtain ⟨c, hc⟩ : ∃ c, l[k]? = some c := ⟨_, List.getElem?_eq_getElem hlt⟩
    have hg := ciE_get hc
    obtain ⟨c1, c2, c3, c4⟩ := l2 c (List.mem_of_getElem? hc)
    obtain ⟨at_, dr, ad⟩ := c
    simp only at hg c1 c2 c3 c4
    have w1 := wgt_len dr
    have w2 := wgt_len ad
    rw [dropL_cons hc] at hE hT hw hB
    rw [addW_cons] at hw
    rw [paE] at hE
    rw [paT] at hT
    rw [baT] at hB
    simp only at hE hT hw hB
    simp only [ZZ, YY, Ze, ite_true, ite_false, forall_const, reduceCtorEq, Nat.reduceAdd, Nat.reduceMul, Nat.reduceLeDiff, Nat.reduceLT, Nat.reduceEqDiff, hg, ciE_len, strE_len]
    ((repeat' (with_reducible apply And.intro)) <;> try ((first | first | assumption | trivial | exact (fun hq => by rw [hq]; rfl) | exact i64_of (by omega) (by omega) | omega | (simp; done) | (simp; omega) | (intro hsc; have hs0 := hsc; (try have hsd := of_decide_eq_true hsc); (try simp only [Bool.not_eq_true', Bool.or_eq_false_iff, Bool.and_eq_true, Bool.or_eq_true, decide_eq_true_eq, decide_eq_false_iff_not] at hsc); (repeat' (with_reducible apply And.intro)) <;> (first | assumption | trivial | exact (fun hq => by rw [hq]; rfl) | exact i64_of (by omega) (by omega) | omega | (simp; done) | (simp; omega) | (intro hse; simp [hse, hs0]; done) | (intro hse; simp only [hse, hs0, Bool.true_and, Bool.and_true, Bool.not_false, Bool.not_true, Bool.and_self]; done))))))
    have hin1 : (decide (at_ < 0) || decide (((x.length : Nat) : Int) < at_)) = !inE at_ 0 (x.length : Nat) := by
      rw [Bool.eq_iff_iff]
      simp only [inE, Bool.or_eq_true, decide_eq_true_eq, Bool.not_eq_true', Bool.and_eq_false_iff, decide_eq_false_iff_not]
      omega
    rw [hin1]
    refine br ?_ ?_
    · intro hx
      have hx : inE at_ 0 (x.length : Nat) = false := by simpa using hx
      have hst : stE x (decide (k = 0)) p (at_, dr, ad) = 1 := by rw [stE, if_pos hx]
      rw [hst, if_neg (by decide)] at hE
      rw [hE]
      simp only [show ((1 : Int) = 0) = False from by decide, show ((7 : Int) = 0) = False from by decide, show ((3 : Int) = 0) = False from by decide, show ((13 : Int) = 0) = False from by decide, show ((2 : Int) = 0) = False from by decide, if_false]
      simp only [ZZ, YY, Ze, ite_true, ite_false, forall_const, reduceCtorEq, Nat.reduceAdd, Nat.reduceMul, Nat.reduceLeDiff, Nat.reduceLT, Nat.reduceEqDiff]
      exact ⟨[], rfl, fun h => h.elim, rfl, by simp, by simp⟩
    intro hx
    have hx : inE at_ 0 (x.length : Nat) = true := by simpa using hx
    have hx2 := hx
    simp only [inE, Bool.and_eq_true, decide_eq_true_eq] at hx2
    obtain ⟨i, rfl⟩ := Int.eq_ofNat_of_zero_le hx2.1
    have hi : i ≤ x.length := by omega
    rw [Int.toNat_natCast] at hE hT
    simp only [ZZ, YY, Ze, ite_true, ite_false, forall_const, reduceCtorEq, Nat.reduceAdd, Nat.reduceMul, Nat.reduceLeDiff, Nat.reduceLT, Nat.reduceEqDiff]
    ((repeat' (with_reducible apply And.intro)) <;> try ((first | first | assumption | trivial | exact (fun hq => by rw [hq]; rfl) | exact i64_of (by omega) (by omega) | omega | (simp; done) | (simp; omega) | (intro hsc; have hs0 := hsc; (try have hsd := of_decide_eq_true hsc); (try simp only [Bool.not_eq_true', Bool.or_eq_false_iff, Bool.and_eq_true, Bool.or_eq_true, decide_eq_true_eq, decide_eq_false_iff_not] at hsc); (repeat' (with_reducible apply And.intro)) <;> (first | assumption | trivial | exact (fun hq => by rw [hq]; rfl) | exact i64_of (by omega) (by omega) | omega | (simp; done) | (simp; omega) | (intro hse; simp [hse, hs0]; done) | (intro hse; simp only [hse, hs0, Bool.true_and, Bool.and_true, Bool.not_false, Bool.not_true, Bool.and_self]; done))))))
    refine br ?_ ?_
    · intro ho
      have ho : (0 : Int) < (k : Nat) ∧ ((i : Nat) : Int) ≤ (p : Nat) := by simpa using ho
      have hk0 : decide (k = 0) = false := decide_eq_false (by omega)
      have hst : stE x (decide (k = 0)) p ((i : Int), dr, ad) = 7 := by rw [stE, if_neg (by rw [hx]; simp), if_pos ⟨hk0, ho.2⟩]
      rw [hst, if_neg (by decide)] at hE
      rw [hE]
      simp only [show ((1 : Int) = 0) = False from by decide, show ((7 : Int) = 0) = False from by decide, show ((3 : Int) = 0) = False from by decide, show ((13 : Int) = 0) = False from by decide, show ((2 : Int) = 0) = False from by decide, if_false]
      simp only [ZZ, YY, Ze, ite_true, ite_false, forall_const, reduceCtorEq, Nat.reduceAdd, Nat.reduceMul, Nat.reduceLeDiff, Nat.reduceLT, Nat.reduceEqDiff]
      exact ⟨[], rfl, fun h => h.elim, rfl, by simp, by simp⟩
    intro ho
    have ho : ¬ (decide (k = 0) = false ∧ ((i : Nat) : Int) ≤ (p : Nat)) := by
      rintro ⟨h1, h2⟩
      have h1 : ¬ k = 0 := of_decide_eq_false h1
      have : (decide ((0 : Int) < (k : Nat)) && decide (((i : Nat) : Int) ≤ (p : Nat))) = true := by
        rw [Bool.and_eq_true, decide_eq_true_iff, decide_eq_true_iff]; exact ⟨by omega, h2⟩
      rw [this] at ho; cases ho
    have hpi : p ≤ i := by
      by_cases hk1 : k = 0
      · have := hp0 hk1; omega
      · have : ¬ ((i : Nat) : Int) ≤ (p : Nat) := fun e => ho ⟨decide_eq_false hk1, e⟩
        omega
    have hs3 : (dr = [] ∧ ad = []) ∨ (dr ++ ad).any (fun s => !isTok s) = true → stE x (decide (k = 0)) p ((i : Int), dr, ad) = 3 := fun hf => by rw [stE, if_neg (by rw [hx]; simp), if_neg ho, if_pos hf]
    simp only [ZZ, YY, Ze, ite_true, ite_false, forall_const, reduceCtorEq, Nat.reduceAdd, Nat.reduceMul, Nat.reduceLeDiff, Nat.reduceLT, Nat.reduceEqDiff, strE_len]
    ((repeat' (with_reducible apply And.intro)) <;> try ((first | first | assumption | trivial | exact (fun hq => by rw [hq]; rfl) | exact i64_of (by omega) (by omega) | omega | (simp; done) | (simp; omega) | (intro hsc; have hs0 := hsc; (try have hsd := of_decide_eq_true hsc); (try simp only [Bool.not_eq_true', Bool.or_eq_false_iff, Bool.and_eq_true, Bool.or_eq_true, decide_eq_true_eq, decide_eq_false_iff_not] at hsc); (repeat' (with_reducible apply And.intro)) <;> (first | assumption | trivial | exact (fun hq => by rw [hq]; rfl) | exact i64_of (by omega) (by omega) | omega | (simp; done) | (simp; omega) | (intro hse; simp [hse, hs0]; done) | (intro hse; simp only [hse, hs0, Bool.true_and, Bool.and_true, Bool.not_false, Bool.not_true, Bool.and_self]; done))))))
    have hB0 : (decide (((dr.length : Nat) : Int) = 0) && decide (((ad.length : Nat) : Int) = 0)) = decide (dr = [] ∧ ad = []) := by
      rw [Bool.eq_iff_iff]
      simp only [Bool.and_eq_true, decide_eq_true_eq, Int.natCast_eq_zero, List.length_eq_zero_iff]
    rw [hB0]
    refine br ?_ ?_
    · intro hf
      rw [hs3 (.inl (of_decide_eq_true hf)), if_neg (by decide)] at hE
      rw [hE]
      simp only [show ((1 : Int) = 0) = False from by decide, show ((7 : Int) = 0) = False from by decide, show ((3 : Int) = 0) = False from by decide, show ((13 : Int) = 0) = False from by decide, show ((2 : Int) = 0) = False from by decide, if_false]
      simp only [ZZ, YY, Ze, ite_true, ite_false, forall_const, reduceCtorEq, Nat.reduceAdd, Nat.reduceMul, Nat.reduceLeDiff, Nat.reduceLT, Nat.reduceEqDiff]
      exact ⟨[], rfl, fun h => h.elim, rfl, by simp, by simp⟩
    intro hf0
    have hf0 := of_decide_eq_false hf0
    have hcc : [dr, ad].map (fun l => [PV.sl 1 (strE l)]) = [[.sl 1 (strE dr)], [.sl 1 (strE ad)]] := rfl
    simp only [ZZ, YY, Ze, ite_true, ite_false, forall_const, reduceCtorEq, Nat.reduceAdd, Nat.reduceMul, Nat.reduceLeDiff, Nat.reduceLT, Nat.reduceEqDiff]
    refine use1 (plainR (ConcatT_ok [dr, ad] (by simp) (by simp [lenT]; omega))) rfl (.inl rfl) ?_
    have hfl : [dr, ad].flatten = dr ++ ad := by simp
    rw [hfl]
    have hwl : (dr ++ ad).length ≤ 200000 := by rw [List.length_append]; omega
    have hwm : ∀ x ∈ dr ++ ad, x.length ≤ 100000 := fun x hx => by
      rcases List.mem_append.1 hx with hx | hx
      · have := wgt_mem hx; omega
      · have := wgt_mem hx; omega
    simp only [ZZ, YY, Ze, ite_true, ite_false, forall_const, reduceCtorEq, Nat.reduceAdd, Nat.reduceMul, Nat.reduceLeDiff, Nat.reduceLT, Nat.reduceEqDiff, strE_len]
    refine loop_intro (fun n fr L => ∃ (j : Nat), j ≤ (dr ++ ad).length ∧ n = (dr ++ ad).length - j ∧ ((dr ++ ad).any (fun s => !isTok s) = ((dr ++ ad).drop j).any (fun s => !isTok s)) ∧ fr = [.p (.str s), .p (.sl 3 (ciE l)), .any, .any, .any, .any, .any, .any, .p (.sl 1 (strE x)), .row (.l 9), .row (.l 10), .p (int (p : Nat)), .any, .adr (.l 13) 0, .any, .any, .any, .any, .any, .any, .any, .any, .any, .any, .any, .p (.sl 3 (ciE l)), .p (int (l.length : Nat)), .p (int (k : Nat)), .any, .any, .any, .any, .any, .any, .any, .any, .any, .any, .any, .any, .any, .any, .any, .any, .any, .any, .any, .any, .any, .any, .any, .any, .any, .any, .any, .any, .any, .any, .any, .any, .any, .any, .any, .any, .any, .any, .any, .any, .p (.sl 1 (strE (dr ++ ad))), .p (int ((dr ++ ad).length : Nat)), .p (int (j : Nat)), .any, .any, .any, .any, .any, .any, .any, .any, .any, .any, .any, .any, .any, .any, .any, .any, .any, .any, .any, .any, .any, .any, .any, .any, .any, .any, .any, .any, .any, .any, .any, .any, .any, .any, .any, .any, .any, .any, .any, .any, .any, .any, .any, .any, .any, .any, .any, .any, .any, .any, .any, .any, .any, .any, .any, .any, .any, .any, .any, .any, .any, .any, .any, .any, .any, .any, .any, .any, .any, .any, .any, .any, .any, .any, .any, .any] ∧ L = [(.l 9, .row (strE out) tStr 1 true), (.l 10, .row (chE bk) tCh 3 true), (.l 13, .box [.p (int (i : Nat)), .p (.sl 1 (strE dr)), .p (.sl 1 (strE ad))] tCh)]) ((dr ++ ad).length) [.p (.str s), .p (.sl 3 (ciE l)), .any, .any, .any, .any, .any, .any, .p (.sl 1 (strE x)), .row (.l 9), .row (.l 10), .p (int (p : Nat)), .any, .adr (.l 13) 0, .any, .any, .any, .any, .any, .any, .any, .any, .any, .any, .any, .p (.sl 3 (ciE l)), .p (int (l.length : Nat)), .p (int (k : Nat)), .any, .any, .any, .any, .any, .any, .any, .any, .any, .any, .any, .any, .any, .any, .any, .any, .any, .any, .any, .any, .any, .any, .any, .any, .any, .any, .any, .any, .any, .any, .any, .any, .any, .any, .any, .any, .any, .any, .any, .any, .p (.sl 1 (strE (dr ++ ad))), .p (int ((dr ++ ad).length : Nat)), .p (int (0 : Nat)), .any, .any, .any, .any, .any, .any, .any, .any, .any, .any, .any, .any, .any, .any, .any, .any, .any, .any, .any, .any, .any, .any, .any, .any, .any, .any, .any, .any, .any, .any, .any, .any, .any, .any, .any, .any, .any, .any, .any, .any, .any, .any, .any, .any, .any, .any, .any, .any, .any, .any, .any, .any, .any, .any, .any, .any, .any, .any, .any, .any, .any, .any, .any, .any, .any, .any, .any, .any, .any, .any, .any, .any, .any, .any, .any, .any] [(.l 9, .row (strE out) tStr 1 true), (.l 10, .row (chE bk) tCh 3 true), (.l 13, .box [.p (int (i : Nat)), .p (.sl 1 (strE dr)), .p (.sl 1 (strE ad))] tCh)] (by simp only [ZZ, YY, Ze, ite_true, ite_false, forall_const, reduceCtorEq, Nat.reduceAdd, Nat.reduceMul, Nat.reduceLeDiff, Nat.reduceLT, Nat.reduceEqDiff, strE_len]; try trivial) (by (simp only [ZZ, YY, Ze, ite_true, ite_false, forall_const, reduceCtorEq, Nat.reduceAdd, Nat.reduceMul, Nat.reduceLeDiff, Nat.reduceLT, Nat.reduceEqDiff]; try trivial)) ⟨0, by omega, by omega, by simp, rfl, rfl⟩ ?_
    rintro n fr L ⟨j, hj, rfl, hq, rfl, rfl⟩
    simp only [ir_chaseref1_patched_L1, ZZ, YY, Ze, ite_true, ite_false, forall_const, reduceCtorEq, Nat.reduceAdd, Nat.reduceMul, Nat.reduceLeDiff, Nat.reduceLT, Nat.reduceEqDiff]
    refine br ?_ ?_
    · intro h
      have hjl : j < (dr ++ ad).length := by have := of_decide_eq_true h; omega
      obtain ⟨y, hy⟩ : ∃ y, (dr ++ ad)[j]? = some y := ⟨_, List.getElem?_eq_getElem hjl⟩
      have hgy := strE_get hy
      rw [dropL_cons hy, List.any_cons, ← tok_one] at hq
      have hyl := hwm y (List.mem_of_getElem? hy)
      simp only [ZZ, YY, Ze, ite_true, ite_false, forall_const, reduceCtorEq, Nat.reduceAdd, Nat.reduceMul, Nat.reduceLeDiff, Nat.reduceLT, Nat.reduceEqDiff, hgy, strE_len]
      ((repeat' (with_reducible apply And.intro)) <;> try ((first | first | assumption | trivial | exact (fun hq => by rw [hq]; rfl) | exact i64_of (by omega) (by omega) | omega | (simp; done) | (simp; omega) | (intro hsc; have hs0 := hsc; (try have hsd := of_decide_eq_true hsc); (try simp only [Bool.not_eq_true', Bool.or_eq_false_iff, Bool.and_eq_true, Bool.or_eq_true, decide_eq_true_eq, decide_eq_false_iff_not] at hsc); (repeat' (with_reducible apply And.intro)) <;> (first | assumption | trivial | exact (fun hq => by rw [hq]; rfl) | exact i64_of (by omega) (by omega) | omega | (simp; done) | (simp; omega) | (intro hse; simp [hse, hs0]; done) | (intro hse; simp only [hse, hs0, Bool.true_and, Bool.and_true, Bool.not_false, Bool.not_true, Bool.and_self]; done))))))
      refine use1 (plainR (TokensOf_ok y (by omega))) rfl (.inl rfl) ?_
      have hty := tokF_len y
      simp only [ZZ, YY, Ze, ite_true, ite_false, forall_const, reduceCtorEq, Nat.reduceAdd, Nat.reduceMul, Nat.reduceLeDiff, Nat.reduceLT, Nat.reduceEqDiff]
      refine use1 (EqualT_ok (tokF y) [y] (by omega)) rfl (.inl rfl) ?_
      simp only [ZZ, YY, Ze, ite_true, ite_false, forall_const, reduceCtorEq, Nat.reduceAdd, Nat.reduceMul, Nat.reduceLeDiff, Nat.reduceLT, Nat.reduceEqDiff]
      refine br ?_ ?_
      · intro hb
        rw [hb, Bool.true_or] at hq
        rw [hs3 (.inr hq), if_neg (by decide)] at hE
        rw [hE]
        simp only [show ((1 : Int) = 0) = False from by decide, show ((7 : Int) = 0) = False from by decide, show ((3 : Int) = 0) = False from by decide, show ((13 : Int) = 0) = False from by decide, show ((2 : Int) = 0) = False from by decide, if_false]
        simp only [ZZ, YY, Ze, ite_true, ite_false, forall_const, reduceCtorEq, Nat.reduceAdd, Nat.reduceMul, Nat.reduceLeDiff, Nat.reduceLT, Nat.reduceEqDiff]
        exact ⟨[], rfl, fun h => h.elim, rfl, by simp, by simp⟩
      · intro hb
        rw [hb, Bool.false_or] at hq
        simp only [ZZ, YY, Ze, ite_true, ite_false, forall_const, reduceCtorEq, Nat.reduceAdd, Nat.reduceMul, Nat.reduceLeDiff, Nat.reduceLT, Nat.reduceEqDiff]
        ((repeat' (with_reducible apply And.intro)) <;> try ((first | first | assumption | trivial | exact (fun hq => by rw [hq]; rfl) | exact i64_of (by omega) (by omega) | omega | (simp; done) | (simp; omega) | (intro hsc; have hs0 := hsc; (try have hsd := of_decide_eq_true hsc); (try simp only [Bool.not_eq_true', Bool.or_eq_false_iff, Bool.and_eq_true, Bool.or_eq_true, decide_eq_true_eq, decide_eq_false_iff_not] at hsc); (repeat' (with_reducible apply And.intro)) <;> (first | assumption | trivial | exact (fun hq => by rw [hq]; rfl) | exact i64_of (by omega) (by omega) | omega | (simp; done) | (simp; omega) | (intro hse; simp [hse, hs0]; done) | (intro hse; simp only [hse, hs0, Bool.true_and, Bool.and_true, Bool.not_false, Bool.not_true, Bool.and_self]; done))))))
        refine end_round ((dr ++ ad).length - (j + 1)) [.p (.str s), .p (.sl 3 (ciE l)), .any, .any, .any, .any, .any, .any, .p (.sl 1 (strE x)), .row (.l 9), .row (.l 10), .p (int (p : Nat)), .any, .adr (.l 13) 0, .any, .any, .any, .any, .any, .any, .any, .any, .any, .any, .any, .p (.sl 3 (ciE l)), .p (int (l.length : Nat)), .p (int (k : Nat)), .any, .any, .any, .any, .any, .any, .any, .any, .any, .any, .any, .any, .any, .any, .any, .any, .any, .any, .any, .any, .any, .any, .any, .any, .any, .any, .any, .any, .any, .any, .any, .any, .any, .any, .any, .any, .any, .any, .any, .any, .p (.sl 1 (strE (dr ++ ad))), .p (int ((dr ++ ad).length : Nat)), .p (int ((j + 1) : Nat)), .any, .any, .any, .any, .any, .any, .any, .any, .any, .any, .any, .any, .any, .any, .any, .any, .any, .any, .any, .any, .any, .any, .any, .any, .any, .any, .any, .any, .any, .any, .any, .any, .any, .any, .any, .any, .any, .any, .any, .any, .any, .any, .any, .any, .any, .any, .any, .any, .any, .any, .any, .any, .any, .any, .any, .any, .any, .any, .any, .any, .any, .any, .any, .any, .any, .any, .any, .any, .any, .any, .any, .any, .any, .any, .any, .any] [(.l 9, .row (strE out) tStr 1 true), (.l 10, .row (chE bk) tCh 3 true), (.l 13, .box [.p (int (i : Nat)), .p (.sl 1 (strE dr)), .p (.sl 1 (strE ad))] tCh)] (by omega) (by (simp only [ZZ, YY, Ze, ite_true, ite_false, forall_const, reduceCtorEq, Nat.reduceAdd, Nat.reduceMul, Nat.reduceLeDiff, Nat.reduceLT, Nat.reduceEqDiff]; try trivial)) (by (simp only [ZZ, YY, Ze, ite_true, ite_false, forall_const, reduceCtorEq, Nat.reduceAdd, Nat.reduceMul, Nat.reduceLeDiff, Nat.reduceLT, Nat.reduceEqDiff]; try trivial)) ⟨j + 1, by omega, rfl, hq, rfl, rfl⟩
    · intro h
      have hge : j = (dr ++ ad).length := by have := of_decide_eq_false h; omega
      rw [hge, List.drop_length, List.any_nil] at hq
      have hf : ¬ ((dr = [] ∧ ad = []) ∨ (dr ++ ad).any (fun s => !isTok s) = true) := by
        rintro (h | h)
        · exact hf0 h
        · rw [hq] at h; cases h
      have hin : (((i : Nat) : Int) + ((dr.length : Nat) : Int)).toNat = i + dr.length := by omega
      have hsl : ((strE x).take (i + dr.length)).drop i = strE ((x.drop i).take dr.length) := by
        rw [strE, strE, ← List.map_take, ← List.map_drop, List.drop_take, Nat.add_sub_cancel_left]
      simp only [ZZ, YY, Ze, ite_true, ite_false, forall_const, reduceCtorEq, Nat.reduceAdd, Nat.reduceMul, Nat.reduceLeDiff, Nat.reduceLT, Nat.reduceEqDiff]
      refine drg1 (x1 := .bool (decide ((x.drop i).take dr.length = dr))) ?_
      simp only [ZZ, YY, Ze, ite_true, ite_false, forall_const, reduceCtorEq, Nat.reduceAdd, Nat.reduceMul, Nat.reduceLeDiff, Nat.reduceLT, Nat.reduceEqDiff, strE_len, hin, hsl]
      ((repeat' (with_reducible apply And.intro)) <;> try (first | exact fun h => ⟨h, usep (EqualT_ok _ dr (by simp; omega)) rfl (.inl rfl)⟩ | (first | first | assumption | trivial | exact (fun hq => by rw [hq]; rfl) | exact i64_of (by omega) (by omega) | omega | (simp; done) | (simp; omega) | (intro hsc; have hs0 := hsc; (try have hsd := of_decide_eq_true hsc); (try simp only [Bool.not_eq_true', Bool.or_eq_false_iff, Bool.and_eq_true, Bool.or_eq_true, decide_eq_true_eq, decide_eq_false_iff_not] at hsc); (repeat' (with_reducible apply And.intro)) <;> (first | assumption | trivial | exact (fun hq => by rw [hq]; rfl) | exact i64_of (by omega) (by omega) | omega | (simp; done) | (simp; omega) | (intro hse; simp [hse, hs0]; done) | (intro hse; simp only [hse, hs0, Bool.true_and, Bool.and_true, Bool.not_false, Bool.not_true, Bool.and_self]; done))))))
      have hC : (decide (((x.length : Nat) : Int) < ((i : Nat) : Int) + ((dr.length : Nat) : Int)) || !decide ((x.drop i).take dr.length = dr)) = decide (x.length < i + dr.length ∨ ¬ (x.drop i).take dr.length = dr) := by
        rw [Bool.eq_iff_iff]
        simp only [Bool.or_eq_true, Bool.not_eq_true', decide_eq_true_eq, decide_eq_false_iff_not]
        constructor
        · rintro (h | h)
          · exact .inl (by omega)
          · exact .inr h
        · rintro (h | h)
          · exact .inl (by omega)
          · exact .inr h
      rw [hC]
      refine br ?_ ?_
      · intro hcq
        have hcq := of_decide_eq_true hcq
        have hst : stE x (decide (k = 0)) p ((i : Int), dr, ad) = 13 := by rw [stE, if_neg (by rw [hx]; simp), if_neg ho, if_neg hf]; simp only [Int.toNat_natCast]; rw [if_pos hcq]
        rw [hst, if_neg (by decide)] at hE
        rw [hE]
        simp only [show ((1 : Int) = 0) = False from by decide, show ((7 : Int) = 0) = False from by decide, show ((3 : Int) = 0) = False from by decide, show ((13 : Int) = 0) = False from by decide, show ((2 : Int) = 0) = False from by decide, if_false]
        simp only [ZZ, YY, Ze, ite_true, ite_false, forall_const, reduceCtorEq, Nat.reduceAdd, Nat.reduceMul, Nat.reduceLeDiff, Nat.reduceLT, Nat.reduceEqDiff]
        exact ⟨[], rfl, fun h => h.elim, rfl, by simp, by simp⟩
      intro hcq
      have hcq := of_decide_eq_false hcq
      have hst : stE x (decide (k = 0)) p ((i : Int), dr, ad) = 0 := by rw [stE, if_neg (by rw [hx]; simp), if_neg ho, if_neg hf]; simp only [Int.toNat_natCast]; rw [if_neg hcq]
      rw [hst, if_pos rfl] at hE
      have hil : i + dr.length ≤ x.length := by
        have : ¬ x.length < i + dr.length := fun e => hcq (.inl e)
        omega
      have hsl2 : ((strE x).take i).drop p = strE ((x.take i).drop p) := by rw [strE, strE, ← List.map_take, ← List.map_drop]
      have hcl : ((x.take i).drop p).length = i - p := by simp; omega
      have hap2 : (out ++ (x.take i).drop p).length ≤ 300002000 := by rw [List.length_append]; omega
      have hww := step_wgt x out ad dr p i (addW (l.drop (k + 1))) hpi hi hw
      have hps : ((i : Int) + ((dr.length : Nat) : Int)) = ((i + dr.length : Nat) : Int) := by omega
      have hol : (((out ++ (x.take i).drop p).length : Nat) : Int) = i + m0 := by rw [List.length_append, hcl]; omega
      have g1 : (strE dr).length ≤ 1000000 := by rw [strE_len]; omega
      have g2 : (strE ad).length ≤ 1000000 := by rw [strE_len]; omega
      have hce : chE bk ++ [[int ((out ++ (x.take i).drop p).length : Nat), .sl 1 (strE ad), .sl 1 (strE dr)]] = chE (bk ++ [((out ++ (x.take i).drop p).length, ad, dr)]) := by rw [chE_app]; rfl
      simp only [ZZ, YY, Ze, ite_true, ite_false, forall_const, reduceCtorEq, Nat.reduceAdd, Nat.reduceMul, Nat.reduceLeDiff, Nat.reduceLT, Nat.reduceEqDiff, strE_len, hsl2, hap, hps]
      ((repeat' (with_reducible apply And.intro)) <;> try ((first | first | assumption | trivial | exact (fun hq => by rw [hq]; rfl) | exact i64_of (by omega) (by omega) | omega | (simp; done) | (simp; omega) | (intro hsc; have hs0 := hsc; (try have hsd := of_decide_eq_true hsc); (try simp only [Bool.not_eq_true', Bool.or_eq_false_iff, Bool.and_eq_true, Bool.or_eq_true, decide_eq_true_eq, decide_eq_false_iff_not] at hsc); (repeat' (with_reducible apply And.intro)) <;> (first | assumption | trivial | exact (fun hq => by rw [hq]; rfl) | exact i64_of (by omega) (by omega) | omega | (simp; done) | (simp; omega) | (intro hse; simp [hse, hs0]; done) | (intro hse; simp only [hse, hs0, Bool.true_and, Bool.and_true, Bool.not_false, Bool.not_true, Bool.and_self]; done))))))
      refine drg2 (x1 := .sl 1 (strE ad)) (x2 := .sl 1 (strE dr)) ?_
      simp only [ZZ, YY, Ze, ite_true, ite_false, forall_const, reduceCtorEq, Nat.reduceAdd, Nat.reduceMul, Nat.reduceLeDiff, Nat.reduceLT, Nat.reduceEqDiff, strE_len, chE_len, hce]
      ((repeat' (with_reducible apply And.intro)) <;> try (first | exact usep (plainR (CloneS_ok _ g1)) rfl (.inl rfl) | exact usep (plainR (CloneS_ok _ g2)) rfl (.inl rfl) | (first | first | assumption | trivial | exact (fun hq => by rw [hq]; rfl) | exact i64_of (by omega) (by omega) | omega | (simp; done) | (simp; omega) | (intro hsc; have hs0 := hsc; (try have hsd := of_decide_eq_true hsc); (try simp only [Bool.not_eq_true', Bool.or_eq_false_iff, Bool.and_eq_true, Bool.or_eq_true, decide_eq_true_eq, decide_eq_false_iff_not] at hsc); (repeat' (with_reducible apply And.intro)) <;> (first | assumption | trivial | exact (fun hq => by rw [hq]; rfl) | exact i64_of (by omega) (by omega) | omega | (simp; done) | (simp; omega) | (intro hse; simp [hse, hs0]; done) | (intro hse; simp only [hse, hs0, Bool.true_and, Bool.and_true, Bool.not_false, Bool.not_true, Bool.and_self]; done))))))
      simp only [ZZ, YY, Ze, ite_true, ite_false, forall_const, reduceCtorEq, Nat.reduceAdd, Nat.reduceMul, Nat.reduceLeDiff, Nat.reduceLT, Nat.reduceEqDiff, strE_len, hap, hps]
      ((repeat' (with_reducible apply And.intro)) <;> try ((first | first | assumption | trivial | exact (fun hq => by rw [hq]; rfl) | exact i64_of (by omega) (by omega) | omega | (simp; done) | (simp; omega) | (intro hsc; have hs0 := hsc; (try have hsd := of_decide_eq_true hsc); (try simp only [Bool.not_eq_true', Bool.or_eq_false_iff, Bool.and_eq_true, Bool.or_eq_true, decide_eq_true_eq, decide_eq_false_iff_not] at hsc); (repeat' (with_reducible apply And.intro)) <;> (first | assumption | trivial | exact (fun hq => by rw [hq]; rfl) | exact i64_of (by omega) (by omega) | omega | (simp; done) | (simp; omega) | (intro hse; simp [hse, hs0]; done) | (intro hse; simp only [hse, hs0, Bool.true_and, Bool.and_true, Bool.not_false, Bool.not_true, Bool.and_self]; done))))))
      have hadl : ((ad.length : Nat) : Int) = (ad.length : Nat) := rfl
      refine end_round (l.length - (k + 1)) [.p (.str s), .p (.sl 3 (ciE l)), .any, .any, .any, .any, .any, .any, .p (.sl 1 (strE x)), .row (.l 9), .row (.l 10), .p (int ((i + dr.length) : Nat)), .any, .any, .any, .any, .any, .any, .any, .any, .any, .any, .any, .any, .any, .p (.sl 3 (ciE l)), .p (int (l.length : Nat)), .p (int ((k + 1) : Nat)), .any, .any, .any, .any, .any, .any, .any, .any, .any, .any, .any, .any, .any, .any, .any, .any, .any, .any, .any, .any, .any, .any, .any, .any, .any, .any, .any, .any, .any, .any, .any, .any, .any, .any, .any, .any, .any, .any, .any, .any, .any, .any, .any, .any, .any, .any, .any, .any, .any, .any, .any, .any, .any, .any, .any, .any, .any, .any, .any, .any, .any, .any, .any, .any, .any, .any, .any, .any, .any, .any, .any, .any, .any, .any, .any, .any, .any, .any, .any, .any, .any, .any, .any, .any, .any, .any, .any, .any, .any, .any, .any, .any, .any, .any, .any, .any, .any, .any, .any, .any, .any, .any, .any, .any, .any, .any, .any, .any, .any, .any, .any, .any, .any, .any, .any, .any, .any, .any, .any] [(.l 9, .row (strE (out ++ (x.take i).drop p ++ ad)) tStr 1 true), (.l 10, .row (chE (bk ++ [((out ++ (x.take i).drop p).length, ad, dr)])) tCh 3 true)] (by omega) (by (simp only [ZZ, YY, Ze, ite_true, ite_false, forall_const, reduceCtorEq, Nat.reduceAdd, Nat.reduceMul, Nat.reduceLeDiff, Nat.reduceLT, Nat.reduceEqDiff]; try trivial)) (by (simp only [ZZ, YY, Ze, ite_true, ite_false, forall_const, reduceCtorEq, Nat.reduceAdd, Nat.reduceMul, Nat.reduceLeDiff, Nat.reduceLT, Nat.reduceEqDiff]; try trivial)) ⟨k + 1, i + dr.length, m0 + ad.length - dr.length, out ++ (x.take i).drop p ++ ad, bk ++ [((out ++ (x.take i).drop p).length, ad, dr)], by omega, rfl, by rw [hE]; rfl, hT, hil, by intro e; omega, hww, by rw [hB, ← hce, List.append_assoc, hol]; rfl, by rw [List.length_append]; push_cast; omega, by simp; omega, by intro c hc'; rcases List.mem_append.1 hc' with h | h; exact hbb c h; rw [List.mem_singleton] at h; subst h; show ad.length ≤ 100000 ∧ dr.length ≤ 100000; exact ⟨by omega, by omega⟩, rfl, rfl⟩
  · intro h
    have hge : k = l.length := by have := of_decide_eq_false h; omega
    rw [hge, List.drop_length] at hE hT hw hB
    rw [paE] at hE
    rw [paT] at hT
    rw [baT] at hB
    rw [hE, hT, if_pos rfl]
    have hx1 : ((strE x).take x.length).drop p = strE (x.drop p) := by rw [List.take_of_length_le (by rw [strE_len]; exact Nat.le_refl _), strE, strE, List.map_drop]
    have hwt : wgt (out ++ x.drop p) ≤ 300000000 := by rw [wgt_app]; omega
    have hjl := jnF_wgt (out ++ x.drop p)
    have wld : (x.drop p).length ≤ 2000 := by simp; omega
    simp only [ZZ, YY, Ze, ite_true, ite_false, forall_const, reduceCtorEq, Nat.reduceAdd, Nat.reduceMul, Nat.reduceLeDiff, Nat.reduceLT, Nat.reduceEqDiff, strE_len, hx1, hap]
    ((repeat' (with_reducible apply And.intro)) <;> try ((first | first | assumption | trivial | exact (fun hq => by rw [hq]; rfl) | exact i64_of (by omega) (by omega) | omega | (simp; done) | (simp; omega) | (intro hsc; have hs0 := hsc; (try have hsd := of_decide_eq_true hsc); (try simp only [Bool.not_eq_true', Bool.or_eq_false_iff, Bool.and_eq_true, Bool.or_eq_true, decide_eq_true_eq, decide_eq_false_iff_not] at hsc); (repeat' (with_reducible apply And.intro)) <;> (first | assumption | trivial | exact (fun hq => by rw [hq]; rfl) | exact i64_of (by omega) (by omega) | omega | (simp; done) | (simp; omega) | (intro hse; simp [hse, hs0]; done) | (intro hse; simp only [hse, hs0, Bool.true_and, Bool.and_true, Bool.not_false, Bool.not_true, Bool.and_self]; done))))))
    refine use1 (JoinOf_ok (out ++ x.drop p) (by omega)) rfl (.inr rfl) ?_
    simp only [ZZ, YY, Ze, ite_true, ite_false, forall_const, reduceCtorEq, Nat.reduceAdd, Nat.reduceMul, Nat.reduceLeDiff, Nat.reduceLT, Nat.reduceEqDiff]
    refine br ?_ ?_
    · intro hj
      have hj : 20000 < (jnF (out ++ x.drop p)).length := by have := of_decide_eq_true hj; omega
      rw [if_pos hj]
      simp only [show ((1 : Int) = 0) = False from by decide, show ((7 : Int) = 0) = False from by decide, show ((3 : Int) = 0) = False from by decide, show ((13 : Int) = 0) = False from by decide, show ((2 : Int) = 0) = False from by decide, if_false]
      simp only [ZZ, YY, Ze, ite_true, ite_false, forall_const, reduceCtorEq, Nat.reduceAdd, Nat.reduceMul, Nat.reduceLeDiff, Nat.reduceLT, Nat.reduceEqDiff]
      exact ⟨[], rfl, fun h => h.elim, rfl, by simp, by simp⟩
    · intro hj
      have hj : ¬ 20000 < (jnF (out ++ x.drop p)).length := by have := of_decide_eq_false hj; omega
      rw [if_neg hj, if_pos rfl]
      simp only [ZZ, YY, Ze, ite_true, ite_false, forall_const, reduceCtorEq, Nat.reduceAdd, Nat.reduceMul, Nat.reduceLeDiff, Nat.reduceLT, Nat.reduceEqDiff]
      have hB : chE bk = ciE (baT l 0) := by rw [hB]; simp [ciE]
      exact ⟨bk, rfl, hB, fun h => h.elim, by omega, hbb⟩
end Go.Proofs.YthfpehmbellmcaaGreatDoor

/- Makers: Prose and Changed, in the layer: only sizes are told. -/
namespace Go.Proofs.YthfpehmbellmcaaGreatDoor
set_option linter.unusedVariables false
set_option linter.unusedSimpArgs false
set_option linter.defProp false

/- (*paperchase/chasemake.Stream).Prose -/
def ir_chasemake_Stream_Prose_L0 : IC :=
  (.seq (.reg [⟨some 11, .bin .lss (.t 10) (.t 9), none⟩])
    (.seq (.cond (.t 11) .skip (.exit 0))
    (.seq (.block 1 (.reg [⟨some 12, .mov (.t 5), none⟩,
      ⟨some 13, .mov (.t 0), none⟩,
      ⟨some 14, .bsl 1 [.c (.str [97]), .c (.str [98]), .c (.str [99]), .c (.str [100]), .c (.str [101]), .c (.str [65]), .c (.str [66]), .c (.str [105, 116, 39, 115]), .c (.str [195, 169]), .c (.str [120, 44]), .c (.str [57])], none⟩,
      ⟨some 15, .call 32 [.t 13, .t 14], none⟩,
      ⟨some 16, .mov (.t 0), none⟩,
      ⟨some 17, .bsl 1 [.c (.str [32]), .c (.str [32]), .c (.str [32]), .c (.str [32, 32]), .c (.str [10]), .c (.str [10, 10]), .c (.str [44, 32]), .c (.str [])], none⟩,
      ⟨some 18, .call 32 [.t 16, .t 17], none⟩,
      ⟨some 19, .bin .add (.t 15) (.t 18), none⟩,
      ⟨some 20, .bin .add (.t 12) (.t 19), none⟩,
      ⟨some 5, .mov (.t 20), none⟩]))
    (.reg [⟨some 21, .bin .add (.t 10) (.c (.int .i64 1)), none⟩,
      ⟨some 10, .mov (.t 21), none⟩]))))
def ir_chasemake_Stream_Prose : IC :=
  (.seq (.reg [⟨some 4, .mov (.c (.str [])), none⟩])
    (.seq (.reg [⟨some 5, .mov (.c (.str [])), none⟩])
    (.seq (.seq (.reg [⟨some 6, .mov (.t 0), none⟩,
      ⟨some 7, .mov (.t 1), none⟩,
      ⟨some 8, .bin .add (.t 7) (.c (.int .i64 1)), none⟩,
      ⟨some 9, .call 45 [.t 6, .t 8], none⟩,
      ⟨some 10, .mov (.c (.int .i64 0)), none⟩])
    (.block 0 (.loop ir_chasemake_Stream_Prose_L0)))
    (.seq (.reg [⟨some 22, .mov (.t 5), none⟩,
      ⟨some 4, .mov (.t 22), none⟩])
    .ret))))
def rs_chasemake_Stream_Prose : List IRes := [.t 4]
theorem ck_chasemake_Stream_Prose : chkF Tryz.prog Tryz.f15 ir_chasemake_Stream_Prose rs_chasemake_Stream_Prose 23 = true := by kernel_rfl

/- (*paperchase/chasemake.Stream).Changed -/
def ir_chasemake_Stream_Changed : IC :=
  (.seq (.reg [⟨some 6, .mov (.c (.str [])), none⟩])
    (.seq (.seq (.reg [⟨some 9, .mov (.t 1), none⟩,
      ⟨some 10, .bin .eql (.t 9) (.c (.str [])), none⟩,
      ⟨some 11, .mov (.t 10), none⟩,
      ⟨some 12, .mov (.t 2), (some (11, false))⟩,
      ⟨some 13, .bin .eql (.t 12) (.c (.str [])), (some (11, false))⟩,
      ⟨some 14, .pick (.t 11) (.c (.bool true)) (.t 13), none⟩])
    (.cond (.t 14) (.seq (.reg [⟨some 15, .mov (.t 2), none⟩,
      ⟨some 6, .mov (.t 15), none⟩])
    .ret) .skip))
    (.seq (.reg [⟨some 16, .mov (.t 0), none⟩,
      ⟨some 17, .mov (.t 1), none⟩,
      ⟨some 18, .sln (.t 17), none⟩,
      ⟨some 19, .call 45 [.t 16, .t 18], none⟩,
      ⟨some 7, .mov (.t 19), none⟩])
    (.seq (.reg [⟨some 20, .mov (.t 2), none⟩,
      ⟨some 21, .mov (.t 0), none⟩,
      ⟨some 22, .mov (.t 2), none⟩,
      ⟨some 23, .sln (.t 22), none⟩,
      ⟨some 24, .call 45 [.t 21, .t 23], none⟩,
      ⟨some 25, .idx (.t 20) (.t 24), none⟩,
      ⟨some 8, .mov (.t 25), none⟩])
    (.seq (.seq (.reg [⟨some 26, .mov (.t 0), none⟩,
      ⟨some 27, .call 45 [.t 26, .c (.int .i64 3)], none⟩])
    (.block 0 (.seq (.reg [⟨some 29, .bin .eql (.t 27) (.c (.int .i64 0)), none⟩,
      ⟨some 28, .mov (.t 29), none⟩])
    (.cond (.t 28) (.seq (.drg [⟨some 30, .mov (.t 1), none⟩,
      ⟨some 31, .mov (.t 7), none⟩,
      ⟨some 32, .ssl (.t 30) none (some (.t 31)), none⟩,
      ⟨some 33, .mov (.t 8), none⟩,
      ⟨some 34, .cvi .i32 (.t 33), none⟩,
      ⟨some 35, .cvs (.t 34), none⟩,
      ⟨some 36, .bin .add (.t 32) (.t 35), none⟩,
      ⟨some 37, .mov (.t 1), none⟩,
      ⟨some 38, .mov (.t 7), none⟩,
      ⟨some 39, .bin .add (.t 38) (.c (.int .i64 1)), none⟩,
      ⟨some 40, .ssl (.t 37) (some (.t 39)) none, none⟩,
      ⟨some 41, .bin .add (.t 36) (.t 40), none⟩,
      ⟨some 6, .mov (.t 41), none⟩])
    .ret) (.seq (.reg [⟨some 43, .bin .eql (.t 27) (.c (.int .i64 1)), none⟩,
      ⟨some 42, .mov (.t 43), none⟩])
    (.cond (.t 42) (.seq (.drg [⟨some 44, .mov (.t 1), none⟩,
      ⟨some 45, .mov (.t 7), none⟩,
      ⟨some 46, .ssl (.t 44) none (some (.t 45)), none⟩,
      ⟨some 47, .mov (.t 8), none⟩,
      ⟨some 48, .cvi .i32 (.t 47), none⟩,
      ⟨some 49, .cvs (.t 48), none⟩,
      ⟨some 50, .bin .add (.t 46) (.t 49), none⟩,
      ⟨some 51, .mov (.t 1), none⟩,
      ⟨some 52, .mov (.t 7), none⟩,
      ⟨some 53, .ssl (.t 51) (some (.t 52)) none, none⟩,
      ⟨some 54, .bin .add (.t 50) (.t 53), none⟩,
      ⟨some 6, .mov (.t 54), none⟩])
    .ret) .skip))))))
    (.seq (.drg [⟨some 55, .mov (.t 1), none⟩,
      ⟨some 56, .mov (.t 7), none⟩,
      ⟨some 57, .ssl (.t 55) none (some (.t 56)), none⟩,
      ⟨some 58, .mov (.t 1), none⟩,
      ⟨some 59, .mov (.t 7), none⟩,
      ⟨some 60, .bin .add (.t 59) (.c (.int .i64 1)), none⟩,
      ⟨some 61, .ssl (.t 58) (some (.t 60)) none, none⟩,
      ⟨some 62, .bin .add (.t 57) (.t 61), none⟩,
      ⟨some 6, .mov (.t 62), none⟩])
    .ret))))))
def rs_chasemake_Stream_Changed : List IRes := [.t 6]
theorem ck_chasemake_Stream_Changed : chkF Tryz.prog Tryz.f47 ir_chasemake_Stream_Changed rs_chasemake_Stream_Changed 63 = true := by kernel_rfl

section
variable {E : Envt}
theorem Prose_ok (l : List Int) (k : Nat) (n : Int) (hk : k ≤ 900000) (hl : l.length ≤ 9223372036854775807) (hn0 : 0 ≤ n) (hn : n ≤ 1000) :
    SCall Tryz.prog E 15 T (stm l k) [int n] (fun x cs' => ∃ t k', x = .str t ∧ (t.length : Int) ≤ 6 * n ∧ cs' = stm l k' ∧ k' ≤ k + 3000) := by
  unfold SCall
  refine gcallP mixed Tryz.func15 ck_chasemake_Stream_Prose ?_
  simp only [a0, l0, OS.ao, List.map_cons, List.map_nil, List.length_cons, List.length_nil, List.cons_append, List.nil_append, Nat.reduceSub, Nat.reduceAdd, List.replicate_succ, List.replicate_zero, ir_chasemake_Stream_Prose, rs_chasemake_Stream_Prose, ZZ, YY, Ze, ite_true, ite_false, forall_const, reduceCtorEq, Nat.reduceAdd, Nat.reduceMul, Nat.reduceLeDiff, Nat.reduceLT, Nat.reduceEqDiff]
  refine ⟨i64_of (by omega) (by omega), ?_⟩
  refine useS (Next_ok l k _ (by omega) hl (by omega)) rfl rfl rfl (by simp only [ZZ, YY, Ze, ite_true, ite_false, forall_const, reduceCtorEq, Nat.reduceAdd, Nat.reduceMul, Nat.reduceLeDiff, Nat.reduceLT, Nat.reduceEqDiff]) ?_
  rintro x cs' ⟨y, rfl, rfl⟩
  have b1 := below_lo y (n + 1)
  have b2 := below_hi y (n + 1) (by omega)
  generalize below y (n + 1) = m at *
  simp only [ZZ, YY, Ze, ite_true, ite_false, forall_const, reduceCtorEq, Nat.reduceAdd, Nat.reduceMul, Nat.reduceLeDiff, Nat.reduceLT, Nat.reduceEqDiff]
  refine loop_intro (fun n fr L => ∃ (i : Nat) (k' : Nat) (t : List UInt8), m.toNat - i = n ∧ ((i : Int) ≤ m) ∧ (k' ≤ k + 1 + 2 * i) ∧ (t.length ≤ 6 * i) ∧ fr = [.adr (.b 0) 0, .any, .any, .any, .any, .p (.str t), .any, .any, .any, .p (int m), .p (int (i : Nat)), .any, .any, .any, .any, .any, .any, .any, .any, .any, .any, .any, .any] ∧ L = [(.b 0, .box ((stm l k').map .p) T)]) (m.toNat - 0) [.adr (.b 0) 0, .any, .any, .any, .any, .p (.str []), .any, .any, .any, .p (int m), .p (int (0 : Nat)), .any, .any, .any, .any, .any, .any, .any, .any, .any, .any, .any, .any] [(.b 0, .box ((stm l (k + 1)).map .p) T)] (by (simp only [ZZ, YY, Ze, ite_true, ite_false, forall_const, reduceCtorEq, Nat.reduceAdd, Nat.reduceMul, Nat.reduceLeDiff, Nat.reduceLT, Nat.reduceEqDiff]; try trivial)) (by (simp only [ZZ, YY, Ze, ite_true, ite_false, forall_const, reduceCtorEq, Nat.reduceAdd, Nat.reduceMul, Nat.reduceLeDiff, Nat.reduceLT, Nat.reduceEqDiff]; try trivial)) ⟨0, k + 1, [], rfl, by omega, by omega, by simp, rfl, rfl⟩ ?_
  rintro n fr L ⟨i, k', t, rfl, him, hk', ht, rfl, rfl⟩
  simp only [ir_chasemake_Stream_Prose_L0, ZZ, YY, Ze, ite_true, ite_false, forall_const, reduceCtorEq, Nat.reduceAdd, Nat.reduceMul, Nat.reduceLeDiff, Nat.reduceLT, Nat.reduceEqDiff]
  refine br ?_ ?_
  · intro h
    have hlt : (i : Int) < m := of_decide_eq_true h
    simp only [ZZ, YY, Ze, ite_true, ite_false, forall_const, reduceCtorEq, Nat.reduceAdd, Nat.reduceMul, Nat.reduceLeDiff, Nat.reduceLT, Nat.reduceEqDiff]
    refine useS (one_ok l k' [[97], [98], [99], [100], [101], [65], [66], [105, 116, 39, 115], [195, 169], [120, 44], [57]] (by omega) hl (by simp) (by simp)) rfl rfl rfl (by simp only [ZZ, YY, Ze, ite_true, ite_false, forall_const, reduceCtorEq, Nat.reduceAdd, Nat.reduceMul, Nat.reduceLeDiff, Nat.reduceLT, Nat.reduceEqDiff]) ?_
    rintro x cs' ⟨u, rfl, hu, rfl⟩
    have hul : u.length ≤ 4 := by simp at hu; rcases hu with rfl | rfl | rfl | rfl | rfl | rfl | rfl | rfl | rfl | rfl | rfl <;> simp
    simp only [ZZ, YY, Ze, ite_true, ite_false, forall_const, reduceCtorEq, Nat.reduceAdd, Nat.reduceMul, Nat.reduceLeDiff, Nat.reduceLT, Nat.reduceEqDiff]
    refine useS (one_ok l (k' + 1) [[32], [32], [32], [32, 32], [10], [10, 10], [44, 32], []] (by omega) hl (by simp) (by simp)) rfl rfl rfl (by simp only [ZZ, YY, Ze, ite_true, ite_false, forall_const, reduceCtorEq, Nat.reduceAdd, Nat.reduceMul, Nat.reduceLeDiff, Nat.reduceLT, Nat.reduceEqDiff]) ?_
    rintro x cs' ⟨v, rfl, hv, rfl⟩
    have hvl : v.length ≤ 2 := by simp at hv; rcases hv with rfl | rfl | rfl | rfl | rfl | rfl | rfl <;> simp
    simp only [ZZ, YY, Ze, ite_true, ite_false, forall_const, reduceCtorEq, Nat.reduceAdd, Nat.reduceMul, Nat.reduceLeDiff, Nat.reduceLT, Nat.reduceEqDiff]
    have h3 : (u ++ v).length ≤ 6 := by simp; omega
    ((repeat' (with_reducible apply And.intro)) <;> try ((first | first | assumption | trivial | exact (fun hq => by rw [hq]; rfl) | exact i64_of (by omega) (by omega) | omega | (simp; done) | (simp; omega) | (intro hsc; have hs0 := hsc; (try have hsd := of_decide_eq_true hsc); (try simp only [Bool.not_eq_true', Bool.or_eq_false_iff, Bool.and_eq_true, Bool.or_eq_true, decide_eq_true_eq, decide_eq_false_iff_not] at hsc); (repeat' (with_reducible apply And.intro)) <;> (first | assumption | trivial | exact (fun hq => by rw [hq]; rfl) | exact i64_of (by omega) (by omega) | omega | (simp; done) | (simp; omega) | (intro hse; simp [hse, hs0]; done) | (intro hse; simp only [hse, hs0, Bool.true_and, Bool.and_true, Bool.not_false, Bool.not_true, Bool.and_self]; done))))))
    refine end_round (m.toNat - (i + 1)) [.adr (.b 0) 0, .any, .any, .any, .any, .p (.str (t ++ (u ++ v))), .any, .any, .any, .p (int m), .p (int ((i + 1) : Nat)), .any, .any, .any, .any, .any, .any, .any, .any, .any, .any, .any, .any] [(.b 0, .box ((stm l (k' + 1 + 1)).map .p) T)] (by omega) (by (simp only [ZZ, YY, Ze, ite_true, ite_false, forall_const, reduceCtorEq, Nat.reduceAdd, Nat.reduceMul, Nat.reduceLeDiff, Nat.reduceLT, Nat.reduceEqDiff]; try trivial)) (by (simp only [ZZ, YY, Ze, ite_true, ite_false, forall_const, reduceCtorEq, Nat.reduceAdd, Nat.reduceMul, Nat.reduceLeDiff, Nat.reduceLT, Nat.reduceEqDiff]; try trivial)) ⟨i + 1, k' + 1 + 1, t ++ (u ++ v), rfl, by omega, by omega, by rw [List.length_append]; omega, rfl, rfl⟩
  · intro h
    simp only [ZZ, YY, Ze, ite_true, ite_false, forall_const, reduceCtorEq, Nat.reduceAdd, Nat.reduceMul, Nat.reduceLeDiff, Nat.reduceLT, Nat.reduceEqDiff]
    exact fin_S (stm l k') rfl ⟨t, _, rfl, by omega, rfl, by omega⟩
theorem enc_le (c : Int) : (Utf8.encode c).data.toList.length ≤ 4 := by
  rw [Array.length_toList]
  exact encode_size_le c
theorem Changed_ok (l : List Int) (k : Nat) (s t : List UInt8) (hk : k ≤ 900000) (hl : l.length ≤ 9223372036854775807) (hs : s.length ≤ 1000000) (ht : t.length ≤ 1000000) :
    SCall Tryz.prog E 47 T (stm l k) [.str s, .str t] (fun x cs' => ∃ u k', x = .str u ∧ u.length ≤ s.length + t.length + 10 ∧ cs' = stm l k' ∧ k' ≤ k + 3) := by
  unfold SCall
  refine gcallP mixed Tryz.func47 ck_chasemake_Stream_Changed ?_
  simp only [a0, l0, OS.ao, List.map_cons, List.map_nil, List.length_cons, List.length_nil, List.cons_append, List.nil_append, Nat.reduceSub, Nat.reduceAdd, List.replicate_succ, List.replicate_zero, ir_chasemake_Stream_Changed, rs_chasemake_Stream_Changed, ZZ, YY, Ze, ite_true, ite_false, forall_const, reduceCtorEq, Nat.reduceAdd, Nat.reduceMul, Nat.reduceLeDiff, Nat.reduceLT, Nat.reduceEqDiff]
  ((repeat' (with_reducible apply And.intro)) <;> try ((first | first | assumption | trivial | exact (fun hq => by rw [hq]; rfl) | exact i64_of (by omega) (by omega) | omega | (simp; done) | (simp; omega) | (intro hsc; have hs0 := hsc; (try have hsd := of_decide_eq_true hsc); (try simp only [Bool.not_eq_true', Bool.or_eq_false_iff, Bool.and_eq_true, Bool.or_eq_true, decide_eq_true_eq, decide_eq_false_iff_not] at hsc); (repeat' (with_reducible apply And.intro)) <;> (first | assumption | trivial | exact (fun hq => by rw [hq]; rfl) | exact i64_of (by omega) (by omega) | omega | (simp; done) | (simp; omega) | (intro hse; simp [hse, hs0]; done) | (intro hse; simp only [hse, hs0, Bool.true_and, Bool.and_true, Bool.not_false, Bool.not_true, Bool.and_self]; done))))))
  refine br ?_ ?_
  · intro _
    simp only [ZZ, YY, Ze, ite_true, ite_false, forall_const, reduceCtorEq, Nat.reduceAdd, Nat.reduceMul, Nat.reduceLeDiff, Nat.reduceLT, Nat.reduceEqDiff]
    exact fin_S (stm l k) rfl ⟨t, _, rfl, by omega, rfl, by omega⟩
  · intro h
    simp only [Bool.or_eq_false_iff, decide_eq_false_iff_not] at h
    have hs0 : 0 < s.length := List.length_pos_iff.2 h.1
    have ht0 : 0 < t.length := List.length_pos_iff.2 h.2
    simp only [ZZ, YY, Ze, ite_true, ite_false, forall_const, reduceCtorEq, Nat.reduceAdd, Nat.reduceMul, Nat.reduceLeDiff, Nat.reduceLT, Nat.reduceEqDiff]
    refine useS (Next_ok l k _ (by omega) hl (by omega)) rfl rfl rfl (by simp only [ZZ, YY, Ze, ite_true, ite_false, forall_const, reduceCtorEq, Nat.reduceAdd, Nat.reduceMul, Nat.reduceLeDiff, Nat.reduceLT, Nat.reduceEqDiff]) ?_
    rintro x cs' ⟨y, rfl, rfl⟩
    obtain ⟨i, hi, hy⟩ := below_idx y s.length hs0
    rw [hy]
    simp only [ZZ, YY, Ze, ite_true, ite_false, forall_const, reduceCtorEq, Nat.reduceAdd, Nat.reduceMul, Nat.reduceLeDiff, Nat.reduceLT, Nat.reduceEqDiff]
    refine useS (Next_ok l (k + 1) _ (by omega) hl (by omega)) rfl rfl rfl (by simp only [ZZ, YY, Ze, ite_true, ite_false, forall_const, reduceCtorEq, Nat.reduceAdd, Nat.reduceMul, Nat.reduceLeDiff, Nat.reduceLT, Nat.reduceEqDiff]) ?_
    rintro x cs' ⟨y2, rfl, rfl⟩
    obtain ⟨j, hj, hy2⟩ := below_idx y2 t.length ht0
    rw [hy2]
    simp only [ZZ, YY, Ze, ite_true, ite_false, forall_const, reduceCtorEq, Nat.reduceAdd, Nat.reduceMul, Nat.reduceLeDiff, Nat.reduceLT, Nat.reduceEqDiff]
    ((repeat' (with_reducible apply And.intro)) <;> try ((first | first | assumption | trivial | exact (fun hq => by rw [hq]; rfl) | exact i64_of (by omega) (by omega) | omega | (simp; done) | (simp; omega) | (intro hsc; have hs0 := hsc; (try have hsd := of_decide_eq_true hsc); (try simp only [Bool.not_eq_true', Bool.or_eq_false_iff, Bool.and_eq_true, Bool.or_eq_true, decide_eq_true_eq, decide_eq_false_iff_not] at hsc); (repeat' (with_reducible apply And.intro)) <;> (first | assumption | trivial | exact (fun hq => by rw [hq]; rfl) | exact i64_of (by omega) (by omega) | omega | (simp; done) | (simp; omega) | (intro hse; simp [hse, hs0]; done) | (intro hse; simp only [hse, hs0, Bool.true_and, Bool.and_true, Bool.not_false, Bool.not_true, Bool.and_self]; done))))))
    refine useS (Next_ok l (k + 1 + 1) _ (by omega) hl (by decide)) rfl rfl rfl (by simp only [ZZ, YY, Ze, ite_true, ite_false, forall_const, reduceCtorEq, Nat.reduceAdd, Nat.reduceMul, Nat.reduceLeDiff, Nat.reduceLT, Nat.reduceEqDiff]) ?_
    rintro x cs' ⟨y3, rfl, rfl⟩
    have hE4 := enc_le (IntKind.i32.wrap (((t.getD j 0).toNat : Nat) : Int))
    have l1 : (s.take i).length ≤ s.length := by simp; omega
    have l2 : ∀ q, (s.drop q).length ≤ s.length := by intro q; simp
    generalize below y3 3 = z at *
    simp only [ZZ, YY, Ze, ite_true, ite_false, forall_const, reduceCtorEq, Nat.reduceAdd, Nat.reduceMul, Nat.reduceLeDiff, Nat.reduceLT, Nat.reduceEqDiff]
    refine br ?_ ?_
    · intro _
      simp only [ZZ, YY, Ze, ite_true, ite_false, forall_const, reduceCtorEq, Nat.reduceAdd, Nat.reduceMul, Nat.reduceLeDiff, Nat.reduceLT, Nat.reduceEqDiff]
      refine drg0 ?_
      simp only [ZZ, YY, Ze, ite_true, ite_false, forall_const, reduceCtorEq, Nat.reduceAdd, Nat.reduceMul, Nat.reduceLeDiff, Nat.reduceLT, Nat.reduceEqDiff]
      ((repeat' (with_reducible apply And.intro)) <;> try ((first | first | assumption | trivial | exact (fun hq => by rw [hq]; rfl) | exact i64_of (by omega) (by omega) | omega | (simp; done) | (simp; omega) | (intro hsc; have hs0 := hsc; (try have hsd := of_decide_eq_true hsc); (try simp only [Bool.not_eq_true', Bool.or_eq_false_iff, Bool.and_eq_true, Bool.or_eq_true, decide_eq_true_eq, decide_eq_false_iff_not] at hsc); (repeat' (with_reducible apply And.intro)) <;> (first | assumption | trivial | exact (fun hq => by rw [hq]; rfl) | exact i64_of (by omega) (by omega) | omega | (simp; done) | (simp; omega) | (intro hse; simp [hse, hs0]; done) | (intro hse; simp only [hse, hs0, Bool.true_and, Bool.and_true, Bool.not_false, Bool.not_true, Bool.and_self]; done))))))
      all_goals first
        | exact fin_S (stm l (k + 1 + 1 + 1)) rfl ⟨_, _, rfl, by simp only [List.length_append, List.length_drop, List.length_take]; omega, rfl, by omega⟩
        | (simp only [List.length_append, List.length_drop, List.length_take]; omega)
    · intro _
      simp only [ZZ, YY, Ze, ite_true, ite_false, forall_const, reduceCtorEq, Nat.reduceAdd, Nat.reduceMul, Nat.reduceLeDiff, Nat.reduceLT, Nat.reduceEqDiff]
      refine br ?_ ?_
      · intro _
        simp only [ZZ, YY, Ze, ite_true, ite_false, forall_const, reduceCtorEq, Nat.reduceAdd, Nat.reduceMul, Nat.reduceLeDiff, Nat.reduceLT, Nat.reduceEqDiff]
        refine drg0 ?_
        simp only [ZZ, YY, Ze, ite_true, ite_false, forall_const, reduceCtorEq, Nat.reduceAdd, Nat.reduceMul, Nat.reduceLeDiff, Nat.reduceLT, Nat.reduceEqDiff]
        ((repeat' (with_reducible apply And.intro)) <;> try ((first | first | assumption | trivial | exact (fun hq => by rw [hq]; rfl) | exact i64_of (by omega) (by omega) | omega | (simp; done) | (simp; omega) | (intro hsc; have hs0 := hsc; (try have hsd := of_decide_eq_true hsc); (try simp only [Bool.not_eq_true', Bool.or_eq_false_iff, Bool.and_eq_true, Bool.or_eq_true, decide_eq_true_eq, decide_eq_false_iff_not] at hsc); (repeat' (with_reducible apply And.intro)) <;> (first | assumption | trivial | exact (fun hq => by rw [hq]; rfl) | exact i64_of (by omega) (by omega) | omega | (simp; done) | (simp; omega) | (intro hse; simp [hse, hs0]; done) | (intro hse; simp only [hse, hs0, Bool.true_and, Bool.and_true, Bool.not_false, Bool.not_true, Bool.and_self]; done))))))
        all_goals first
          | exact fin_S (stm l (k + 1 + 1 + 1)) rfl ⟨_, _, rfl, by simp only [List.length_append, List.length_drop, List.length_take]; omega, rfl, by omega⟩
          | (simp only [List.length_append, List.length_drop, List.length_take]; omega)
      · intro _
        simp only [ZZ, YY, Ze, ite_true, ite_false, forall_const, reduceCtorEq, Nat.reduceAdd, Nat.reduceMul, Nat.reduceLeDiff, Nat.reduceLT, Nat.reduceEqDiff]
        refine drg0 ?_
        simp only [ZZ, YY, Ze, ite_true, ite_false, forall_const, reduceCtorEq, Nat.reduceAdd, Nat.reduceMul, Nat.reduceLeDiff, Nat.reduceLT, Nat.reduceEqDiff]
        ((repeat' (with_reducible apply And.intro)) <;> try ((first | first | assumption | trivial | exact (fun hq => by rw [hq]; rfl) | exact i64_of (by omega) (by omega) | omega | (simp; done) | (simp; omega) | (intro hsc; have hs0 := hsc; (try have hsd := of_decide_eq_true hsc); (try simp only [Bool.not_eq_true', Bool.or_eq_false_iff, Bool.and_eq_true, Bool.or_eq_true, decide_eq_true_eq, decide_eq_false_iff_not] at hsc); (repeat' (with_reducible apply And.intro)) <;> (first | assumption | trivial | exact (fun hq => by rw [hq]; rfl) | exact i64_of (by omega) (by omega) | omega | (simp; done) | (simp; omega) | (intro hse; simp [hse, hs0]; done) | (intro hse; simp only [hse, hs0, Bool.true_and, Bool.and_true, Bool.not_false, Bool.not_true, Bool.and_self]; done))))))
        all_goals first
          | exact fin_S (stm l (k + 1 + 1 + 1)) rfl ⟨_, _, rfl, by simp only [List.length_append, List.length_drop, List.length_take]; omega, rfl, by omega⟩
          | (simp only [List.length_append, List.length_drop, List.length_take]; omega)
end
end Go.Proofs.YthfpehmbellmcaaGreatDoor

/- The maker of changes: only bounds are told. -/
namespace Go.Proofs.YthfpehmbellmcaaGreatDoor
open Go.RowKit
set_option linter.unusedVariables false
set_option linter.unusedSimpArgs false
set_option linter.defProp false

/- (*paperchase/chasemake.Stream).Changes -/
def ir_chasemake_Stream_Changes : IC :=
  (.seq (.reg [⟨some 4, .mov (.c (.nl 3)), none⟩])
    (.seq (.reg [⟨some 7, .mov (.t 1), none⟩,
      ⟨some 8, .mov (.t 0), none⟩,
      ⟨some 9, .mov (.t 0), none⟩,
      ⟨some 10, .mov (.t 1), none⟩,
      ⟨some 11, .call 47 [.t 9, .t 10, .c (.str [97, 98, 32, 120, 10])], none⟩,
      ⟨some 12, .call 47 [.t 8, .t 11, .c (.str [99, 100, 32])], none⟩,
      ⟨none, .fz (.t 12), none⟩,
      ⟨some 13, .call 46 [.t 7, .t 12], none⟩,
      ⟨some 5, .mov (.t 13), none⟩])
    (.seq (.seq (.reg [⟨some 14, .mov (.t 0), none⟩,
      ⟨some 15, .call 28 [.t 14, .c (.int .i64 3)], none⟩,
      ⟨some 16, .mov (.t 15), none⟩,
      ⟨some 17, .mov (.t 5), (some (16, true))⟩,
      ⟨some 18, .len (.t 17), (some (16, true))⟩,
      ⟨some 19, .bin .gtr (.t 18) (.c (.int .i64 0)), (some (16, true))⟩,
      ⟨some 20, .pick (.t 16) (.t 19) (.c (.bool false)), none⟩])
    (.cond (.t 20) (.seq (.reg [⟨some 21, .mov (.t 5), none⟩,
      ⟨some 22, .mov (.t 0), none⟩,
      ⟨some 23, .mov (.t 5), none⟩,
      ⟨some 24, .len (.t 23), none⟩,
      ⟨some 25, .call 45 [.t 22, .t 24], none⟩,
      ⟨some 26, .ixa 3 (.t 21) (.t 25), none⟩,
      ⟨some 6, .mov (.t 26), none⟩])
    (.seq (.reg [⟨some 27, .mov (.t 0), none⟩,
      ⟨some 28, .call 45 [.t 27, .c (.int .i64 5)], none⟩])
    (.block 0 (.seq (.reg [⟨some 36, .bin .eql (.t 28) (.c (.int .i64 0)), none⟩,
      ⟨some 35, .mov (.t 36), none⟩])
    (.cond (.t 35) (.drg [⟨some 37, .mov (.t 6), none⟩,
      ⟨some 38, .nck (.t 37), none⟩,
      ⟨some 39, .fla 0 (.t 38), none⟩,
      ⟨some 40, .ldl 1 false (.t 39), none⟩,
      ⟨some 41, .mov (.t 0), none⟩,
      ⟨some 42, .dcall true 48 [.t 41, .c (.int .i64 (-2)), .c (.int .i64 2)], none⟩,
      ⟨some 43, .bin .add (.t 40) (.t 42), none⟩,
      ⟨some 44, .nck (.t 37), none⟩,
      ⟨some 45, .fla 0 (.t 44), none⟩,
      ⟨none, .st 1 (.t 45) (.t 43), none⟩]) (.seq (.reg [⟨some 47, .bin .eql (.t 28) (.c (.int .i64 1)), none⟩,
      ⟨some 46, .mov (.t 47), none⟩])
    (.cond (.t 46) (.reg [⟨some 48, .mov (.t 6), none⟩,
      ⟨some 49, .mov (.t 6), none⟩,
      ⟨some 50, .nck (.t 49), none⟩,
      ⟨some 51, .fla 1 (.t 50), none⟩,
      ⟨some 52, .ld 1 false (.t 51), none⟩,
      ⟨some 53, .call 37 [.t 52], none⟩,
      ⟨some 54, .mov (.t 0), none⟩,
      ⟨some 55, .bsl 1 [.c (.str [97]), .c (.str []), .c (.str [97, 32, 98]), .c (.str [10])], none⟩,
      ⟨some 56, .call 32 [.t 54, .t 55], none⟩,
      ⟨none, .fz (.t 56), none⟩,
      ⟨some 57, .bsl 1 [.t 56], none⟩,
      ⟨some 58, .app 9 1 16 (.t 53) (.t 57), none⟩,
      ⟨none, .fz (.t 58), none⟩,
      ⟨some 59, .nck (.t 48), none⟩,
      ⟨some 60, .fla 1 (.t 59), none⟩,
      ⟨none, .st 1 (.t 60) (.t 58), none⟩]) (.seq (.reg [⟨some 62, .bin .eql (.t 28) (.c (.int .i64 2)), none⟩,
      ⟨some 61, .mov (.t 62), none⟩])
    (.cond (.t 61) (.reg [⟨some 63, .mov (.t 6), none⟩,
      ⟨some 64, .mov (.t 6), none⟩,
      ⟨some 65, .nck (.t 64), none⟩,
      ⟨some 66, .fla 2 (.t 65), none⟩,
      ⟨some 67, .ld 1 false (.t 66), none⟩,
      ⟨some 68, .call 37 [.t 67], none⟩,
      ⟨some 69, .mov (.t 0), none⟩,
      ⟨some 70, .call 33 [.c (.str [120]), .c (.int .i64 20000)], none⟩,
      ⟨some 71, .bsl 1 [.c (.str [97]), .c (.str []), .c (.str [97, 32, 98]), .c (.str [10]), .t 70], none⟩,
      ⟨some 72, .call 32 [.t 69, .t 71], none⟩,
      ⟨none, .fz (.t 72), none⟩,
      ⟨some 73, .bsl 1 [.t 72], none⟩,
      ⟨some 74, .app 9 1 16 (.t 68) (.t 73), none⟩,
      ⟨none, .fz (.t 74), none⟩,
      ⟨some 75, .nck (.t 63), none⟩,
      ⟨some 76, .fla 2 (.t 75), none⟩,
      ⟨none, .st 1 (.t 76) (.t 74), none⟩]) (.seq (.reg [⟨some 78, .bin .eql (.t 28) (.c (.int .i64 3)), none⟩,
      ⟨some 77, .mov (.t 78), none⟩])
    (.cond (.t 77) (.reg [⟨some 79, .mov (.t 6), none⟩,
      ⟨some 80, .mov (.t 6), none⟩,
      ⟨some 81, .nck (.t 79), none⟩,
      ⟨some 82, .fla 1 (.t 81), none⟩,
      ⟨none, .st 1 (.t 82) (.c (.nl 1)), none⟩,
      ⟨some 83, .nck (.t 80), none⟩,
      ⟨some 84, .fla 2 (.t 83), none⟩,
      ⟨none, .st 1 (.t 84) (.c (.nl 1)), none⟩]) (.reg [⟨some 29, .mov (.t 5), none⟩,
      ⟨some 30, .mov (.t 5), none⟩,
      ⟨some 31, .ixa 3 (.t 30) (.c (.int .i64 0)), none⟩,
      ⟨some 32, .ld 3 true (.t 31), none⟩,
      ⟨some 33, .bsl 3 [.t 32], none⟩,
      ⟨some 34, .app 76 3 56 (.t 29) (.t 33), none⟩,
      ⟨some 5, .mov (.t 34), none⟩])))))))))))) .skip))
    (.cut (.seq (.reg [⟨some 85, .mov (.t 5), none⟩,
      ⟨some 4, .mov (.t 85), none⟩])
    .ret)))))
def rs_chasemake_Stream_Changes : List IRes := [.t 4]
theorem ck_chasemake_Stream_Changes : chkF Tryz.prog Tryz.f16 ir_chasemake_Stream_Changes rs_chasemake_Stream_Changes 86 = true := by kernel_rfl

theorem chC_at {n : Nat} : ∀ (l : List Chg) (p : Nat), ChC n p l → ∀ c ∈ l, c.1 ≤ n
  | [], _, _, c, hc => by cases hc
  | d :: r, p, h, c, hc => by
    obtain ⟨h1, h2, h3⟩ := h
    rcases List.mem_cons.1 hc with rfl | hc
    · omega
    · exact chC_at r _ h3 c hc
/-- Bounds a little tighter. -/
def ChT (l : List ChI) : Prop := l.length ≤ 1900 ∧ ∀ c ∈ l, 0 ≤ c.1 ∧ c.1 ≤ 900000 ∧ wgt c.2.1 ≤ 50000 ∧ wgt c.2.2 ≤ 50000
theorem chT_B {l : List ChI} (h : ChT l) : ChB l := ⟨by have := h.1; omega, fun c hc => by have := h.2 c hc; omega⟩
theorem chB_set {l : List ChI} (h : ChT l) (i : Nat) (c : ChI) (hc : -1000000 ≤ c.1 ∧ c.1 ≤ 1000000 ∧ wgt c.2.1 ≤ 100000 ∧ wgt c.2.2 ≤ 100000) : ChB (l.set i c) := ⟨by rw [List.length_set]; have := h.1; omega, fun d hd => by
  rcases List.mem_or_eq_of_mem_set hd with hd | rfl
  · exact (chT_B h).2 d hd
  · exact hc⟩
set_option maxHeartbeats 8000000 in
set_option maxRecDepth 100000 in
theorem Changes_ok (l : List Int) (k : Nat) (t : List UInt8) (hk : k ≤ 800000) (hl : l.length ≤ 9223372036854775807) (ht : t.length ≤ 500) :
    SCall Tryz.prog E0 16 T (stm l k) [.str t] (fun x cs' => ∃ cl k', x = .sl 3 (ciE cl) ∧ ChB cl ∧ cs' = stm l k' ∧ k' ≤ k + 20) := by
  unfold SCall
  refine gcallP mixed Tryz.func16 ck_chasemake_Stream_Changes ?_
  simp only [a0, l0, OS.ao, List.map_cons, List.map_nil, List.length_cons, List.length_nil, List.cons_append, List.nil_append, Nat.reduceSub, Nat.reduceAdd, List.replicate_succ, List.replicate_zero, ir_chasemake_Stream_Changes, rs_chasemake_Stream_Changes, ZZ, YY, Ze, ite_true, ite_false, forall_const, reduceCtorEq, Nat.reduceAdd, Nat.reduceMul, Nat.reduceLeDiff, Nat.reduceLT, Nat.reduceEqDiff]
  refine useS (Changed_ok l k t [97, 98, 32, 120, 10] (by omega) hl (by omega) (by simp)) rfl rfl rfl (by simp only [ZZ, YY, Ze, ite_true, ite_false, forall_const, reduceCtorEq, Nat.reduceAdd, Nat.reduceMul, Nat.reduceLeDiff, Nat.reduceLT, Nat.reduceEqDiff]) ?_
  rintro x cs' ⟨u1, k1, rfl, hu1, rfl, hk1⟩
  simp only [List.length_cons, List.length_nil] at hu1
  simp only [ZZ, YY, Ze, ite_true, ite_false, forall_const, reduceCtorEq, Nat.reduceAdd, Nat.reduceMul, Nat.reduceLeDiff, Nat.reduceLT, Nat.reduceEqDiff]
  refine useS (Changed_ok l k1 u1 [99, 100, 32] (by omega) hl (by omega) (by simp)) rfl rfl rfl (by simp only [ZZ, YY, Ze, ite_true, ite_false, forall_const, reduceCtorEq, Nat.reduceAdd, Nat.reduceMul, Nat.reduceLeDiff, Nat.reduceLT, Nat.reduceEqDiff]) ?_
  rintro x cs' ⟨u, k2, rfl, hu, rfl, hk2⟩
  simp only [List.length_cons, List.length_nil] at hu
  have t1 := tokF_len t
  have t2 := tokF_len u
  have t3 := tokF_wgt t
  have t4 := tokF_wgt u
  simp only [ZZ, YY, Ze, ite_true, ite_false, forall_const, reduceCtorEq, Nat.reduceAdd, Nat.reduceMul, Nat.reduceLeDiff, Nat.reduceLT, Nat.reduceEqDiff]
  refine useF (DifferOf_ok t u (by omega) (by omega) (by omega) (by omega)) rfl rfl ?_
  rintro es rfl
  have hT0 : ChT (liftC (chF (tokF t) (tokF u))) := by
    refine ⟨by have := chF_len (tokF t) (tokF u); simp only [liftC, List.length_map]; omega, fun c hc => ?_⟩
    simp only [liftC, List.mem_map] at hc
    obtain ⟨d, hd, rfl⟩ := hc
    have h1 := chF_mem (tokF t) (tokF u) d hd
    have h2 := chC_at _ 0 (chF_chC (tokF t) (tokF u)) d hd
    simp only
    omega
  rw [← ciE_lift]
  generalize liftC (chF (tokF t) (tokF u)) = cl at *
  have hB0 := chT_B hT0
  have hcl := hT0.1
  simp only [ZZ, YY, Ze, ite_true, ite_false, forall_const, reduceCtorEq, Nat.reduceAdd, Nat.reduceMul, Nat.reduceLeDiff, Nat.reduceLT, Nat.reduceEqDiff, ciE_len]
  refine useS (Flip_ok l k2 3 (by omega) hl (by omega)) rfl rfl rfl (by simp only [ZZ, YY, Ze, ite_true, ite_false, forall_const, reduceCtorEq, Nat.reduceAdd, Nat.reduceMul, Nat.reduceLeDiff, Nat.reduceLT, Nat.reduceEqDiff]) ?_
  rintro y cs' ⟨f, rfl, rfl⟩
  simp only [ZZ, YY, Ze, ite_true, ite_false, forall_const, reduceCtorEq, Nat.reduceAdd, Nat.reduceMul, Nat.reduceLeDiff, Nat.reduceLT, Nat.reduceEqDiff, ciE_len]
  ((repeat' (with_reducible apply And.intro)) <;> try ((first | first | assumption | trivial | exact (fun hq => by rw [hq]; rfl) | exact i64_of (by omega) (by omega) | omega | (simp; done) | (simp; omega) | (intro hsc; have hs0 := hsc; (try have hsd := of_decide_eq_true hsc); (try simp only [Bool.not_eq_true', Bool.or_eq_false_iff, Bool.and_eq_true, Bool.or_eq_true, decide_eq_true_eq, decide_eq_false_iff_not] at hsc); (repeat' (with_reducible apply And.intro)) <;> (first | assumption | trivial | exact (fun hq => by rw [hq]; rfl) | exact i64_of (by omega) (by omega) | omega | (simp; done) | (simp; omega) | (intro hse; simp [hse, hs0]; done) | (intro hse; simp only [hse, hs0, Bool.true_and, Bool.and_true, Bool.not_false, Bool.not_true, Bool.and_self]; done))))))
  refine br ?_ ?_
  · intro hf
    have hc0 : 0 < cl.length := by
      simp only [Bool.and_eq_true, decide_eq_true_eq] at hf
      omega
    simp only [ZZ, YY, Ze, ite_true, ite_false, forall_const, reduceCtorEq, Nat.reduceAdd, Nat.reduceMul, Nat.reduceLeDiff, Nat.reduceLT, Nat.reduceEqDiff, ciE_len]
    ((repeat' (with_reducible apply And.intro)) <;> try ((first | first | assumption | trivial | exact (fun hq => by rw [hq]; rfl) | exact i64_of (by omega) (by omega) | omega | (simp; done) | (simp; omega) | (intro hsc; have hs0 := hsc; (try have hsd := of_decide_eq_true hsc); (try simp only [Bool.not_eq_true', Bool.or_eq_false_iff, Bool.and_eq_true, Bool.or_eq_true, decide_eq_true_eq, decide_eq_false_iff_not] at hsc); (repeat' (with_reducible apply And.intro)) <;> (first | assumption | trivial | exact (fun hq => by rw [hq]; rfl) | exact i64_of (by omega) (by omega) | omega | (simp; done) | (simp; omega) | (intro hse; simp [hse, hs0]; done) | (intro hse; simp only [hse, hs0, Bool.true_and, Bool.and_true, Bool.not_false, Bool.not_true, Bool.and_self]; done))))))
    refine useS (Next_ok l (k2 + 1) cl.length (by omega) hl (by omega)) rfl rfl rfl (by simp only [ZZ, YY, Ze, ite_true, ite_false, forall_const, reduceCtorEq, Nat.reduceAdd, Nat.reduceMul, Nat.reduceLeDiff, Nat.reduceLT, Nat.reduceEqDiff]) ?_
    rintro x cs' ⟨y, rfl, rfl⟩
    obtain ⟨i, hi, hy⟩ := below_idx y cl.length hc0
    rw [hy]
    obtain ⟨c, hci⟩ : ∃ c, cl[i]? = some c := ⟨_, List.getElem?_eq_getElem hi⟩
    have hg := ciE_get hci
    obtain ⟨c1, c2, c3, c4⟩ := hT0.2 c (List.mem_of_getElem? hci)
    obtain ⟨at_, dr, ad⟩ := c
    simp only at hg c1 c2 c3 c4
    have w1 := wgt_len dr
    have w2 := wgt_len ad
    simp only [ZZ, YY, Ze, ite_true, ite_false, forall_const, reduceCtorEq, Nat.reduceAdd, Nat.reduceMul, Nat.reduceLeDiff, Nat.reduceLT, Nat.reduceEqDiff, ciE_len]
    ((repeat' (with_reducible apply And.intro)) <;> try ((first | first | assumption | trivial | exact (fun hq => by rw [hq]; rfl) | exact i64_of (by omega) (by omega) | omega | (simp; done) | (simp; omega) | (intro hsc; have hs0 := hsc; (try have hsd := of_decide_eq_true hsc); (try simp only [Bool.not_eq_true', Bool.or_eq_false_iff, Bool.and_eq_true, Bool.or_eq_true, decide_eq_true_eq, decide_eq_false_iff_not] at hsc); (repeat' (with_reducible apply And.intro)) <;> (first | assumption | trivial | exact (fun hq => by rw [hq]; rfl) | exact i64_of (by omega) (by omega) | omega | (simp; done) | (simp; omega) | (intro hse; simp [hse, hs0]; done) | (intro hse; simp only [hse, hs0, Bool.true_and, Bool.and_true, Bool.not_false, Bool.not_true, Bool.and_self]; done))))))
    refine useS (Next_ok l (k2 + 1 + 1) 5 (by omega) hl (by decide)) rfl rfl rfl (by simp only [ZZ, YY, Ze, ite_true, ite_false, forall_const, reduceCtorEq, Nat.reduceAdd, Nat.reduceMul, Nat.reduceLeDiff, Nat.reduceLT, Nat.reduceEqDiff]) ?_
    rintro x cs' ⟨z, rfl, rfl⟩
    generalize below z 5 = sw at *
    have e3 : ∀ (l : List (List UInt8)) (s : List UInt8), strE l ++ [[PV.str s]] = strE (l ++ [s]) := by intro l s; simp [strE]
    have hw1 : ∀ (a : Toks) (v : List UInt8), wgt (a ++ [v]) = wgt a + (v.length + 1) := fun a v => by rw [wgt_app]; simp [wgt]
    simp only [ZZ, YY, Ze, ite_true, ite_false, forall_const, reduceCtorEq, Nat.reduceAdd, Nat.reduceMul, Nat.reduceLeDiff, Nat.reduceLT, Nat.reduceEqDiff]
    refine br ?_ ?_
    · intro _
      simp only [ZZ, YY, Ze, ite_true, ite_false, forall_const, reduceCtorEq, Nat.reduceAdd, Nat.reduceMul, Nat.reduceLeDiff, Nat.reduceLT, Nat.reduceEqDiff]
      refine drg0 ?_
      simp only [ZZ, YY, Ze, ite_true, ite_false, forall_const, reduceCtorEq, Nat.reduceAdd, Nat.reduceMul, Nat.reduceLeDiff, Nat.reduceLT, Nat.reduceEqDiff, hg, ciE_len]
      ((repeat' (with_reducible apply And.intro)) <;> try ((first | first | assumption | trivial | exact (fun hq => by rw [hq]; rfl) | exact i64_of (by omega) (by omega) | omega | (simp; done) | (simp; omega) | (intro hsc; have hs0 := hsc; (try have hsd := of_decide_eq_true hsc); (try simp only [Bool.not_eq_true', Bool.or_eq_false_iff, Bool.and_eq_true, Bool.or_eq_true, decide_eq_true_eq, decide_eq_false_iff_not] at hsc); (repeat' (with_reducible apply And.intro)) <;> (first | assumption | trivial | exact (fun hq => by rw [hq]; rfl) | exact i64_of (by omega) (by omega) | omega | (simp; done) | (simp; omega) | (intro hse; simp [hse, hs0]; done) | (intro hse; simp only [hse, hs0, Bool.true_and, Bool.and_true, Bool.not_false, Bool.not_true, Bool.and_self]; done))))))
      refine useD (Range_ok l (k2 + 1 + 1 + 1) (-2) 2 (by omega) hl (by omega) (by omega) (by omega)) ⟨_, _, 0, rfl, by omega, by omega, rfl⟩ rfl rfl rfl (by simp only [ZZ, YY, Ze, ite_true, ite_false, forall_const, reduceCtorEq, Nat.reduceAdd, Nat.reduceMul, Nat.reduceLeDiff, Nat.reduceLT, Nat.reduceEqDiff]) (fun _ => ⟨0, rfl⟩) ?_
      rintro x cs' ⟨v, rfl, hv1, hv2, rfl⟩
      have hset := ciE_set cl i (at_ + v, dr, ad)
      simp only at hset
      simp only [ZZ, YY, Ze, ite_true, ite_false, forall_const, reduceCtorEq, Nat.reduceAdd, Nat.reduceMul, Nat.reduceLeDiff, Nat.reduceLT, Nat.reduceEqDiff, hg, ciE_len, hset]
      ((repeat' (with_reducible apply And.intro)) <;> try ((first | first | assumption | trivial | exact (fun hq => by rw [hq]; rfl) | exact i64_of (by omega) (by omega) | omega | (simp; done) | (simp; omega) | (intro hsc; have hs0 := hsc; (try have hsd := of_decide_eq_true hsc); (try simp only [Bool.not_eq_true', Bool.or_eq_false_iff, Bool.and_eq_true, Bool.or_eq_true, decide_eq_true_eq, decide_eq_false_iff_not] at hsc); (repeat' (with_reducible apply And.intro)) <;> (first | assumption | trivial | exact (fun hq => by rw [hq]; rfl) | exact i64_of (by omega) (by omega) | omega | (simp; done) | (simp; omega) | (intro hse; simp [hse, hs0]; done) | (intro hse; simp only [hse, hs0, Bool.true_and, Bool.and_true, Bool.not_false, Bool.not_true, Bool.and_self]; done))))))
      refine cut_same (by simp only [ZZ, YY, Ze, ite_true, ite_false, forall_const, reduceCtorEq, Nat.reduceAdd, Nat.reduceMul, Nat.reduceLeDiff, Nat.reduceLT, Nat.reduceEqDiff]) ?_
      simp only [ZZ, YY, Ze, ite_true, ite_false, forall_const, reduceCtorEq, Nat.reduceAdd, Nat.reduceMul, Nat.reduceLeDiff, Nat.reduceLT, Nat.reduceEqDiff]
      exact fin_S (stm l (k2 + 1 + 1 + 1 + 1)) rfl ⟨_, _, rfl, chB_set hT0 i (at_ + v, dr, ad) ⟨by simp only; omega, by simp only; omega, by simp only; omega, by simp only; omega⟩, rfl, by omega⟩
    intro _
    simp only [ZZ, YY, Ze, ite_true, ite_false, forall_const, reduceCtorEq, Nat.reduceAdd, Nat.reduceMul, Nat.reduceLeDiff, Nat.reduceLT, Nat.reduceEqDiff]
    refine br ?_ ?_
    · intro _
      simp only [ZZ, YY, Ze, ite_true, ite_false, forall_const, reduceCtorEq, Nat.reduceAdd, Nat.reduceMul, Nat.reduceLeDiff, Nat.reduceLT, Nat.reduceEqDiff, hg, ciE_len]
      ((repeat' (with_reducible apply And.intro)) <;> try ((first | first | assumption | trivial | exact (fun hq => by rw [hq]; rfl) | exact i64_of (by omega) (by omega) | omega | (simp; done) | (simp; omega) | (intro hsc; have hs0 := hsc; (try have hsd := of_decide_eq_true hsc); (try simp only [Bool.not_eq_true', Bool.or_eq_false_iff, Bool.and_eq_true, Bool.or_eq_true, decide_eq_true_eq, decide_eq_false_iff_not] at hsc); (repeat' (with_reducible apply And.intro)) <;> (first | assumption | trivial | exact (fun hq => by rw [hq]; rfl) | exact i64_of (by omega) (by omega) | omega | (simp; done) | (simp; omega) | (intro hse; simp [hse, hs0]; done) | (intro hse; simp only [hse, hs0, Bool.true_and, Bool.and_true, Bool.not_false, Bool.not_true, Bool.and_self]; done))))))
      refine useF (CloneS_ok (strE dr) (by rw [strE_len]; omega)) rfl rfl ?_
      rintro es rfl
      simp only [ZZ, YY, Ze, ite_true, ite_false, forall_const, reduceCtorEq, Nat.reduceAdd, Nat.reduceMul, Nat.reduceLeDiff, Nat.reduceLT, Nat.reduceEqDiff]
      refine useS (one_ok l (k2 + 1 + 1 + 1) [[97], [], [97, 32, 98], [10]] (by omega) hl (by simp) (by simp)) rfl rfl rfl (by simp only [ZZ, YY, Ze, ite_true, ite_false, forall_const, reduceCtorEq, Nat.reduceAdd, Nat.reduceMul, Nat.reduceLeDiff, Nat.reduceLT, Nat.reduceEqDiff]) ?_
      rintro x cs' ⟨v, rfl, hv, rfl⟩
      have hvl : v.length ≤ 4 := (show ∀ s ∈ ([[97], [], [97, 32, 98], [10]] : Toks), s.length ≤ 4 by decide) v hv
      have hset := ciE_set cl i (at_, dr ++ [v], ad)
      have hwv := hw1 dr v
      simp only at hset
      simp only [ZZ, YY, Ze, ite_true, ite_false, forall_const, reduceCtorEq, Nat.reduceAdd, Nat.reduceMul, Nat.reduceLeDiff, Nat.reduceLT, Nat.reduceEqDiff, hg, ciE_len, strE_len, e3, hset]
      ((repeat' (with_reducible apply And.intro)) <;> try ((first | first | assumption | trivial | exact (fun hq => by rw [hq]; rfl) | exact i64_of (by omega) (by omega) | omega | (simp; done) | (simp; omega) | (intro hsc; have hs0 := hsc; (try have hsd := of_decide_eq_true hsc); (try simp only [Bool.not_eq_true', Bool.or_eq_false_iff, Bool.and_eq_true, Bool.or_eq_true, decide_eq_true_eq, decide_eq_false_iff_not] at hsc); (repeat' (with_reducible apply And.intro)) <;> (first | assumption | trivial | exact (fun hq => by rw [hq]; rfl) | exact i64_of (by omega) (by omega) | omega | (simp; done) | (simp; omega) | (intro hse; simp [hse, hs0]; done) | (intro hse; simp only [hse, hs0, Bool.true_and, Bool.and_true, Bool.not_false, Bool.not_true, Bool.and_self]; done))))))
      refine cut_same (by simp only [ZZ, YY, Ze, ite_true, ite_false, forall_const, reduceCtorEq, Nat.reduceAdd, Nat.reduceMul, Nat.reduceLeDiff, Nat.reduceLT, Nat.reduceEqDiff]) ?_
      simp only [ZZ, YY, Ze, ite_true, ite_false, forall_const, reduceCtorEq, Nat.reduceAdd, Nat.reduceMul, Nat.reduceLeDiff, Nat.reduceLT, Nat.reduceEqDiff]
      exact fin_S (stm l (k2 + 1 + 1 + 1 + 1)) rfl ⟨_, _, rfl, chB_set hT0 i (at_, dr ++ [v], ad) ⟨by simp only; omega, by simp only; omega, by simp only; omega, by simp only; omega⟩, rfl, by omega⟩
    intro _
    simp only [ZZ, YY, Ze, ite_true, ite_false, forall_const, reduceCtorEq, Nat.reduceAdd, Nat.reduceMul, Nat.reduceLeDiff, Nat.reduceLT, Nat.reduceEqDiff]
    refine br ?_ ?_
    · intro _
      simp only [ZZ, YY, Ze, ite_true, ite_false, forall_const, reduceCtorEq, Nat.reduceAdd, Nat.reduceMul, Nat.reduceLeDiff, Nat.reduceLT, Nat.reduceEqDiff, hg, ciE_len]
      ((repeat' (with_reducible apply And.intro)) <;> try ((first | first | assumption | trivial | exact (fun hq => by rw [hq]; rfl) | exact i64_of (by omega) (by omega) | omega | (simp; done) | (simp; omega) | (intro hsc; have hs0 := hsc; (try have hsd := of_decide_eq_true hsc); (try simp only [Bool.not_eq_true', Bool.or_eq_false_iff, Bool.and_eq_true, Bool.or_eq_true, decide_eq_true_eq, decide_eq_false_iff_not] at hsc); (repeat' (with_reducible apply And.intro)) <;> (first | assumption | trivial | exact (fun hq => by rw [hq]; rfl) | exact i64_of (by omega) (by omega) | omega | (simp; done) | (simp; omega) | (intro hse; simp [hse, hs0]; done) | (intro hse; simp only [hse, hs0, Bool.true_and, Bool.and_true, Bool.not_false, Bool.not_true, Bool.and_self]; done))))))
      refine useF (CloneS_ok (strE ad) (by rw [strE_len]; omega)) rfl rfl ?_
      rintro es rfl
      simp only [ZZ, YY, Ze, ite_true, ite_false, forall_const, reduceCtorEq, Nat.reduceAdd, Nat.reduceMul, Nat.reduceLeDiff, Nat.reduceLT, Nat.reduceEqDiff]
      refine use1 (Repeat_ok [120] 20000 (by omega) (by simp)) rfl (.inl rfl) ?_
      have hrl : (Lib.repeatL [120] 20000).length ≤ 20000 := by rw [Lib.repeatL_length]; exact Nat.le_refl _
      generalize Lib.repeatL [120] 20000 = rp at *
      simp only [ZZ, YY, Ze, ite_true, ite_false, forall_const, reduceCtorEq, Nat.reduceAdd, Nat.reduceMul, Nat.reduceLeDiff, Nat.reduceLT, Nat.reduceEqDiff]
      refine useS (one_ok l (k2 + 1 + 1 + 1) [[97], [], [97, 32, 98], [10], rp] (by omega) hl (by simp) (by simp)) rfl rfl rfl (by simp only [ZZ, YY, Ze, ite_true, ite_false, forall_const, reduceCtorEq, Nat.reduceAdd, Nat.reduceMul, Nat.reduceLeDiff, Nat.reduceLT, Nat.reduceEqDiff]) ?_
      rintro x cs' ⟨v, rfl, hv, rfl⟩
      have hvl : v.length ≤ 20000 := by
        simp only [List.mem_cons, List.not_mem_nil, or_false] at hv
        rcases hv with rfl | rfl | rfl | rfl | rfl
        · simp
        · simp
        · simp
        · simp
        · exact hrl
      have hset := ciE_set cl i (at_, dr, ad ++ [v])
      have hwv := hw1 ad v
      simp only at hset
      simp only [ZZ, YY, Ze, ite_true, ite_false, forall_const, reduceCtorEq, Nat.reduceAdd, Nat.reduceMul, Nat.reduceLeDiff, Nat.reduceLT, Nat.reduceEqDiff, hg, ciE_len, strE_len, e3, hset]
      ((repeat' (with_reducible apply And.intro)) <;> try ((first | first | assumption | trivial | exact (fun hq => by rw [hq]; rfl) | exact i64_of (by omega) (by omega) | omega | (simp; done) | (simp; omega) | (intro hsc; have hs0 := hsc; (try have hsd := of_decide_eq_true hsc); (try simp only [Bool.not_eq_true', Bool.or_eq_false_iff, Bool.and_eq_true, Bool.or_eq_true, decide_eq_true_eq, decide_eq_false_iff_not] at hsc); (repeat' (with_reducible apply And.intro)) <;> (first | assumption | trivial | exact (fun hq => by rw [hq]; rfl) | exact i64_of (by omega) (by omega) | omega | (simp; done) | (simp; omega) | (intro hse; simp [hse, hs0]; done) | (intro hse; simp only [hse, hs0, Bool.true_and, Bool.and_true, Bool.not_false, Bool.not_true, Bool.and_self]; done))))))
      refine cut_same (by simp only [ZZ, YY, Ze, ite_true, ite_false, forall_const, reduceCtorEq, Nat.reduceAdd, Nat.reduceMul, Nat.reduceLeDiff, Nat.reduceLT, Nat.reduceEqDiff]) ?_
      simp only [ZZ, YY, Ze, ite_true, ite_false, forall_const, reduceCtorEq, Nat.reduceAdd, Nat.reduceMul, Nat.reduceLeDiff, Nat.reduceLT, Nat.reduceEqDiff]
      exact fin_S (stm l (k2 + 1 + 1 + 1 + 1)) rfl ⟨_, _, rfl, chB_set hT0 i (at_, dr, ad ++ [v]) ⟨by simp only; omega, by simp only; omega, by simp only; omega, by simp only; omega⟩, rfl, by omega⟩
    intro _
    simp only [ZZ, YY, Ze, ite_true, ite_false, forall_const, reduceCtorEq, Nat.reduceAdd, Nat.reduceMul, Nat.reduceLeDiff, Nat.reduceLT, Nat.reduceEqDiff]
    refine br ?_ ?_
    · intro _
      have hs1 : (ciE cl).set i [int at_, PV.sl 1 [], PV.sl 1 (strE ad)] = ciE (cl.set i (at_, [], ad)) := ciE_set cl i (at_, [], ad)
      have hg1 : (ciE (cl.set i (at_, [], ad))).getD i [] = [int at_, PV.sl 1 [], PV.sl 1 (strE ad)] := ciE_get (List.getElem?_set_self hi)
      have hs2 : (ciE (cl.set i (at_, [], ad))).set i [int at_, PV.sl 1 [], PV.sl 1 []] = ciE (cl.set i (at_, [], [])) := by
        have := ciE_set (cl.set i (at_, [], ad)) i (at_, [], [])
        rw [List.set_set] at this
        exact this
      have hl1 : (cl.set i (at_, [], ad)).length = cl.length := List.length_set
      simp only [ZZ, YY, Ze, ite_true, ite_false, forall_const, reduceCtorEq, Nat.reduceAdd, Nat.reduceMul, Nat.reduceLeDiff, Nat.reduceLT, Nat.reduceEqDiff, hg, ciE_len, hs1, hg1, hs2, hl1]
      ((repeat' (with_reducible apply And.intro)) <;> try ((first | first | assumption | trivial | exact (fun hq => by rw [hq]; rfl) | exact i64_of (by omega) (by omega) | omega | (simp; done) | (simp; omega) | (intro hsc; have hs0 := hsc; (try have hsd := of_decide_eq_true hsc); (try simp only [Bool.not_eq_true', Bool.or_eq_false_iff, Bool.and_eq_true, Bool.or_eq_true, decide_eq_true_eq, decide_eq_false_iff_not] at hsc); (repeat' (with_reducible apply And.intro)) <;> (first | assumption | trivial | exact (fun hq => by rw [hq]; rfl) | exact i64_of (by omega) (by omega) | omega | (simp; done) | (simp; omega) | (intro hse; simp [hse, hs0]; done) | (intro hse; simp only [hse, hs0, Bool.true_and, Bool.and_true, Bool.not_false, Bool.not_true, Bool.and_self]; done))))))
      refine cut_same (by simp only [ZZ, YY, Ze, ite_true, ite_false, forall_const, reduceCtorEq, Nat.reduceAdd, Nat.reduceMul, Nat.reduceLeDiff, Nat.reduceLT, Nat.reduceEqDiff]) ?_
      simp only [ZZ, YY, Ze, ite_true, ite_false, forall_const, reduceCtorEq, Nat.reduceAdd, Nat.reduceMul, Nat.reduceLeDiff, Nat.reduceLT, Nat.reduceEqDiff]
      exact fin_S (stm l (k2 + 1 + 1 + 1)) rfl ⟨_, _, rfl, chB_set hT0 i (at_, [], []) ⟨by simp only; omega, by simp only; omega, by simp [wgt], by simp [wgt]⟩, rfl, by omega⟩
    intro _
    obtain ⟨c0, hc0'⟩ : ∃ c0, cl[0]? = some c0 := ⟨_, List.getElem?_eq_getElem hc0⟩
    have hg0 : (ciE cl).getD (Int.toNat 0) [] = _ := ciE_get hc0'
    have hap : ciE cl ++ [[int c0.1, .sl 1 (strE c0.2.1), .sl 1 (strE c0.2.2)]] = ciE (cl ++ [c0]) := by rw [ciE_app]; rfl
    simp only [ZZ, YY, Ze, ite_true, ite_false, forall_const, reduceCtorEq, Nat.reduceAdd, Nat.reduceMul, Nat.reduceLeDiff, Nat.reduceLT, Nat.reduceEqDiff, hg0, ciE_len, hap]
    ((repeat' (with_reducible apply And.intro)) <;> try ((first | first | assumption | trivial | exact (fun hq => by rw [hq]; rfl) | exact i64_of (by omega) (by omega) | omega | (simp; done) | (simp; omega) | (intro hsc; have hs0 := hsc; (try have hsd := of_decide_eq_true hsc); (try simp only [Bool.not_eq_true', Bool.or_eq_false_iff, Bool.and_eq_true, Bool.or_eq_true, decide_eq_true_eq, decide_eq_false_iff_not] at hsc); (repeat' (with_reducible apply And.intro)) <;> (first | assumption | trivial | exact (fun hq => by rw [hq]; rfl) | exact i64_of (by omega) (by omega) | omega | (simp; done) | (simp; omega) | (intro hse; simp [hse, hs0]; done) | (intro hse; simp only [hse, hs0, Bool.true_and, Bool.and_true, Bool.not_false, Bool.not_true, Bool.and_self]; done))))))
    refine cut_same (by simp only [ZZ, YY, Ze, ite_true, ite_false, forall_const, reduceCtorEq, Nat.reduceAdd, Nat.reduceMul, Nat.reduceLeDiff, Nat.reduceLT, Nat.reduceEqDiff]) ?_
    simp only [ZZ, YY, Ze, ite_true, ite_false, forall_const, reduceCtorEq, Nat.reduceAdd, Nat.reduceMul, Nat.reduceLeDiff, Nat.reduceLT, Nat.reduceEqDiff]
    exact fin_S (stm l (k2 + 1 + 1 + 1)) rfl ⟨_, _, rfl, ⟨by rw [List.length_append]; simp; omega, fun d hd => by
      rcases List.mem_append.1 hd with hd | hd
      · exact hB0.2 d hd
      · rw [List.mem_singleton] at hd; subst hd; exact hB0.2 d (List.mem_of_getElem? hc0')⟩, rfl, by omega⟩
  · intro hf
    simp only [ZZ, YY, Ze, ite_true, ite_false, forall_const, reduceCtorEq, Nat.reduceAdd, Nat.reduceMul, Nat.reduceLeDiff, Nat.reduceLT, Nat.reduceEqDiff]
    refine cut_same (by simp only [ZZ, YY, Ze, ite_true, ite_false, forall_const, reduceCtorEq, Nat.reduceAdd, Nat.reduceMul, Nat.reduceLeDiff, Nat.reduceLT, Nat.reduceEqDiff]) ?_
    simp only [ZZ, YY, Ze, ite_true, ite_false, forall_const, reduceCtorEq, Nat.reduceAdd, Nat.reduceMul, Nat.reduceLeDiff, Nat.reduceLT, Nat.reduceEqDiff]
    exact fin_S (stm l (k2 + 1)) rfl ⟨cl, _, rfl, hB0, rfl, by omega⟩
end Go.Proofs.YthfpehmbellmcaaGreatDoor
