
/- Own texts, put together: M5 G1 M6 M7. -/
import Derived.Test.YtchjpcojfeckbaaDoorZ5
import Derived.Test.YtchjpcojfeckbaaDoorZ6
import Derived.Test.YtchjpcojfeckbaaDoorZ3
import Derived.Test.YtchjpcojfeckbaaDoorZ4
import Derived.Test.YtchjpcojfeckbaaDoorRep
/- Tokens put together, on both sides. -/
namespace Go.Proofs.YtchjpcojfeckbaaDoor
open Go.RowKit
set_option linter.unusedVariables false
set_option linter.unusedSimpArgs false
set_option linter.defProp false

/- paperchase/near.Join -/
def ir_near_Join_L0 : IC :=
  (.seq (.reg [⟨some 9, .bin .lss (.t 8) (.t 7), none⟩])
    (.seq (.cond (.t 9) .skip (.exit 0))
    (.seq (.block 1 (.seq (.reg [⟨some 10, .mov (.t 8), none⟩,
      ⟨some 11, .ixa 1 (.t 6) (.t 8), none⟩,
      ⟨some 12, .ld 1 false (.t 11), none⟩,
      ⟨some 4, .mov (.t 10), none⟩,
      ⟨some 5, .mov (.t 12), none⟩])
    (.seq (.seq (.reg [⟨some 13, .mov (.t 4), none⟩,
      ⟨some 14, .bin .gtr (.t 13) (.c (.int .i64 0)), none⟩,
      ⟨some 15, .mov (.t 14), none⟩,
      ⟨some 16, .mov (.t 5), (some (15, true))⟩,
      ⟨some 17, .bin .neq (.t 16) (.c (.str [10])), (some (15, true))⟩,
      ⟨some 18, .pick (.t 15) (.t 17) (.c (.bool false)), none⟩,
      ⟨some 19, .mov (.t 18), none⟩,
      ⟨some 20, .mov (.t 0), (some (19, true))⟩,
      ⟨some 21, .mov (.t 4), (some (19, true))⟩,
      ⟨some 22, .bin .sub (.t 21) (.c (.int .i64 1)), (some (19, true))⟩,
      ⟨some 23, .ixa 1 (.t 20) (.t 22), (some (19, true))⟩,
      ⟨some 24, .ld 1 false (.t 23), (some (19, true))⟩,
      ⟨some 25, .bin .neq (.t 24) (.c (.str [10])), (some (19, true))⟩,
      ⟨some 26, .pick (.t 19) (.t 25) (.c (.bool false)), none⟩])
    (.cond (.t 26) (.reg [⟨some 27, .call 48 [.t 3, .c (.int .u8 32)], none⟩]) .skip))
    (.cut (.reg [⟨some 28, .mov (.t 5), none⟩,
      ⟨some 29, .call 49 [.t 3, .t 28], none⟩])))))
    (.reg [⟨some 30, .bin .add (.t 8) (.c (.int .i64 1)), none⟩,
      ⟨some 8, .mov (.t 30), none⟩]))))
def ir_near_Join : IC :=
  (.seq (.reg [⟨some 2, .mov (.c (.str [])), none⟩])
    (.seq (.reg [⟨some 3, .alc 81 [.raw (.pointer none), .nl 1], none⟩])
    (.seq (.seq (.reg [⟨some 6, .mov (.t 0), none⟩,
      ⟨some 7, .len (.t 6), none⟩,
      ⟨some 8, .mov (.c (.int .i64 0)), none⟩])
    (.block 0 (.loop ir_near_Join_L0)))
    (.seq (.reg [⟨some 31, .call 50 [.t 3], none⟩,
      ⟨some 2, .mov (.t 31), none⟩])
    .ret))))
def rs_near_Join : List IRes := [.t 2]
theorem ck_near_Join : chkF Tryd.prog Tryd.f28 ir_near_Join rs_near_Join 32 = true := by kernel_rfl
/- paperchase/chaseref1.JoinOf -/
def ir_chaseref1_JoinOf_L0 : IC :=
  (.seq (.reg [⟨some 9, .bin .lss (.t 8) (.t 7), none⟩])
    (.seq (.cond (.t 9) .skip (.exit 0))
    (.seq (.block 1 (.seq (.reg [⟨some 10, .mov (.t 8), none⟩,
      ⟨some 11, .ixa 1 (.t 6) (.t 8), none⟩,
      ⟨some 12, .ld 1 false (.t 11), none⟩,
      ⟨some 4, .mov (.t 10), none⟩,
      ⟨some 5, .mov (.t 12), none⟩])
    (.seq (.seq (.reg [⟨some 13, .mov (.t 4), none⟩,
      ⟨some 14, .bin .gtr (.t 13) (.c (.int .i64 0)), none⟩,
      ⟨some 15, .mov (.t 14), none⟩,
      ⟨some 16, .mov (.t 5), (some (15, true))⟩,
      ⟨some 17, .bin .neq (.t 16) (.c (.str [10])), (some (15, true))⟩,
      ⟨some 18, .pick (.t 15) (.t 17) (.c (.bool false)), none⟩,
      ⟨some 19, .mov (.t 18), none⟩,
      ⟨some 20, .mov (.t 0), (some (19, true))⟩,
      ⟨some 21, .mov (.t 4), (some (19, true))⟩,
      ⟨some 22, .bin .sub (.t 21) (.c (.int .i64 1)), (some (19, true))⟩,
      ⟨some 23, .ixa 1 (.t 20) (.t 22), (some (19, true))⟩,
      ⟨some 24, .ld 1 false (.t 23), (some (19, true))⟩,
      ⟨some 25, .bin .neq (.t 24) (.c (.str [10])), (some (19, true))⟩,
      ⟨some 26, .pick (.t 19) (.t 25) (.c (.bool false)), none⟩])
    (.cond (.t 26) (.reg [⟨some 27, .call 49 [.t 3, .c (.str [32])], none⟩]) .skip))
    (.cut (.reg [⟨some 28, .mov (.t 5), none⟩,
      ⟨some 29, .call 49 [.t 3, .t 28], none⟩])))))
    (.reg [⟨some 30, .bin .add (.t 8) (.c (.int .i64 1)), none⟩,
      ⟨some 8, .mov (.t 30), none⟩]))))
def ir_chaseref1_JoinOf : IC :=
  (.seq (.reg [⟨some 2, .mov (.c (.str [])), none⟩])
    (.seq (.reg [⟨some 3, .alc 81 [.raw (.pointer none), .nl 1], none⟩])
    (.seq (.seq (.reg [⟨some 6, .mov (.t 0), none⟩,
      ⟨some 7, .len (.t 6), none⟩,
      ⟨some 8, .mov (.c (.int .i64 0)), none⟩])
    (.block 0 (.loop ir_chaseref1_JoinOf_L0)))
    (.seq (.reg [⟨some 31, .call 50 [.t 3], none⟩,
      ⟨some 2, .mov (.t 31), none⟩])
    .ret))))
def rs_chaseref1_JoinOf : List IRes := [.t 2]
theorem ck_chaseref1_JoinOf : chkF Tryd.prog Tryd.f36 ir_chaseref1_JoinOf rs_chaseref1_JoinOf 32 = true := by kernel_rfl

/-- The first k tokens put together. -/
def jnK (l : List (List UInt8)) : Nat → List UInt8
  | 0 => []
  | k + 1 => (jnK l k ++ if 0 < k ∧ l.getD k [] ≠ [10] ∧ l.getD (k - 1) [] ≠ [10] then [32] else []) ++ l.getD k []
def jnF (l : List (List UInt8)) : List UInt8 := jnK l l.length
theorem jnK_wgt (l : List (List UInt8)) : ∀ k, k ≤ l.length → (jnK l k).length ≤ wgt (l.take k)
  | 0, h => by simp [jnK, wgt]
  | k + 1, h => by
    have h1 := jnK_wgt l k (by omega)
    have h2 := wgt_stepS l k (by omega)
    simp only [jnK, List.length_append]
    split <;> simp only [List.length_cons, List.length_nil] <;> omega
theorem jnF_wgt (l : List (List UInt8)) : (jnF l).length ≤ wgt l := by
  have := jnK_wgt l l.length (Nat.le_refl _)
  rwa [List.take_length] at this
theorem sb_put {L : Objs} {k : Key} {i : Nat} {T e : TypeId} {s : List UInt8} (hki : k ≠ .l i) : SbAt (putSb L k i T e s) k i T e s := .inr ⟨by rw [putSb, look_putO, if_pos rfl], by rw [putSb, look_putO, if_neg (Ne.symm hki), look_updL, if_pos rfl]⟩
set_option maxHeartbeats 4000000 in
theorem NJoin_ok (l : List (List UInt8)) (hl : wgt l ≤ 1000000000) : PCall Tryd.prog E0 28 [.sl 1 (strE l)] (· = .str (jnF l)) := by
  have hll := wgt_len l
  refine pcallF mixed Tryd.func28 ck_near_Join ?_
  simp only [a0, l0, OS.ao, List.map_cons, List.map_nil, List.length_cons, List.length_nil, List.cons_append, List.nil_append, Nat.reduceSub, Nat.reduceAdd, List.replicate_succ, List.replicate_zero, ir_near_Join, rs_near_Join, ZZ, YY, Ze, ite_true, ite_false, forall_const, reduceCtorEq, Nat.reduceAdd, Nat.reduceMul, Nat.reduceLeDiff, Nat.reduceLT, Nat.reduceEqDiff]
  simp only [ZZ, YY, Ze, ite_true, ite_false, forall_const, reduceCtorEq, Nat.reduceAdd, Nat.reduceMul, Nat.reduceLeDiff, Nat.reduceLT, Nat.reduceEqDiff, strE_len]
  refine loop_re (fun m fr L => ∃ k, k ≤ l.length ∧ m = l.length - k ∧ fr = [.p (.sl 1 (strE l)), .any, .any, .adr (.l 3) 0, .any, .any, .p (.sl 1 (strE l)), .p (int (l.length : Nat)), .p (int (k : Nat)), .any, .any, .any, .any, .any, .any, .any, .any, .any, .any, .any, .any, .any, .any, .any, .any, .any, .any, .any, .any, .any, .any, .any] ∧ SbAt L (.l 3) 1000 tSb tU8 (jnK l k)) l.length [.p (.sl 1 (strE l)), .any, .any, .adr (.l 3) 0, .any, .any, .p (.sl 1 (strE l)), .p (int (l.length : Nat)), .p (int (0 : Nat)), .any, .any, .any, .any, .any, .any, .any, .any, .any, .any, .any, .any, .any, .any, .any, .any, .any, .any, .any, .any, .any, .any, .any] _ (re_le (by simp only [ZZ, YY, Ze, ite_true, ite_false, forall_const, reduceCtorEq, Nat.reduceAdd, Nat.reduceMul, Nat.reduceLeDiff, Nat.reduceLT, Nat.reduceEqDiff, strE_len]; try trivial)) ⟨0, by omega, by omega, rfl, .inl ⟨rfl, rfl⟩⟩ ?_
  rintro m fr L ⟨k, hk, rfl, rfl, hat⟩
  simp only [ir_near_Join_L0, ZZ, YY, Ze, ite_true, ite_false, forall_const, reduceCtorEq, Nat.reduceAdd, Nat.reduceMul, Nat.reduceLeDiff, Nat.reduceLT, Nat.reduceEqDiff]
  refine br ?_ ?_
  · intro h
    have hlt : k < l.length := by have := of_decide_eq_true h; omega
    obtain ⟨x, hx⟩ : ∃ x, l[k]? = some x := ⟨_, List.getElem?_eq_getElem hlt⟩
    obtain ⟨y, hy⟩ : ∃ y, l[k - 1]? = some y := ⟨_, List.getElem?_eq_getElem (by omega)⟩
    have hg : (strE l).getD k [] = [.str x] := strE_get hx
    have hg2 : (strE l).getD (k - 1) [] = [.str y] := strE_get hy
    have hxd : l.getD k [] = x := by simp [List.getD, hx]
    have hyd : l.getD (k - 1) [] = y := by simp [List.getD, hy]
    have tk : (((k : Nat) : Int) - 1).toNat = k - 1 := by omega
    have hj1 := jnK_wgt l k (by omega)
    have hj2 := jnK_wgt l (k + 1) (by omega)
    have hj3 := wgt_takeS l k
    have hj4 := wgt_takeS l (k + 1)
    have hst : jnK l (k + 1) = (jnK l k ++ if 0 < k ∧ x ≠ [10] ∧ y ≠ [10] then [32] else []) ++ x := by rw [jnK, hxd, hyd]
    generalize hs : jnK l k = s at *
    simp only [ZZ, YY, Ze, ite_true, ite_false, forall_const, reduceCtorEq, Nat.reduceAdd, Nat.reduceMul, Nat.reduceLeDiff, Nat.reduceLT, Nat.reduceEqDiff, hg, hg2, tk, strE_len]
    ((repeat' (with_reducible apply And.intro)) <;> try ((first | first | assumption | trivial | exact (fun hq => by rw [hq]; rfl) | exact i64_of (by omega) (by omega) | omega | (simp; done) | (simp; omega) | (intro hsc; have hs0 := hsc; (try have hsd := of_decide_eq_true hsc); (try simp only [Bool.not_eq_true', Bool.or_eq_false_iff, Bool.and_eq_true, Bool.or_eq_true, decide_eq_true_eq, decide_eq_false_iff_not] at hsc); (repeat' (with_reducible apply And.intro)) <;> (first | assumption | trivial | exact (fun hq => by rw [hq]; rfl) | exact i64_of (by omega) (by omega) | omega | (simp; done) | (simp; omega) | (intro hse; simp [hse, hs0]; done) | (intro hse; simp only [hse, hs0, Bool.true_and, Bool.and_true, Bool.not_false, Bool.not_true, Bool.and_self]; done))))))
    refine br ?_ ?_
    · intro hc
      have hc : 0 < k ∧ x ≠ [10] ∧ y ≠ [10] := by
        simp only [Bool.and_eq_true, decide_eq_true_eq, Bool.not_eq_true', decide_eq_false_iff_not] at hc
        exact ⟨by have := hc.1.1; omega, hc.1.2, hc.2⟩
      rw [if_pos hc] at hst
      rw [hst] at hj2
      simp only [List.length_append, List.length_cons, List.length_nil] at hj2
      simp only [ZZ, YY, Ze, ite_true, ite_false, forall_const, reduceCtorEq, Nat.reduceAdd, Nat.reduceMul, Nat.reduceLeDiff, Nat.reduceLT, Nat.reduceEqDiff]
      refine useBB 1000 s 32 hat (by simp) (by omega) ?_
      simp only [ZZ, YY, Ze, ite_true, ite_false, forall_const, reduceCtorEq, Nat.reduceAdd, Nat.reduceMul, Nat.reduceLeDiff, Nat.reduceLT, Nat.reduceEqDiff]
      refine cut_re _ _ ReOk.refl ?_
      simp only [ZZ, YY, Ze, ite_true, ite_false, forall_const, reduceCtorEq, Nat.reduceAdd, Nat.reduceMul, Nat.reduceLeDiff, Nat.reduceLT, Nat.reduceEqDiff]
      refine useBS 1000 (s ++ [32]) x (sb_put (by simp)) (by simp) (by simp; omega) ?_
      simp only [ZZ, YY, Ze, ite_true, ite_false, forall_const, reduceCtorEq, Nat.reduceAdd, Nat.reduceMul, Nat.reduceLeDiff, Nat.reduceLT, Nat.reduceEqDiff]
      ((repeat' (with_reducible apply And.intro)) <;> try ((first | first | assumption | trivial | exact (fun hq => by rw [hq]; rfl) | exact i64_of (by omega) (by omega) | omega | (simp; done) | (simp; omega) | (intro hsc; have hs0 := hsc; (try have hsd := of_decide_eq_true hsc); (try simp only [Bool.not_eq_true', Bool.or_eq_false_iff, Bool.and_eq_true, Bool.or_eq_true, decide_eq_true_eq, decide_eq_false_iff_not] at hsc); (repeat' (with_reducible apply And.intro)) <;> (first | assumption | trivial | exact (fun hq => by rw [hq]; rfl) | exact i64_of (by omega) (by omega) | omega | (simp; done) | (simp; omega) | (intro hse; simp [hse, hs0]; done) | (intro hse; simp only [hse, hs0, Bool.true_and, Bool.and_true, Bool.not_false, Bool.not_true, Bool.and_self]; done))))))
      refine end_re (l.length - (k + 1)) [.p (.sl 1 (strE l)), .any, .any, .adr (.l 3) 0, .any, .any, .p (.sl 1 (strE l)), .p (int (l.length : Nat)), .p (int (k + 1 : Nat)), .any, .any, .any, .any, .any, .any, .any, .any, .any, .any, .any, .any, .any, .any, .any, .any, .any, .any, .any, .any, .any, .any, .any] _ (by omega) (re_le (by simp only [ZZ, YY, Ze, ite_true, ite_false, forall_const, reduceCtorEq, Nat.reduceAdd, Nat.reduceMul, Nat.reduceLeDiff, Nat.reduceLT, Nat.reduceEqDiff, strE_len]; try trivial)) ⟨k + 1, by omega, rfl, rfl, by rw [hst]; exact sb_put (by simp)⟩
    · intro hc
      have hc : ¬ (0 < k ∧ x ≠ [10] ∧ y ≠ [10]) := by
        rintro ⟨h1, h2, h3⟩
        have h1 : decide ((0 : Int) < (k : Nat)) = true := decide_eq_true (by omega)
        simp [h1, h2, h3] at hc
        omega
      rw [if_neg hc, List.append_nil] at hst
      rw [hst] at hj2
      simp only [List.length_append] at hj2
      simp only [ZZ, YY, Ze, ite_true, ite_false, forall_const, reduceCtorEq, Nat.reduceAdd, Nat.reduceMul, Nat.reduceLeDiff, Nat.reduceLT, Nat.reduceEqDiff]
      refine cut_re _ _ ReOk.refl ?_
      simp only [ZZ, YY, Ze, ite_true, ite_false, forall_const, reduceCtorEq, Nat.reduceAdd, Nat.reduceMul, Nat.reduceLeDiff, Nat.reduceLT, Nat.reduceEqDiff]
      refine useBS 1000 s x hat (by simp) (by omega) ?_
      simp only [ZZ, YY, Ze, ite_true, ite_false, forall_const, reduceCtorEq, Nat.reduceAdd, Nat.reduceMul, Nat.reduceLeDiff, Nat.reduceLT, Nat.reduceEqDiff]
      ((repeat' (with_reducible apply And.intro)) <;> try ((first | first | assumption | trivial | exact (fun hq => by rw [hq]; rfl) | exact i64_of (by omega) (by omega) | omega | (simp; done) | (simp; omega) | (intro hsc; have hs0 := hsc; (try have hsd := of_decide_eq_true hsc); (try simp only [Bool.not_eq_true', Bool.or_eq_false_iff, Bool.and_eq_true, Bool.or_eq_true, decide_eq_true_eq, decide_eq_false_iff_not] at hsc); (repeat' (with_reducible apply And.intro)) <;> (first | assumption | trivial | exact (fun hq => by rw [hq]; rfl) | exact i64_of (by omega) (by omega) | omega | (simp; done) | (simp; omega) | (intro hse; simp [hse, hs0]; done) | (intro hse; simp only [hse, hs0, Bool.true_and, Bool.and_true, Bool.not_false, Bool.not_true, Bool.and_self]; done))))))
      refine end_re (l.length - (k + 1)) [.p (.sl 1 (strE l)), .any, .any, .adr (.l 3) 0, .any, .any, .p (.sl 1 (strE l)), .p (int (l.length : Nat)), .p (int (k + 1 : Nat)), .any, .any, .any, .any, .any, .any, .any, .any, .any, .any, .any, .any, .any, .any, .any, .any, .any, .any, .any, .any, .any, .any, .any] _ (by omega) (re_le (by simp only [ZZ, YY, Ze, ite_true, ite_false, forall_const, reduceCtorEq, Nat.reduceAdd, Nat.reduceMul, Nat.reduceLeDiff, Nat.reduceLT, Nat.reduceEqDiff, strE_len]; try trivial)) ⟨k + 1, by omega, rfl, rfl, by rw [hst]; exact sb_put (by simp)⟩
  · intro h
    have hge : k = l.length := by have := of_decide_eq_false h; omega
    subst hge
    simp only [ZZ, YY, Ze, ite_true, ite_false, forall_const, reduceCtorEq, Nat.reduceAdd, Nat.reduceMul, Nat.reduceLeDiff, Nat.reduceLT, Nat.reduceEqDiff]
    refine useBT 1000 _ hat (by simp) ?_
    simp only [ZZ, YY, Ze, ite_true, ite_false, forall_const, reduceCtorEq, Nat.reduceAdd, Nat.reduceMul, Nat.reduceLeDiff, Nat.reduceLT, Nat.reduceEqDiff]
    rfl
set_option maxHeartbeats 4000000 in
theorem JoinOf_ok (l : List (List UInt8)) (hl : wgt l ≤ 1000000000) : PCall Tryd.prog E0 36 [.sl 1 (strE l)] (· = .str (jnF l)) := by
  have hll := wgt_len l
  refine pcallF mixed Tryd.func36 ck_chaseref1_JoinOf ?_
  simp only [a0, l0, OS.ao, List.map_cons, List.map_nil, List.length_cons, List.length_nil, List.cons_append, List.nil_append, Nat.reduceSub, Nat.reduceAdd, List.replicate_succ, List.replicate_zero, ir_chaseref1_JoinOf, rs_chaseref1_JoinOf, ZZ, YY, Ze, ite_true, ite_false, forall_const, reduceCtorEq, Nat.reduceAdd, Nat.reduceMul, Nat.reduceLeDiff, Nat.reduceLT, Nat.reduceEqDiff]
  simp only [ZZ, YY, Ze, ite_true, ite_false, forall_const, reduceCtorEq, Nat.reduceAdd, Nat.reduceMul, Nat.reduceLeDiff, Nat.reduceLT, Nat.reduceEqDiff, strE_len]
  refine loop_re (fun m fr L => ∃ k, k ≤ l.length ∧ m = l.length - k ∧ fr = [.p (.sl 1 (strE l)), .any, .any, .adr (.l 3) 0, .any, .any, .p (.sl 1 (strE l)), .p (int (l.length : Nat)), .p (int (k : Nat)), .any, .any, .any, .any, .any, .any, .any, .any, .any, .any, .any, .any, .any, .any, .any, .any, .any, .any, .any, .any, .any, .any, .any] ∧ SbAt L (.l 3) 1000 tSb tU8 (jnK l k)) l.length [.p (.sl 1 (strE l)), .any, .any, .adr (.l 3) 0, .any, .any, .p (.sl 1 (strE l)), .p (int (l.length : Nat)), .p (int (0 : Nat)), .any, .any, .any, .any, .any, .any, .any, .any, .any, .any, .any, .any, .any, .any, .any, .any, .any, .any, .any, .any, .any, .any, .any] _ (re_le (by simp only [ZZ, YY, Ze, ite_true, ite_false, forall_const, reduceCtorEq, Nat.reduceAdd, Nat.reduceMul, Nat.reduceLeDiff, Nat.reduceLT, Nat.reduceEqDiff, strE_len]; try trivial)) ⟨0, by omega, by omega, rfl, .inl ⟨rfl, rfl⟩⟩ ?_
  rintro m fr L ⟨k, hk, rfl, rfl, hat⟩
  simp only [ir_chaseref1_JoinOf_L0, ZZ, YY, Ze, ite_true, ite_false, forall_const, reduceCtorEq, Nat.reduceAdd, Nat.reduceMul, Nat.reduceLeDiff, Nat.reduceLT, Nat.reduceEqDiff]
  refine br ?_ ?_
  · intro h
    have hlt : k < l.length := by have := of_decide_eq_true h; omega
    obtain ⟨x, hx⟩ : ∃ x, l[k]? = some x := ⟨_, List.getElem?_eq_getElem hlt⟩
    obtain ⟨y, hy⟩ : ∃ y, l[k - 1]? = some y := ⟨_, List.getElem?_eq_getElem (by omega)⟩
    have hg : (strE l).getD k [] = [.str x] := strE_get hx
    have hg2 : (strE l).getD (k - 1) [] = [.str y] := strE_get hy
    have hxd : l.getD k [] = x := by simp [List.getD, hx]
    have hyd : l.getD (k - 1) [] = y := by simp [List.getD, hy]
    have tk : (((k : Nat) : Int) - 1).toNat = k - 1 := by omega
    have hj1 := jnK_wgt l k (by omega)
    have hj2 := jnK_wgt l (k + 1) (by omega)
    have hj3 := wgt_takeS l k
    have hj4 := wgt_takeS l (k + 1)
    have hst : jnK l (k + 1) = (jnK l k ++ if 0 < k ∧ x ≠ [10] ∧ y ≠ [10] then [32] else []) ++ x := by rw [jnK, hxd, hyd]
    generalize hs : jnK l k = s at *
    simp only [ZZ, YY, Ze, ite_true, ite_false, forall_const, reduceCtorEq, Nat.reduceAdd, Nat.reduceMul, Nat.reduceLeDiff, Nat.reduceLT, Nat.reduceEqDiff, hg, hg2, tk, strE_len]
    ((repeat' (with_reducible apply And.intro)) <;> try ((first | first | assumption | trivial | exact (fun hq => by rw [hq]; rfl) | exact i64_of (by omega) (by omega) | omega | (simp; done) | (simp; omega) | (intro hsc; have hs0 := hsc; (try have hsd := of_decide_eq_true hsc); (try simp only [Bool.not_eq_true', Bool.or_eq_false_iff, Bool.and_eq_true, Bool.or_eq_true, decide_eq_true_eq, decide_eq_false_iff_not] at hsc); (repeat' (with_reducible apply And.intro)) <;> (first | assumption | trivial | exact (fun hq => by rw [hq]; rfl) | exact i64_of (by omega) (by omega) | omega | (simp; done) | (simp; omega) | (intro hse; simp [hse, hs0]; done) | (intro hse; simp only [hse, hs0, Bool.true_and, Bool.and_true, Bool.not_false, Bool.not_true, Bool.and_self]; done))))))
    refine br ?_ ?_
    · intro hc
      have hc : 0 < k ∧ x ≠ [10] ∧ y ≠ [10] := by
        simp only [Bool.and_eq_true, decide_eq_true_eq, Bool.not_eq_true', decide_eq_false_iff_not] at hc
        exact ⟨by have := hc.1.1; omega, hc.1.2, hc.2⟩
      rw [if_pos hc] at hst
      rw [hst] at hj2
      simp only [List.length_append, List.length_cons, List.length_nil] at hj2
      simp only [ZZ, YY, Ze, ite_true, ite_false, forall_const, reduceCtorEq, Nat.reduceAdd, Nat.reduceMul, Nat.reduceLeDiff, Nat.reduceLT, Nat.reduceEqDiff]
      refine useBS 1000 s [32] hat (by simp) (by simp; omega) ?_
      simp only [ZZ, YY, Ze, ite_true, ite_false, forall_const, reduceCtorEq, Nat.reduceAdd, Nat.reduceMul, Nat.reduceLeDiff, Nat.reduceLT, Nat.reduceEqDiff]
      refine cut_re _ _ ReOk.refl ?_
      simp only [ZZ, YY, Ze, ite_true, ite_false, forall_const, reduceCtorEq, Nat.reduceAdd, Nat.reduceMul, Nat.reduceLeDiff, Nat.reduceLT, Nat.reduceEqDiff]
      refine useBS 1000 (s ++ [32]) x (sb_put (by simp)) (by simp) (by simp; omega) ?_
      simp only [ZZ, YY, Ze, ite_true, ite_false, forall_const, reduceCtorEq, Nat.reduceAdd, Nat.reduceMul, Nat.reduceLeDiff, Nat.reduceLT, Nat.reduceEqDiff]
      ((repeat' (with_reducible apply And.intro)) <;> try ((first | first | assumption | trivial | exact (fun hq => by rw [hq]; rfl) | exact i64_of (by omega) (by omega) | omega | (simp; done) | (simp; omega) | (intro hsc; have hs0 := hsc; (try have hsd := of_decide_eq_true hsc); (try simp only [Bool.not_eq_true', Bool.or_eq_false_iff, Bool.and_eq_true, Bool.or_eq_true, decide_eq_true_eq, decide_eq_false_iff_not] at hsc); (repeat' (with_reducible apply And.intro)) <;> (first | assumption | trivial | exact (fun hq => by rw [hq]; rfl) | exact i64_of (by omega) (by omega) | omega | (simp; done) | (simp; omega) | (intro hse; simp [hse, hs0]; done) | (intro hse; simp only [hse, hs0, Bool.true_and, Bool.and_true, Bool.not_false, Bool.not_true, Bool.and_self]; done))))))
      refine end_re (l.length - (k + 1)) [.p (.sl 1 (strE l)), .any, .any, .adr (.l 3) 0, .any, .any, .p (.sl 1 (strE l)), .p (int (l.length : Nat)), .p (int (k + 1 : Nat)), .any, .any, .any, .any, .any, .any, .any, .any, .any, .any, .any, .any, .any, .any, .any, .any, .any, .any, .any, .any, .any, .any, .any] _ (by omega) (re_le (by simp only [ZZ, YY, Ze, ite_true, ite_false, forall_const, reduceCtorEq, Nat.reduceAdd, Nat.reduceMul, Nat.reduceLeDiff, Nat.reduceLT, Nat.reduceEqDiff, strE_len]; try trivial)) ⟨k + 1, by omega, rfl, rfl, by rw [hst]; exact sb_put (by simp)⟩
    · intro hc
      have hc : ¬ (0 < k ∧ x ≠ [10] ∧ y ≠ [10]) := by
        rintro ⟨h1, h2, h3⟩
        have h1 : decide ((0 : Int) < (k : Nat)) = true := decide_eq_true (by omega)
        simp [h1, h2, h3] at hc
        omega
      rw [if_neg hc, List.append_nil] at hst
      rw [hst] at hj2
      simp only [List.length_append] at hj2
      simp only [ZZ, YY, Ze, ite_true, ite_false, forall_const, reduceCtorEq, Nat.reduceAdd, Nat.reduceMul, Nat.reduceLeDiff, Nat.reduceLT, Nat.reduceEqDiff]
      refine cut_re _ _ ReOk.refl ?_
      simp only [ZZ, YY, Ze, ite_true, ite_false, forall_const, reduceCtorEq, Nat.reduceAdd, Nat.reduceMul, Nat.reduceLeDiff, Nat.reduceLT, Nat.reduceEqDiff]
      refine useBS 1000 s x hat (by simp) (by omega) ?_
      simp only [ZZ, YY, Ze, ite_true, ite_false, forall_const, reduceCtorEq, Nat.reduceAdd, Nat.reduceMul, Nat.reduceLeDiff, Nat.reduceLT, Nat.reduceEqDiff]
      ((repeat' (with_reducible apply And.intro)) <;> try ((first | first | assumption | trivial | exact (fun hq => by rw [hq]; rfl) | exact i64_of (by omega) (by omega) | omega | (simp; done) | (simp; omega) | (intro hsc; have hs0 := hsc; (try have hsd := of_decide_eq_true hsc); (try simp only [Bool.not_eq_true', Bool.or_eq_false_iff, Bool.and_eq_true, Bool.or_eq_true, decide_eq_true_eq, decide_eq_false_iff_not] at hsc); (repeat' (with_reducible apply And.intro)) <;> (first | assumption | trivial | exact (fun hq => by rw [hq]; rfl) | exact i64_of (by omega) (by omega) | omega | (simp; done) | (simp; omega) | (intro hse; simp [hse, hs0]; done) | (intro hse; simp only [hse, hs0, Bool.true_and, Bool.and_true, Bool.not_false, Bool.not_true, Bool.and_self]; done))))))
      refine end_re (l.length - (k + 1)) [.p (.sl 1 (strE l)), .any, .any, .adr (.l 3) 0, .any, .any, .p (.sl 1 (strE l)), .p (int (l.length : Nat)), .p (int (k + 1 : Nat)), .any, .any, .any, .any, .any, .any, .any, .any, .any, .any, .any, .any, .any, .any, .any, .any, .any, .any, .any, .any, .any, .any, .any] _ (by omega) (re_le (by simp only [ZZ, YY, Ze, ite_true, ite_false, forall_const, reduceCtorEq, Nat.reduceAdd, Nat.reduceMul, Nat.reduceLeDiff, Nat.reduceLT, Nat.reduceEqDiff, strE_len]; try trivial)) ⟨k + 1, by omega, rfl, rfl, by rw [hst]; exact sb_put (by simp)⟩
  · intro h
    have hge : k = l.length := by have := of_decide_eq_false h; omega
    subst hge
    simp only [ZZ, YY, Ze, ite_true, ite_false, forall_const, reduceCtorEq, Nat.reduceAdd, Nat.reduceMul, Nat.reduceLeDiff, Nat.reduceLT, Nat.reduceEqDiff]
    refine useBT 1000 _ hat (by simp) ?_
    simp only [ZZ, YY, Ze, ite_true, ite_false, forall_const, reduceCtorEq, Nat.reduceAdd, Nat.reduceMul, Nat.reduceLeDiff, Nat.reduceLT, Nat.reduceEqDiff]
    rfl
end Go.Proofs.YtchjpcojfeckbaaDoor

/- slices.Clone, slices.Reverse at the circle's parts. -/
namespace Go.Proofs.YtchjpcojfeckbaaDoor
open Go.RowKit
set_option linter.unusedVariables false
set_option linter.unusedSimpArgs false
set_option linter.defProp false

/- slices.Clone[[]string,string] -/
def ir_slices_Clone_string_string : IC :=
  (.seq (.reg [⟨some 2, .nilr 9 1, none⟩])
    (.seq (.seq (.reg [⟨some 3, .mov (.t 0), none⟩,
      ⟨some 4, .isn (.t 3), none⟩])
    (.cond (.t 4) (.seq (.reg [⟨some 2, .nilr 9 1, none⟩])
    .ret) .skip))
    (.seq (.reg [⟨some 5, .bsr 9 1 [], none⟩,
      ⟨some 6, .mov (.t 0), none⟩,
      ⟨some 7, .app 9 1 16 (.t 5) (.t 6), none⟩,
      ⟨some 2, .mov (.t 7), none⟩])
    .ret)))
def rs_slices_Clone_string_string : List IRes := [.t 2]
theorem ck_slices_Clone_string_string : chkF Tryd.prog Tryd.f35 ir_slices_Clone_string_string rs_slices_Clone_string_string 8 = true := by kernel_rfl


section
variable {E : Envt}
abbrev tStrG : Nat := 9
theorem CloneS_ok (es : List (List PV)) (hn : es.length ≤ 1000000) : FCall Tryd.prog E 35 [.sl 1 es] tStrG 1 (· = es) := by
  unfold FCall
  refine gcallR mixed Tryd.func35 ck_slices_Clone_string_string ?_
  simp only [a0, l0, OS.ao, List.map_cons, List.map_nil, List.length_cons, List.length_nil, List.cons_append, List.nil_append, Nat.reduceSub, Nat.reduceAdd, List.replicate_succ, List.replicate_zero, ir_slices_Clone_string_string, rs_slices_Clone_string_string, ZZ, YY, Ze, ite_true, ite_false, forall_const, reduceCtorEq, Nat.reduceAdd, Nat.reduceMul, Nat.reduceLeDiff, Nat.reduceLT, Nat.reduceEqDiff]
  intro b hb
  refine br ?_ ?_
  · intro h
    have := hb h
    simp only [ZZ, YY, Ze, ite_true, ite_false, forall_const, reduceCtorEq, Nat.reduceAdd, Nat.reduceMul, Nat.reduceLeDiff, Nat.reduceLT, Nat.reduceEqDiff]
    exact fin_F 2 [] rfl rfl this.symm
  · intro h
    simp only [ZZ, YY, Ze, ite_true, ite_false, forall_const, reduceCtorEq, Nat.reduceAdd, Nat.reduceMul, Nat.reduceLeDiff, Nat.reduceLT, Nat.reduceEqDiff]
    exact ⟨by omega, fin_F 5 es rfl rfl rfl⟩
end
end Go.Proofs.YtchjpcojfeckbaaDoor

/- Tokens of right strings, distances, changes. -/
namespace Go.Proofs.YtchjpcojfeckbaaDoor
open Go.RowKit
set_option linter.unusedVariables false
set_option linter.unusedSimpArgs false
set_option linter.defProp false

/- paperchase/near.large -/
def ir_near_large : IC :=
  (.seq (.reg [⟨some 2, .mov (.c (.int .i64 0)), none⟩])
    (.seq (.reg [⟨some 3, .mov (.t 0), none⟩,
      ⟨some 4, .sln (.t 3), none⟩,
      ⟨some 5, .bin .gtr (.t 4) (.c (.int .i64 20000)), none⟩,
      ⟨some 6, .call 57 [.t 5, .c (.int .i64 2)], none⟩,
      ⟨some 2, .mov (.t 6), none⟩])
    .ret))
def rs_near_large : List IRes := [.t 2]
theorem ck_near_large : chkF Tryd.prog Tryd.f53 ir_near_large rs_near_large 7 = true := by kernel_rfl
/- paperchase/near.tokens -/
def ir_near_tokens : IC :=
  (.seq (.reg [⟨some 2, .mov (.c (.nl 1)), none⟩,
      ⟨some 3, .mov (.c (.int .i64 0)), none⟩])
    (.seq (.seq (.reg [⟨some 6, .mov (.t 0), none⟩,
      ⟨some 7, .call 53 [.t 6], none⟩,
      ⟨some 4, .mov (.t 7), none⟩])
    (.seq (.reg [⟨some 8, .mov (.t 4), none⟩,
      ⟨some 9, .bin .neq (.t 8) (.c (.int .i64 0)), none⟩])
    (.cond (.t 9) (.seq (.reg [⟨some 10, .mov (.t 4), none⟩,
      ⟨some 2, .mov (.c (.nl 1)), none⟩,
      ⟨some 3, .mov (.t 10), none⟩])
    .ret) .skip)))
    (.seq (.reg [⟨some 11, .mov (.t 0), none⟩,
      ⟨some 12, .call 67 [.t 11], none⟩,
      ⟨some 5, .mov (.t 12), none⟩])
    (.seq (.reg [⟨some 13, .mov (.t 5), none⟩,
      ⟨some 14, .mov (.t 5), none⟩,
      ⟨some 15, .len (.t 14), none⟩,
      ⟨some 16, .bin .gtr (.t 15) (.c (.int .i64 2000)), none⟩,
      ⟨some 17, .call 57 [.t 16, .c (.int .i64 2)], none⟩,
      ⟨some 2, .mov (.t 13), none⟩,
      ⟨some 3, .mov (.t 17), none⟩])
    .ret))))
def rs_near_tokens : List IRes := [.t 2, .t 3]
theorem ck_near_tokens : chkF Tryd.prog Tryd.f47 ir_near_tokens rs_near_tokens 18 = true := by kernel_rfl
/- paperchase/near.both -/
def ir_near_both : IC :=
  (.seq (.reg [⟨some 4, .mov (.c (.nl 1)), none⟩,
      ⟨some 5, .mov (.c (.nl 1)), none⟩,
      ⟨some 6, .mov (.c (.int .i64 0)), none⟩])
    (.seq (.seq (.reg [⟨some 8, .mov (.t 0), none⟩,
      ⟨some 9, .call 47 [.t 8], none⟩,
      ⟨some 7, .mov (.t 9), none⟩,
      ⟨some 10, .ext 0 (.t 7), none⟩,
      ⟨some 11, .ext 1 (.t 7), none⟩,
      ⟨some 4, .mov (.t 10), none⟩,
      ⟨some 6, .mov (.t 11), none⟩])
    (.seq (.reg [⟨some 12, .mov (.t 6), none⟩,
      ⟨some 13, .bin .neq (.t 12) (.c (.int .i64 0)), none⟩])
    (.cond (.t 13) (.seq (.reg [⟨some 14, .mov (.t 6), none⟩,
      ⟨some 4, .mov (.c (.nl 1)), none⟩,
      ⟨some 5, .mov (.c (.nl 1)), none⟩,
      ⟨some 6, .mov (.t 14), none⟩])
    .ret) .skip)))
    (.seq (.reg [⟨some 16, .mov (.t 1), none⟩,
      ⟨some 17, .call 47 [.t 16], none⟩,
      ⟨some 15, .mov (.t 17), none⟩,
      ⟨some 18, .ext 0 (.t 15), none⟩,
      ⟨some 19, .ext 1 (.t 15), none⟩,
      ⟨some 5, .mov (.t 18), none⟩,
      ⟨some 6, .mov (.t 19), none⟩])
    (.seq (.reg [⟨some 20, .mov (.t 4), none⟩,
      ⟨some 21, .mov (.t 5), none⟩,
      ⟨some 22, .mov (.t 6), none⟩,
      ⟨some 4, .mov (.t 20), none⟩,
      ⟨some 5, .mov (.t 21), none⟩,
      ⟨some 6, .mov (.t 22), none⟩])
    .ret))))
def rs_near_both : List IRes := [.t 4, .t 5, .t 6]
theorem ck_near_both : chkF Tryd.prog Tryd.f25 ir_near_both rs_near_both 23 = true := by kernel_rfl
/- paperchase/chaseref1.TokensFault -/
def ir_chaseref1_TokensFault_L0 : IC :=
  (.seq (.reg [⟨some 8, .bin .lss (.t 7) (.t 6), none⟩])
    (.seq (.cond (.t 8) .skip (.exit 0))
    (.seq (.block 1 (.seq (.reg [⟨some 9, .ixa 1 (.t 5) (.t 7), none⟩,
      ⟨some 10, .ld 1 false (.t 9), none⟩,
      ⟨some 4, .mov (.t 10), none⟩])
    (.seq (.reg [⟨some 11, .mov (.t 4), none⟩,
      ⟨some 12, .sln (.t 11), none⟩,
      ⟨some 13, .bin .gtr (.t 12) (.c (.int .i64 20000)), none⟩,
      ⟨some 14, .mov (.t 13), none⟩,
      ⟨some 15, .mov (.t 4), (some (14, false))⟩,
      ⟨some 16, .call 29 [.t 15], (some (14, false))⟩,
      ⟨some 17, .len (.t 16), (some (14, false))⟩,
      ⟨some 18, .bin .gtr (.t 17) (.c (.int .i64 2000)), (some (14, false))⟩,
      ⟨some 19, .pick (.t 14) (.c (.bool true)) (.t 18), none⟩])
    (.cond (.t 19) (.seq (.reg [⟨some 2, .mov (.c (.int .i64 2)), none⟩])
    .ret) .skip))))
    (.reg [⟨some 20, .bin .add (.t 7) (.c (.int .i64 1)), none⟩,
      ⟨some 7, .mov (.t 20), none⟩]))))
def ir_chaseref1_TokensFault : IC :=
  (.seq (.reg [⟨some 2, .mov (.c (.int .i64 0)), none⟩])
    (.seq (.seq (.reg [⟨some 5, .mov (.t 0), none⟩,
      ⟨some 6, .len (.t 5), none⟩,
      ⟨some 7, .mov (.c (.int .i64 0)), none⟩])
    (.block 0 (.loop ir_chaseref1_TokensFault_L0)))
    (.seq (.reg [⟨some 2, .mov (.c (.int .i64 0)), none⟩])
    .ret)))
def rs_chaseref1_TokensFault : List IRes := [.t 2]
theorem ck_chaseref1_TokensFault : chkF Tryd.prog Tryd.f11 ir_chaseref1_TokensFault rs_chaseref1_TokensFault 21 = true := by kernel_rfl

theorem nlarge_ok {E : Envt} (s : List UInt8) (hs : s.length ≤ 1000000000) : PCall Tryd.prog E 53 [.str s] (· = int (if 20000 < s.length then 2 else 0)) := by
  refine pcallF mixed Tryd.func53 ck_near_large ?_
  simp only [a0, l0, OS.ao, List.map_cons, List.map_nil, List.length_cons, List.length_nil, List.cons_append, List.nil_append, Nat.reduceSub, Nat.reduceAdd, List.replicate_succ, List.replicate_zero, ir_near_large, rs_near_large, ZZ, YY, Ze, ite_true, ite_false, forall_const, reduceCtorEq, Nat.reduceAdd, Nat.reduceMul, Nat.reduceLeDiff, Nat.reduceLT, Nat.reduceEqDiff]
  refine use1 (When_ok _ 2) rfl (.inl rfl) ?_
  simp only [ZZ, YY, Ze, ite_true, ite_false, forall_const, reduceCtorEq, Nat.reduceAdd, Nat.reduceMul, Nat.reduceLeDiff, Nat.reduceLT, Nat.reduceEqDiff]
  by_cases h : 20000 < s.length
  · have hd : decide ((20000 : Int) < (s.length : Nat)) = true := decide_eq_true (by omega)
    rw [hd, if_pos h]; rfl
  · have hd : decide ((20000 : Int) < (s.length : Nat)) = false := decide_eq_false (by omega)
    rw [hd, if_neg h]; rfl
def badT (s : List UInt8) : Bool := decide (20000 < s.length) || decide (2000 < (tokF s).length)
def eTok (s : List UInt8) : Int := if badT s then 2 else 0
theorem eTok_zero {s : List UInt8} (h : eTok s = 0) : s.length ≤ 20000 ∧ (tokF s).length ≤ 2000 := by
  have hb : badT s = false := by
    cases hb : badT s
    · rfl
    · rw [eTok, hb] at h; cases h
  unfold badT at hb
  simp only [Bool.or_eq_false_iff, decide_eq_false_iff_not] at hb
  omega
theorem tokens_ok (s : List UInt8) (hs : s.length ≤ 1000000000) : PCall Tryd.prog E0 47 [.str s] (fun r => ∃ X, r = .tup [.sl 1 (strE X), int (eTok s)] ∧ (eTok s = 0 → X = tokF s)) := by
  refine pcallF mixed Tryd.func47 ck_near_tokens ?_
  simp only [a0, l0, OS.ao, List.map_cons, List.map_nil, List.length_cons, List.length_nil, List.cons_append, List.nil_append, Nat.reduceSub, Nat.reduceAdd, List.replicate_succ, List.replicate_zero, ir_near_tokens, rs_near_tokens, ZZ, YY, Ze, ite_true, ite_false, forall_const, reduceCtorEq, Nat.reduceAdd, Nat.reduceMul, Nat.reduceLeDiff, Nat.reduceLT, Nat.reduceEqDiff]
  refine use1 (nlarge_ok s hs) rfl (.inl rfl) ?_
  by_cases h : 20000 < s.length
  · rw [if_pos h]
    have he : eTok s = 2 := by simp [eTok, badT, h]
    have hd : decide ((2 : Int) = 0) = false := by decide
    simp only [ZZ, YY, Ze, ite_true, ite_false, forall_const, reduceCtorEq, Nat.reduceAdd, Nat.reduceMul, Nat.reduceLeDiff, Nat.reduceLT, Nat.reduceEqDiff, hd]
    exact ⟨[], by rw [he]; rfl, fun h => by rw [he] at h; cases h⟩
  · rw [if_neg h]
    simp only [ZZ, YY, Ze, ite_true, ite_false, forall_const, reduceCtorEq, Nat.reduceAdd, Nat.reduceMul, Nat.reduceLeDiff, Nat.reduceLT, Nat.reduceEqDiff, decide_true]
    refine use1 (plainR (Tokens_ok s hs)) rfl (.inl rfl) ?_
    simp only [ZZ, YY, Ze, ite_true, ite_false, forall_const, reduceCtorEq, Nat.reduceAdd, Nat.reduceMul, Nat.reduceLeDiff, Nat.reduceLT, Nat.reduceEqDiff, strE_len]
    refine use1 (When_ok _ 2) rfl (.inl rfl) ?_
    simp only [ZZ, YY, Ze, ite_true, ite_false, forall_const, reduceCtorEq, Nat.reduceAdd, Nat.reduceMul, Nat.reduceLeDiff, Nat.reduceLT, Nat.reduceEqDiff]
    have he : whenE (decide ((2000 : Int) < ((tokF s).length : Nat))) 2 = eTok s := by
      unfold eTok badT
      by_cases h2 : 2000 < (tokF s).length
      · have hd : decide ((2000 : Int) < ((tokF s).length : Nat)) = true := decide_eq_true (by omega)
        rw [hd, if_pos (by simp [h2])]; rfl
      · have hd : decide ((2000 : Int) < ((tokF s).length : Nat)) = false := decide_eq_false (by omega)
        rw [hd, if_neg (by simp [h2, h])]; rfl
    rw [he]
    exact ⟨tokF s, rfl, fun _ => rfl⟩
def eBoth (a b : List UInt8) : Int := if eTok a = 0 then eTok b else eTok a
theorem both_ok (a b : List UInt8) (ha : a.length ≤ 1000000000) (hb : b.length ≤ 1000000000) : PCall Tryd.prog E0 25 [.str a, .str b] (fun r => ∃ X Y, r = .tup [.sl 1 (strE X), .sl 1 (strE Y), int (eBoth a b)] ∧ (eBoth a b = 0 → X = tokF a ∧ Y = tokF b)) := by
  refine pcallF mixed Tryd.func25 ck_near_both ?_
  simp only [a0, l0, OS.ao, List.map_cons, List.map_nil, List.length_cons, List.length_nil, List.cons_append, List.nil_append, Nat.reduceSub, Nat.reduceAdd, List.replicate_succ, List.replicate_zero, ir_near_both, rs_near_both, ZZ, YY, Ze, ite_true, ite_false, forall_const, reduceCtorEq, Nat.reduceAdd, Nat.reduceMul, Nat.reduceLeDiff, Nat.reduceLT, Nat.reduceEqDiff]
  refine use (tokens_ok a ha) rfl (.inl rfl) ?_
  rintro r ⟨X, rfl, hX⟩
  simp only [ZZ, YY, Ze, ite_true, ite_false, forall_const, reduceCtorEq, Nat.reduceAdd, Nat.reduceMul, Nat.reduceLeDiff, Nat.reduceLT, Nat.reduceEqDiff]
  by_cases h : eTok a = 0
  · have hd : decide (eTok a = 0) = true := decide_eq_true h
    simp only [ZZ, YY, Ze, ite_true, ite_false, forall_const, reduceCtorEq, Nat.reduceAdd, Nat.reduceMul, Nat.reduceLeDiff, Nat.reduceLT, Nat.reduceEqDiff, hd]
    refine use (tokens_ok b hb) rfl (.inl rfl) ?_
    rintro r ⟨Y, rfl, hY⟩
    simp only [ZZ, YY, Ze, ite_true, ite_false, forall_const, reduceCtorEq, Nat.reduceAdd, Nat.reduceMul, Nat.reduceLeDiff, Nat.reduceLT, Nat.reduceEqDiff]
    have he : eBoth a b = eTok b := by rw [eBoth, if_pos h]
    rw [he]
    exact ⟨X, Y, rfl, fun h0 => ⟨hX h, hY h0⟩⟩
  · have hd : decide (eTok a = 0) = false := decide_eq_false h
    simp only [ZZ, YY, Ze, ite_true, ite_false, forall_const, reduceCtorEq, Nat.reduceAdd, Nat.reduceMul, Nat.reduceLeDiff, Nat.reduceLT, Nat.reduceEqDiff, hd]
    have he : eBoth a b = eTok a := by rw [eBoth, if_neg h]
    rw [he]
    exact ⟨[], [], rfl, fun h0 => absurd h0 h⟩
theorem TokensFault_ok (l : List (List UInt8)) (hl : l.length ≤ 1000000) (hb : ∀ s ∈ l, s.length ≤ 1000000000) : PCall Tryd.prog E0 11 [.sl 1 (strE l)] (· = int (if l.any badT then 2 else 0)) := by
  refine pcallF mixed Tryd.func11 ck_chaseref1_TokensFault ?_
  simp only [a0, l0, OS.ao, List.map_cons, List.map_nil, List.length_cons, List.length_nil, List.cons_append, List.nil_append, Nat.reduceSub, Nat.reduceAdd, List.replicate_succ, List.replicate_zero, ir_chaseref1_TokensFault, rs_chaseref1_TokensFault, ZZ, YY, Ze, ite_true, ite_false, forall_const, reduceCtorEq, Nat.reduceAdd, Nat.reduceMul, Nat.reduceLeDiff, Nat.reduceLT, Nat.reduceEqDiff]
  simp only [ZZ, YY, Ze, ite_true, ite_false, forall_const, reduceCtorEq, Nat.reduceAdd, Nat.reduceMul, Nat.reduceLeDiff, Nat.reduceLT, Nat.reduceEqDiff, strE_len]
  refine loop_intro (fun n fr L => ∃ (k : Nat), k ≤ l.length ∧ n = l.length - k ∧ (l.any badT = (l.drop k).any badT) ∧ fr = [.any, .any, .any, .any, .any, .p (.sl 1 (strE l)), .p (int (l.length : Nat)), .p (int (k : Nat)), .any, .any, .any, .any, .any, .any, .any, .any, .any, .any, .any, .any, .any] ∧ L = []) (l.length) [.any, .any, .any, .any, .any, .p (.sl 1 (strE l)), .p (int (l.length : Nat)), .p (int (0 : Nat)), .any, .any, .any, .any, .any, .any, .any, .any, .any, .any, .any, .any, .any] [] (by simp only [ZZ, YY, Ze, ite_true, ite_false, forall_const, reduceCtorEq, Nat.reduceAdd, Nat.reduceMul, Nat.reduceLeDiff, Nat.reduceLT, Nat.reduceEqDiff, strE_len]; try trivial) (by (simp only [ZZ, YY, Ze, ite_true, ite_false, forall_const, reduceCtorEq, Nat.reduceAdd, Nat.reduceMul, Nat.reduceLeDiff, Nat.reduceLT, Nat.reduceEqDiff]; try trivial)) ⟨0, by omega, by omega, by simp, rfl, rfl⟩ ?_
  rintro n fr L ⟨k, hk, rfl, hf, rfl, rfl⟩
  simp only [ir_chaseref1_TokensFault_L0, ZZ, YY, Ze, ite_true, ite_false, forall_const, reduceCtorEq, Nat.reduceAdd, Nat.reduceMul, Nat.reduceLeDiff, Nat.reduceLT, Nat.reduceEqDiff]
  refine br ?_ ?_
  · intro h
    have hlt : k < l.length := by have := of_decide_eq_true h; omega
    obtain ⟨s, hs⟩ : ∃ s, l[k]? = some s := ⟨_, List.getElem?_eq_getElem hlt⟩
    have hg : (strE l).getD k [] = [.str s] := strE_get hs
    have hsb := hb s (List.mem_of_getElem? hs)
    have hd := drop_at hs
    rw [hd, List.any_cons] at hf
    simp only [ZZ, YY, Ze, ite_true, ite_false, forall_const, reduceCtorEq, Nat.reduceAdd, Nat.reduceMul, Nat.reduceLeDiff, Nat.reduceLT, Nat.reduceEqDiff, hg, strE_len]
    ((repeat' (with_reducible apply And.intro)) <;> try ((first | first | assumption | trivial | exact (fun hq => by rw [hq]; rfl) | exact i64_of (by omega) (by omega) | omega | (simp; done) | (simp; omega) | (intro hsc; have hs0 := hsc; (try have hsd := of_decide_eq_true hsc); (try simp only [Bool.not_eq_true', Bool.or_eq_false_iff, Bool.and_eq_true, Bool.or_eq_true, decide_eq_true_eq, decide_eq_false_iff_not] at hsc); (repeat' (with_reducible apply And.intro)) <;> (first | assumption | trivial | exact (fun hq => by rw [hq]; rfl) | exact i64_of (by omega) (by omega) | omega | (simp; done) | (simp; omega) | (intro hse; simp [hse, hs0]; done) | (intro hse; simp only [hse, hs0, Bool.true_and, Bool.and_true, Bool.not_false, Bool.not_true, Bool.and_self]; done))))))
    refine useG (fun _ => plainR (TokensOf_ok s hsb)) rfl (.inl rfl) ?_
    simp only [ZZ, YY, Ze, ite_true, ite_false, forall_const, reduceCtorEq, Nat.reduceAdd, Nat.reduceMul, Nat.reduceLeDiff, Nat.reduceLT, Nat.reduceEqDiff, strE_len]
    refine ⟨fun h => by rw [h]; rfl, ?_⟩
    refine br ?_ ?_
    · intro hc
      have hc : badT s = true := by
        unfold badT
        simp only [Bool.or_eq_true, decide_eq_true_eq] at hc ⊢
        omega
      simp only [ZZ, YY, Ze, ite_true, ite_false, forall_const, reduceCtorEq, Nat.reduceAdd, Nat.reduceMul, Nat.reduceLeDiff, Nat.reduceLT, Nat.reduceEqDiff]
      rw [hf, hc]
      rfl
    · intro hc
      have hc : badT s = false := by
        unfold badT
        simp only [Bool.or_eq_false_iff, decide_eq_false_iff_not] at hc ⊢
        omega
      rw [hc, Bool.false_or] at hf
      simp only [ZZ, YY, Ze, ite_true, ite_false, forall_const, reduceCtorEq, Nat.reduceAdd, Nat.reduceMul, Nat.reduceLeDiff, Nat.reduceLT, Nat.reduceEqDiff]
      ((repeat' (with_reducible apply And.intro)) <;> try ((first | first | assumption | trivial | exact (fun hq => by rw [hq]; rfl) | exact i64_of (by omega) (by omega) | omega | (simp; done) | (simp; omega) | (intro hsc; have hs0 := hsc; (try have hsd := of_decide_eq_true hsc); (try simp only [Bool.not_eq_true', Bool.or_eq_false_iff, Bool.and_eq_true, Bool.or_eq_true, decide_eq_true_eq, decide_eq_false_iff_not] at hsc); (repeat' (with_reducible apply And.intro)) <;> (first | assumption | trivial | exact (fun hq => by rw [hq]; rfl) | exact i64_of (by omega) (by omega) | omega | (simp; done) | (simp; omega) | (intro hse; simp [hse, hs0]; done) | (intro hse; simp only [hse, hs0, Bool.true_and, Bool.and_true, Bool.not_false, Bool.not_true, Bool.and_self]; done))))))
      refine end_round (l.length - (k + 1)) [.any, .any, .any, .any, .any, .p (.sl 1 (strE l)), .p (int (l.length : Nat)), .p (int ((k + 1) : Nat)), .any, .any, .any, .any, .any, .any, .any, .any, .any, .any, .any, .any, .any] [] (by omega) (by (simp only [ZZ, YY, Ze, ite_true, ite_false, forall_const, reduceCtorEq, Nat.reduceAdd, Nat.reduceMul, Nat.reduceLeDiff, Nat.reduceLT, Nat.reduceEqDiff]; try trivial)) (by (simp only [ZZ, YY, Ze, ite_true, ite_false, forall_const, reduceCtorEq, Nat.reduceAdd, Nat.reduceMul, Nat.reduceLeDiff, Nat.reduceLT, Nat.reduceEqDiff]; try trivial)) ⟨k + 1, by omega, rfl, hf, rfl, rfl⟩
  · intro h
    have hge : k = l.length := by have := of_decide_eq_false h; omega
    subst hge
    simp only [ZZ, YY, Ze, ite_true, ite_false, forall_const, reduceCtorEq, Nat.reduceAdd, Nat.reduceMul, Nat.reduceLeDiff, Nat.reduceLT, Nat.reduceEqDiff]
    rw [hf, List.drop_length]
    rfl
end Go.Proofs.YtchjpcojfeckbaaDoor

/- Distances and changes, on both sides. -/
namespace Go.Proofs.YtchjpcojfeckbaaDoor
open Go.RowKit
set_option linter.unusedVariables false
set_option linter.unusedSimpArgs false
set_option linter.defProp false

/- paperchase/near.Distance -/
def ir_near_Distance : IC :=
  (.seq (.reg [⟨some 4, .mov (.c (.int .i64 0)), none⟩,
      ⟨some 5, .mov (.c (.int .i64 0)), none⟩])
    (.seq (.reg [⟨some 10, .mov (.t 0), none⟩,
      ⟨some 11, .mov (.t 1), none⟩,
      ⟨some 12, .call 25 [.t 10, .t 11], none⟩,
      ⟨some 9, .mov (.t 12), none⟩,
      ⟨some 13, .ext 0 (.t 9), none⟩,
      ⟨some 14, .ext 1 (.t 9), none⟩,
      ⟨some 15, .ext 2 (.t 9), none⟩,
      ⟨some 6, .mov (.t 13), none⟩,
      ⟨some 7, .mov (.t 14), none⟩,
      ⟨some 8, .mov (.t 15), none⟩])
    (.seq (.seq (.reg [⟨some 16, .mov (.t 8), none⟩,
      ⟨some 17, .bin .neq (.t 16) (.c (.int .i64 0)), none⟩])
    (.cond (.t 17) (.seq (.reg [⟨some 18, .mov (.t 8), none⟩,
      ⟨some 4, .mov (.c (.int .i64 0)), none⟩,
      ⟨some 5, .mov (.t 18), none⟩])
    .ret) .skip))
    (.seq (.reg [⟨some 19, .mov (.t 6), none⟩,
      ⟨some 20, .len (.t 19), none⟩,
      ⟨some 21, .mov (.t 7), none⟩,
      ⟨some 22, .len (.t 21), none⟩,
      ⟨some 23, .bin .add (.t 20) (.t 22), none⟩,
      ⟨some 24, .mov (.t 6), none⟩,
      ⟨some 25, .mov (.t 7), none⟩,
      ⟨some 26, .call 26 [.t 24, .t 25], none⟩,
      ⟨some 27, .len (.t 26), none⟩,
      ⟨some 28, .bin .mul (.c (.int .i64 2)) (.t 27), none⟩,
      ⟨some 29, .bin .sub (.t 23) (.t 28), none⟩,
      ⟨some 4, .mov (.t 29), none⟩,
      ⟨some 5, .mov (.c (.int .i64 0)), none⟩])
    .ret))))
def rs_near_Distance : List IRes := [.t 4, .t 5]
theorem ck_near_Distance : chkF Tryd.prog Tryd.f8 ir_near_Distance rs_near_Distance 30 = true := by kernel_rfl

/- paperchase/chaseref1.DistanceOf -/
def ir_chaseref1_DistanceOf : IC :=
  (.seq (.reg [⟨some 4, .mov (.c (.int .i64 0)), none⟩])
    (.seq (.reg [⟨some 7, .mov (.t 0), none⟩,
      ⟨some 8, .call 29 [.t 7], none⟩,
      ⟨some 9, .mov (.t 1), none⟩,
      ⟨some 10, .call 29 [.t 9], none⟩,
      ⟨some 5, .mov (.t 8), none⟩,
      ⟨some 6, .mov (.t 10), none⟩])
    (.seq (.reg [⟨some 11, .mov (.t 5), none⟩,
      ⟨some 12, .len (.t 11), none⟩,
      ⟨some 13, .mov (.t 6), none⟩,
      ⟨some 14, .len (.t 13), none⟩,
      ⟨some 15, .bin .add (.t 12) (.t 14), none⟩,
      ⟨some 16, .mov (.t 5), none⟩,
      ⟨some 17, .mov (.t 6), none⟩,
      ⟨some 18, .call 32 [.t 16, .t 17], none⟩,
      ⟨some 19, .len (.t 18), none⟩,
      ⟨some 20, .bin .mul (.c (.int .i64 2)) (.t 19), none⟩,
      ⟨some 21, .bin .sub (.t 15) (.t 20), none⟩,
      ⟨some 4, .mov (.t 21), none⟩])
    .ret)))
def rs_chaseref1_DistanceOf : List IRes := [.t 4]
theorem ck_chaseref1_DistanceOf : chkF Tryd.prog Tryd.f13 ir_chaseref1_DistanceOf rs_chaseref1_DistanceOf 22 = true := by kernel_rfl

/- paperchase/near.changes -/
def ir_near_changes_L0 : IC :=
  (.seq (.reg [⟨some 22, .bin .lss (.t 21) (.t 20), none⟩])
    (.seq (.cond (.t 22) .skip (.exit 0))
    (.seq (.block 1 (.seq (.reg [⟨some 23, .ixa 2 (.t 19) (.t 21), none⟩,
      ⟨some 24, .ld 2 true (.t 23), none⟩,
      ⟨some 9, .alc 66 [.int .i64 0, .int .i64 0], none⟩,
      ⟨none, .st 2 (.t 9) (.t 24), none⟩])
    (.seq (.seq (.reg [⟨some 25, .mov (.t 6), none⟩,
      ⟨some 26, .fla 0 (.t 9), none⟩,
      ⟨some 27, .ld 1 false (.t 26), none⟩,
      ⟨some 28, .bin .lss (.t 25) (.t 27), none⟩,
      ⟨some 29, .mov (.t 28), none⟩,
      ⟨some 30, .mov (.t 7), (some (29, false))⟩,
      ⟨some 31, .fla 1 (.t 9), (some (29, false))⟩,
      ⟨some 32, .ld 1 false (.t 31), (some (29, false))⟩,
      ⟨some 33, .bin .lss (.t 30) (.t 32), (some (29, false))⟩,
      ⟨some 34, .pick (.t 29) (.c (.bool true)) (.t 33), none⟩])
    (.cond (.t 34) (.drg [⟨none, .fz (.t 42), none⟩,
      ⟨none, .fz (.t 48), none⟩,
      ⟨some 35, .mov (.t 5), none⟩,
      ⟨some 36, .mov (.t 6), none⟩,
      ⟨some 37, .mov (.t 0), none⟩,
      ⟨some 38, .mov (.t 6), none⟩,
      ⟨some 39, .fla 0 (.t 9), none⟩,
      ⟨some 40, .ld 1 false (.t 39), none⟩,
      ⟨some 41, .vsl 1 (.t 37) (some (.t 38)) (some (.t 40)), none⟩,
      ⟨some 42, .pcall 0 35 [.t 41], none⟩,
      ⟨some 43, .mov (.t 1), none⟩,
      ⟨some 44, .mov (.t 7), none⟩,
      ⟨some 45, .fla 1 (.t 9), none⟩,
      ⟨some 46, .ld 1 false (.t 45), none⟩,
      ⟨some 47, .vsl 1 (.t 43) (some (.t 44)) (some (.t 46)), none⟩,
      ⟨some 48, .pcall 1 35 [.t 47], none⟩,
      ⟨some 49, .bld [.int .i64 0, .nl 1, .nl 1] [(0, 1, .t 36), (1, 1, .t 42), (2, 1, .t 48)], none⟩,
      ⟨some 50, .bsl 3 [.t 49], none⟩,
      ⟨some 51, .app 58 3 56 (.t 35) (.t 50), none⟩,
      ⟨some 5, .mov (.t 51), none⟩]) .skip))
    (.cut (.drg [⟨some 52, .fla 0 (.t 9), none⟩,
      ⟨some 53, .ld 1 false (.t 52), none⟩,
      ⟨some 54, .bin .add (.t 53) (.c (.int .i64 1)), none⟩,
      ⟨some 55, .fla 1 (.t 9), none⟩,
      ⟨some 56, .ld 1 false (.t 55), none⟩,
      ⟨some 57, .bin .add (.t 56) (.c (.int .i64 1)), none⟩,
      ⟨some 6, .mov (.t 54), none⟩,
      ⟨some 7, .mov (.t 57), none⟩])))))
    (.reg [⟨some 58, .bin .add (.t 21) (.c (.int .i64 1)), none⟩,
      ⟨some 21, .mov (.t 58), none⟩]))))
def ir_near_changes : IC :=
  (.seq (.reg [⟨some 4, .mov (.c (.nl 3)), none⟩])
    (.seq (.reg [⟨some 5, .nilr 58 3, none⟩])
    (.seq (.reg [⟨some 6, .mov (.c (.int .i64 0)), none⟩,
      ⟨some 7, .mov (.c (.int .i64 0)), none⟩])
    (.seq (.seq (.reg [⟨some 10, .mov (.t 0), none⟩,
      ⟨some 11, .mov (.t 1), none⟩,
      ⟨some 12, .call 26 [.t 10, .t 11], none⟩,
      ⟨some 13, .mov (.t 0), none⟩,
      ⟨some 14, .len (.t 13), none⟩,
      ⟨some 15, .mov (.t 1), none⟩,
      ⟨some 16, .len (.t 15), none⟩,
      ⟨some 17, .bld [.int .i64 0, .int .i64 0] [(0, 1, .t 14), (1, 1, .t 16)], none⟩,
      ⟨some 18, .bsl 2 [.t 17], none⟩,
      ⟨some 19, .app 66 2 16 (.t 12) (.t 18), none⟩,
      ⟨some 20, .len (.t 19), none⟩,
      ⟨some 21, .mov (.c (.int .i64 0)), none⟩])
    (.block 0 (.loop ir_near_changes_L0)))
    (.seq (.reg [⟨some 59, .mov (.t 5), none⟩,
      ⟨some 4, .mov (.t 59), none⟩])
    .ret)))))
def rs_near_changes : List IRes := [.t 4]
theorem ck_near_changes : chkF Tryd.prog Tryd.f27 ir_near_changes rs_near_changes 60 = true := by kernel_rfl

/- paperchase/chaseref1.DifferOf -/
def ir_chaseref1_DifferOf_L0 : IC :=
  (.seq (.reg [⟨some 28, .bin .lss (.t 27) (.t 26), none⟩])
    (.seq (.cond (.t 28) .skip (.exit 0))
    (.seq (.block 1 (.seq (.reg [⟨some 29, .ixa 2 (.t 25) (.t 27), none⟩,
      ⟨some 30, .ld 2 true (.t 29), none⟩,
      ⟨some 11, .alc 66 [.int .i64 0, .int .i64 0], none⟩,
      ⟨none, .st 2 (.t 11) (.t 30), none⟩])
    (.seq (.seq (.reg [⟨some 31, .fla 0 (.t 11), none⟩,
      ⟨some 32, .ld 1 false (.t 31), none⟩,
      ⟨some 33, .mov (.t 8), none⟩,
      ⟨some 34, .bin .gtr (.t 32) (.t 33), none⟩,
      ⟨some 35, .mov (.t 34), none⟩,
      ⟨some 36, .fla 1 (.t 11), (some (35, false))⟩,
      ⟨some 37, .ld 1 false (.t 36), (some (35, false))⟩,
      ⟨some 38, .mov (.t 9), (some (35, false))⟩,
      ⟨some 39, .bin .gtr (.t 37) (.t 38), (some (35, false))⟩,
      ⟨some 40, .pick (.t 35) (.c (.bool true)) (.t 39), none⟩])
    (.cond (.t 40) (.drg [⟨none, .fz (.t 48), none⟩,
      ⟨none, .fz (.t 54), none⟩,
      ⟨some 41, .mov (.t 7), none⟩,
      ⟨some 42, .mov (.t 8), none⟩,
      ⟨some 43, .mov (.t 5), none⟩,
      ⟨some 44, .mov (.t 8), none⟩,
      ⟨some 45, .fla 0 (.t 11), none⟩,
      ⟨some 46, .ld 1 false (.t 45), none⟩,
      ⟨some 47, .vsl 1 (.t 43) (some (.t 44)) (some (.t 46)), none⟩,
      ⟨some 48, .pcall 0 35 [.t 47], none⟩,
      ⟨some 49, .mov (.t 6), none⟩,
      ⟨some 50, .mov (.t 9), none⟩,
      ⟨some 51, .fla 1 (.t 11), none⟩,
      ⟨some 52, .ld 1 false (.t 51), none⟩,
      ⟨some 53, .vsl 1 (.t 49) (some (.t 50)) (some (.t 52)), none⟩,
      ⟨some 54, .pcall 1 35 [.t 53], none⟩,
      ⟨some 55, .bld [.int .i64 0, .nl 1, .nl 1] [(0, 1, .t 42), (1, 1, .t 48), (2, 1, .t 54)], none⟩,
      ⟨some 56, .bsl 3 [.t 55], none⟩,
      ⟨some 57, .app 58 3 56 (.t 41) (.t 56), none⟩,
      ⟨some 7, .mov (.t 57), none⟩]) .skip))
    (.cut (.drg [⟨some 58, .fla 0 (.t 11), none⟩,
      ⟨some 59, .ld 1 false (.t 58), none⟩,
      ⟨some 60, .bin .add (.t 59) (.c (.int .i64 1)), none⟩,
      ⟨some 61, .fla 1 (.t 11), none⟩,
      ⟨some 62, .ld 1 false (.t 61), none⟩,
      ⟨some 63, .bin .add (.t 62) (.c (.int .i64 1)), none⟩,
      ⟨some 8, .mov (.t 60), none⟩,
      ⟨some 9, .mov (.t 63), none⟩])))))
    (.reg [⟨some 64, .bin .add (.t 27) (.c (.int .i64 1)), none⟩,
      ⟨some 27, .mov (.t 64), none⟩]))))
def ir_chaseref1_DifferOf : IC :=
  (.seq (.reg [⟨some 4, .mov (.c (.nl 3)), none⟩])
    (.seq (.reg [⟨some 12, .mov (.t 0), none⟩,
      ⟨some 13, .call 29 [.t 12], none⟩,
      ⟨some 14, .mov (.t 1), none⟩,
      ⟨some 15, .call 29 [.t 14], none⟩,
      ⟨some 5, .mov (.t 13), none⟩,
      ⟨some 6, .mov (.t 15), none⟩])
    (.seq (.reg [⟨some 7, .nilr 58 3, none⟩])
    (.seq (.reg [⟨some 8, .mov (.c (.int .i64 0)), none⟩,
      ⟨some 9, .mov (.c (.int .i64 0)), none⟩])
    (.seq (.seq (.reg [⟨some 16, .mov (.t 5), none⟩,
      ⟨some 17, .mov (.t 6), none⟩,
      ⟨some 18, .call 32 [.t 16, .t 17], none⟩,
      ⟨some 19, .mov (.t 5), none⟩,
      ⟨some 20, .len (.t 19), none⟩,
      ⟨some 21, .mov (.t 6), none⟩,
      ⟨some 22, .len (.t 21), none⟩,
      ⟨some 23, .bld [.int .i64 0, .int .i64 0] [(0, 1, .t 20), (1, 1, .t 22)], none⟩,
      ⟨some 24, .bsl 2 [.t 23], none⟩,
      ⟨some 25, .app 66 2 16 (.t 18) (.t 24), none⟩,
      ⟨some 26, .len (.t 25), none⟩,
      ⟨some 27, .mov (.c (.int .i64 0)), none⟩])
    (.block 0 (.loop ir_chaseref1_DifferOf_L0)))
    (.seq (.reg [⟨some 65, .mov (.t 7), none⟩,
      ⟨some 4, .mov (.t 65), none⟩])
    .ret))))))
def rs_chaseref1_DifferOf : List IRes := [.t 4]
theorem ck_chaseref1_DifferOf : chkF Tryd.prog Tryd.f15 ir_chaseref1_DifferOf rs_chaseref1_DifferOf 66 = true := by kernel_rfl

/- paperchase/near.Differ -/
def ir_near_Differ : IC :=
  (.seq (.reg [⟨some 4, .mov (.c (.nl 3)), none⟩,
      ⟨some 5, .mov (.c (.int .i64 0)), none⟩])
    (.seq (.reg [⟨some 10, .mov (.t 0), none⟩,
      ⟨some 11, .mov (.t 1), none⟩,
      ⟨some 12, .call 25 [.t 10, .t 11], none⟩,
      ⟨some 9, .mov (.t 12), none⟩,
      ⟨some 13, .ext 0 (.t 9), none⟩,
      ⟨some 14, .ext 1 (.t 9), none⟩,
      ⟨some 15, .ext 2 (.t 9), none⟩,
      ⟨some 6, .mov (.t 13), none⟩,
      ⟨some 7, .mov (.t 14), none⟩,
      ⟨some 8, .mov (.t 15), none⟩])
    (.seq (.seq (.reg [⟨some 16, .mov (.t 8), none⟩,
      ⟨some 17, .bin .neq (.t 16) (.c (.int .i64 0)), none⟩])
    (.cond (.t 17) (.seq (.reg [⟨some 18, .mov (.t 8), none⟩,
      ⟨some 4, .mov (.c (.nl 3)), none⟩,
      ⟨some 5, .mov (.t 18), none⟩])
    .ret) .skip))
    (.seq (.reg [⟨some 19, .mov (.t 6), none⟩,
      ⟨some 20, .mov (.t 7), none⟩,
      ⟨some 21, .call 27 [.t 19, .t 20], none⟩,
      ⟨some 4, .mov (.t 21), none⟩,
      ⟨some 5, .mov (.c (.int .i64 0)), none⟩])
    .ret))))
def rs_near_Differ : List IRes := [.t 4, .t 5]
theorem ck_near_Differ : chkF Tryd.prog Tryd.f9 ir_near_Differ rs_near_Differ 22 = true := by kernel_rfl

abbrev tCh : Nat := 58
theorem kp_len (x y : Toks) : (kp 0 0 x y).length ≤ x.length := (kp_bd x y 0 0).1
def diF (x y : Toks) : Int := (x.length : Int) + y.length - 2 * ((kp 0 0 x y).length : Nat)
theorem Distance_ok (a b : List UInt8) (ha : a.length ≤ 1000000000) (hb : b.length ≤ 1000000000) : PCall Tryd.prog E0 8 [.str a, .str b] (· = .tup [int (if eBoth a b = 0 then diF (tokF a) (tokF b) else 0), int (eBoth a b)]) := by
  refine pcallF mixed Tryd.func8 ck_near_Distance ?_
  simp only [a0, l0, OS.ao, List.map_cons, List.map_nil, List.length_cons, List.length_nil, List.cons_append, List.nil_append, Nat.reduceSub, Nat.reduceAdd, List.replicate_succ, List.replicate_zero, ir_near_Distance, rs_near_Distance, ZZ, YY, Ze, ite_true, ite_false, forall_const, reduceCtorEq, Nat.reduceAdd, Nat.reduceMul, Nat.reduceLeDiff, Nat.reduceLT, Nat.reduceEqDiff]
  refine use (both_ok a b ha hb) rfl (.inl rfl) ?_
  rintro r ⟨X, Y, rfl, h⟩
  simp only [ZZ, YY, Ze, ite_true, ite_false, forall_const, reduceCtorEq, Nat.reduceAdd, Nat.reduceMul, Nat.reduceLeDiff, Nat.reduceLT, Nat.reduceEqDiff]
  by_cases h0 : eBoth a b = 0
  · have hd : decide (eBoth a b = 0) = true := decide_eq_true h0
    obtain ⟨rfl, rfl⟩ := h h0
    have h1 : eTok a = 0 := by
      by_cases h1 : eTok a = 0
      · exact h1
      · rw [eBoth, if_neg h1] at h0; exact h0
    have h2 : eTok b = 0 := by rwa [eBoth, if_pos h1] at h0
    have l1 := (eTok_zero h1).2
    have l2 := (eTok_zero h2).2
    simp only [ZZ, YY, Ze, ite_true, ite_false, forall_const, reduceCtorEq, Nat.reduceAdd, Nat.reduceMul, Nat.reduceLeDiff, Nat.reduceLT, Nat.reduceEqDiff, hd, strE_len]
    ((repeat' (with_reducible apply And.intro)) <;> try ((first | first | assumption | trivial | exact (fun hq => by rw [hq]; rfl) | exact i64_of (by omega) (by omega) | omega | (simp; done) | (simp; omega) | (intro hsc; have hs0 := hsc; (try have hsd := of_decide_eq_true hsc); (try simp only [Bool.not_eq_true', Bool.or_eq_false_iff, Bool.and_eq_true, Bool.or_eq_true, decide_eq_true_eq, decide_eq_false_iff_not] at hsc); (repeat' (with_reducible apply And.intro)) <;> (first | assumption | trivial | exact (fun hq => by rw [hq]; rfl) | exact i64_of (by omega) (by omega) | omega | (simp; done) | (simp; omega) | (intro hse; simp [hse, hs0]; done) | (intro hse; simp only [hse, hs0, Bool.true_and, Bool.and_true, Bool.not_false, Bool.not_true, Bool.and_self]; done))))))
    refine use1 (plainR (kept_ok (tokF a) (tokF b) (by omega) (by omega))) rfl (.inl rfl) ?_
    have hkl := kp_len (tokF a) (tokF b)
    simp only [ZZ, YY, Ze, ite_true, ite_false, forall_const, reduceCtorEq, Nat.reduceAdd, Nat.reduceMul, Nat.reduceLeDiff, Nat.reduceLT, Nat.reduceEqDiff, prE_len]
    ((repeat' (with_reducible apply And.intro)) <;> try ((first | first | assumption | trivial | exact (fun hq => by rw [hq]; rfl) | exact i64_of (by omega) (by omega) | omega | (simp; done) | (simp; omega) | (intro hsc; have hs0 := hsc; (try have hsd := of_decide_eq_true hsc); (try simp only [Bool.not_eq_true', Bool.or_eq_false_iff, Bool.and_eq_true, Bool.or_eq_true, decide_eq_true_eq, decide_eq_false_iff_not] at hsc); (repeat' (with_reducible apply And.intro)) <;> (first | assumption | trivial | exact (fun hq => by rw [hq]; rfl) | exact i64_of (by omega) (by omega) | omega | (simp; done) | (simp; omega) | (intro hse; simp [hse, hs0]; done) | (intro hse; simp only [hse, hs0, Bool.true_and, Bool.and_true, Bool.not_false, Bool.not_true, Bool.and_self]; done))))))
    rw [if_pos h0, h0]
    rfl
  · have hd : decide (eBoth a b = 0) = false := decide_eq_false h0
    simp only [ZZ, YY, Ze, ite_true, ite_false, forall_const, reduceCtorEq, Nat.reduceAdd, Nat.reduceMul, Nat.reduceLeDiff, Nat.reduceLT, Nat.reduceEqDiff, hd]
    rw [if_neg h0]
theorem DistanceOf_ok (a b : List UInt8) (ha : a.length ≤ 1000000000) (hb : b.length ≤ 1000000000) (h1 : (tokF a).length ≤ 2000) (h2 : (tokF b).length ≤ 2000) : PCall Tryd.prog E0 13 [.str a, .str b] (· = int (diF (tokF a) (tokF b))) := by
  refine pcallF mixed Tryd.func13 ck_chaseref1_DistanceOf ?_
  simp only [a0, l0, OS.ao, List.map_cons, List.map_nil, List.length_cons, List.length_nil, List.cons_append, List.nil_append, Nat.reduceSub, Nat.reduceAdd, List.replicate_succ, List.replicate_zero, ir_chaseref1_DistanceOf, rs_chaseref1_DistanceOf, ZZ, YY, Ze, ite_true, ite_false, forall_const, reduceCtorEq, Nat.reduceAdd, Nat.reduceMul, Nat.reduceLeDiff, Nat.reduceLT, Nat.reduceEqDiff]
  refine use1 (plainR (TokensOf_ok a ha)) rfl (.inl rfl) ?_
  simp only [ZZ, YY, Ze, ite_true, ite_false, forall_const, reduceCtorEq, Nat.reduceAdd, Nat.reduceMul, Nat.reduceLeDiff, Nat.reduceLT, Nat.reduceEqDiff]
  refine use1 (plainR (TokensOf_ok b hb)) rfl (.inl rfl) ?_
  simp only [ZZ, YY, Ze, ite_true, ite_false, forall_const, reduceCtorEq, Nat.reduceAdd, Nat.reduceMul, Nat.reduceLeDiff, Nat.reduceLT, Nat.reduceEqDiff, strE_len]
  ((repeat' (with_reducible apply And.intro)) <;> try ((first | first | assumption | trivial | exact (fun hq => by rw [hq]; rfl) | exact i64_of (by omega) (by omega) | omega | (simp; done) | (simp; omega) | (intro hsc; have hs0 := hsc; (try have hsd := of_decide_eq_true hsc); (try simp only [Bool.not_eq_true', Bool.or_eq_false_iff, Bool.and_eq_true, Bool.or_eq_true, decide_eq_true_eq, decide_eq_false_iff_not] at hsc); (repeat' (with_reducible apply And.intro)) <;> (first | assumption | trivial | exact (fun hq => by rw [hq]; rfl) | exact i64_of (by omega) (by omega) | omega | (simp; done) | (simp; omega) | (intro hse; simp [hse, hs0]; done) | (intro hse; simp only [hse, hs0, Bool.true_and, Bool.and_true, Bool.not_false, Bool.not_true, Bool.and_self]; done))))))
  refine use1 (plainR (keptOf_ok (tokF a) (tokF b) (by omega) (by omega))) rfl (.inl rfl) ?_
  have hkl := kp_len (tokF a) (tokF b)
  simp only [ZZ, YY, Ze, ite_true, ite_false, forall_const, reduceCtorEq, Nat.reduceAdd, Nat.reduceMul, Nat.reduceLeDiff, Nat.reduceLT, Nat.reduceEqDiff, prE_len, ← kp_kr]
  ((repeat' (with_reducible apply And.intro)) <;> try ((first | first | assumption | trivial | exact (fun hq => by rw [hq]; rfl) | exact i64_of (by omega) (by omega) | omega | (simp; done) | (simp; omega) | (intro hsc; have hs0 := hsc; (try have hsd := of_decide_eq_true hsc); (try simp only [Bool.not_eq_true', Bool.or_eq_false_iff, Bool.and_eq_true, Bool.or_eq_true, decide_eq_true_eq, decide_eq_false_iff_not] at hsc); (repeat' (with_reducible apply And.intro)) <;> (first | assumption | trivial | exact (fun hq => by rw [hq]; rfl) | exact i64_of (by omega) (by omega) | omega | (simp; done) | (simp; omega) | (intro hse; simp [hse, hs0]; done) | (intro hse; simp only [hse, hs0, Bool.true_and, Bool.and_true, Bool.not_false, Bool.not_true, Bool.and_self]; done))))))
/-- Changes: where, what goes, what comes. -/
abbrev Chg := Nat × Toks × Toks
def chE (l : List Chg) : List (List PV) := l.map fun c => [int (c.1 : Nat), .sl 1 (strE c.2.1), .sl 1 (strE c.2.2)]
theorem chE_len (l : List Chg) : (chE l).length = l.length := by simp [chE]
theorem chE_app (l m : List Chg) : chE (l ++ m) = chE l ++ chE m := by simp [chE]
def chg (x y : Toks) : List (Nat × Nat) → Nat → Nat → List Chg
  | [], _, _ => []
  | p :: r, i, j => (if i < p.1 ∨ j < p.2 then [(i, (x.take p.1).drop i, (y.take p.2).drop j)] else []) ++ chg x y r (p.1 + 1) (p.2 + 1)
/-- Pairs that rise. -/
def Chn (X Y : Nat) : Nat → Nat → List (Nat × Nat) → Prop
  | _, _, [] => True
  | i, j, p :: r => i ≤ p.1 ∧ j ≤ p.2 ∧ p.1 ≤ X ∧ p.2 ≤ Y ∧ Chn X Y (p.1 + 1) (p.2 + 1) r
theorem kp_chn {X Y : Nat} : ∀ (az bs : Toks) (i j : Nat), i + az.length = X → j + bs.length = Y → Chn X Y i j (kp i j az bs ++ [(X, Y)]) := by
  intro az
  induction az with
  | nil => intro bs i j h1 h2; simp only [kp, List.nil_append, Chn]; exact ⟨by simp at h1; omega, by omega, by omega, by omega, trivial⟩
  | cons a az ih =>
    intro bs i j h1 h2
    simp only [List.length_cons] at h1
    have wk : ∀ (l : List (Nat × Nat)), Chn X Y (i + 1) j l → Chn X Y i j l := by
      intro l h
      cases l with
      | nil => trivial
      | cons p r => exact ⟨by have := h.1; omega, h.2⟩
    rw [kp]
    split
    · simp only [List.nil_append, Chn]; exact ⟨by omega, by omega, by omega, by omega, trivial⟩
    split
    · rename_i h
      have := ih (bs.drop (ixO a bs + 1)) (i + 1) (j + ixO a bs + 1) (by omega) (by simp; omega)
      exact ⟨Nat.le_refl _, by simp, by simp; omega, by have := h.1; simp; omega, this⟩
    · exact wk _ (ih bs (i + 1) j (by omega) h2)
def prsF (x y : Toks) : List (Nat × Nat) := kp 0 0 x y ++ [(x.length, y.length)]
def chF (x y : Toks) : List Chg := chg x y (prsF x y) 0 0
theorem prsF_len (x y : Toks) : (prsF x y).length ≤ x.length + 1 := by have := kp_len x y; simp [prsF]; omega
theorem prsF_chn (x y : Toks) : Chn x.length y.length 0 0 (prsF x y) := kp_chn x y 0 0 (by simp) (by simp)
theorem chn_drop {X Y : Nat} : ∀ {l : List (Nat × Nat)} {i j : Nat}, Chn X Y i j l → ∀ {p : Nat × Nat} {r : List (Nat × Nat)}, l = p :: r → i ≤ p.1 ∧ j ≤ p.2 ∧ p.1 ≤ X ∧ p.2 ≤ Y ∧ Chn X Y (p.1 + 1) (p.2 + 1) r := by
  rintro l i j h p r rfl
  exact h
set_option maxHeartbeats 4000000 in
theorem changes_ok (x y : Toks) (hx : x.length ≤ 3000) (hy : y.length ≤ 3000) : FCall Tryd.prog E0 27 [.sl 1 (strE x), .sl 1 (strE y)] tCh 3 (· = chE (chF x y)) := by
  unfold FCall
  refine gcallR mixed Tryd.func27 ck_near_changes ?_
  simp only [a0, l0, OS.ao, List.map_cons, List.map_nil, List.length_cons, List.length_nil, List.cons_append, List.nil_append, Nat.reduceSub, Nat.reduceAdd, List.replicate_succ, List.replicate_zero, ir_near_changes, rs_near_changes, ZZ, YY, Ze, ite_true, ite_false, forall_const, reduceCtorEq, Nat.reduceAdd, Nat.reduceMul, Nat.reduceLeDiff, Nat.reduceLT, Nat.reduceEqDiff]
  refine useF (kept_ok x y hx hy) rfl rfl ?_
  rintro es rfl
  have hpl := prsF_len x y
  have hch := prsF_chn x y
  have hkl := kp_len x y
  have hps : prE (kp 0 0 x y) ++ [[PV.int .i64 (x.length : Nat), PV.int .i64 (y.length : Nat)]] = prE (prsF x y) := by rw [prsF, prE_app]; rfl
  simp only [ZZ, YY, Ze, ite_true, ite_false, forall_const, reduceCtorEq, Nat.reduceAdd, Nat.reduceMul, Nat.reduceLeDiff, Nat.reduceLT, Nat.reduceEqDiff, strE_len, prE_len, hps]
  ((repeat' (with_reducible apply And.intro)) <;> try ((first | first | assumption | trivial | exact (fun hq => by rw [hq]; rfl) | exact i64_of (by omega) (by omega) | omega | (simp; done) | (simp; omega) | (intro hsc; have hs0 := hsc; (try have hsd := of_decide_eq_true hsc); (try simp only [Bool.not_eq_true', Bool.or_eq_false_iff, Bool.and_eq_true, Bool.or_eq_true, decide_eq_true_eq, decide_eq_false_iff_not] at hsc); (repeat' (with_reducible apply And.intro)) <;> (first | assumption | trivial | exact (fun hq => by rw [hq]; rfl) | exact i64_of (by omega) (by omega) | omega | (simp; done) | (simp; omega) | (intro hse; simp [hse, hs0]; done) | (intro hse; simp only [hse, hs0, Bool.true_and, Bool.and_true, Bool.not_false, Bool.not_true, Bool.and_self]; done))))))
  rw [show chF x y = chg x y (prsF x y) 0 0 from rfl]
  generalize prsF x y = ps at *
  refine loop_intro (fun n fr L => ∃ (k : Nat) (i : Nat) (j : Nat) (out : List Chg), k ≤ ps.length ∧ n = ps.length - k ∧ (out.length ≤ k) ∧ (chg x y ps 0 0 = out ++ chg x y (ps.drop k) i j) ∧ (Chn x.length y.length i j (ps.drop k)) ∧ fr = [.p (.sl 1 (strE x)), .p (.sl 1 (strE y)), .any, .any, .any, .row (.l 5), .p (int (i : Nat)), .p (int (j : Nat)), .any, .any, .any, .any, .any, .any, .any, .any, .any, .any, .any, .row (.l 12), .p (int (ps.length : Nat)), .p (int (k : Nat)), .any, .any, .any, .any, .any, .any, .any, .any, .any, .any, .any, .any, .any, .any, .any, .any, .any, .any, .any, .any, .any, .any, .any, .any, .any, .any, .any, .any, .any, .any, .any, .any, .any, .any, .any, .any, .any, .any] ∧ L = [(.l 12, .row (prE ps) tPr 2 true), (.l 5, .row (chE out) tCh 3 true)]) (ps.length) [.p (.sl 1 (strE x)), .p (.sl 1 (strE y)), .any, .any, .any, .row (.l 5), .p (int (0 : Nat)), .p (int (0 : Nat)), .any, .any, .any, .any, .any, .any, .any, .any, .any, .any, .any, .row (.l 12), .p (int (ps.length : Nat)), .p (int (0 : Nat)), .any, .any, .any, .any, .any, .any, .any, .any, .any, .any, .any, .any, .any, .any, .any, .any, .any, .any, .any, .any, .any, .any, .any, .any, .any, .any, .any, .any, .any, .any, .any, .any, .any, .any, .any, .any, .any, .any] [(.l 12, .row (prE ps) tPr 2 true), (.l 5, .row (chE []) tCh 3 true)] (by simp only [ZZ, YY, Ze, ite_true, ite_false, forall_const, reduceCtorEq, Nat.reduceAdd, Nat.reduceMul, Nat.reduceLeDiff, Nat.reduceLT, Nat.reduceEqDiff, strE_len, prE_len]; try trivial) (by (simp only [ZZ, YY, Ze, ite_true, ite_false, forall_const, reduceCtorEq, Nat.reduceAdd, Nat.reduceMul, Nat.reduceLeDiff, Nat.reduceLT, Nat.reduceEqDiff]; try trivial)) ⟨0, 0, 0, [], by omega, by omega, by simp, by simp, by simpa using hch, rfl, rfl⟩ ?_
  rintro n fr L ⟨k, i, j, out, hk, rfl, ho, hf, hc, rfl, rfl⟩
  simp only [ir_near_changes_L0, ZZ, YY, Ze, ite_true, ite_false, forall_const, reduceCtorEq, Nat.reduceAdd, Nat.reduceMul, Nat.reduceLeDiff, Nat.reduceLT, Nat.reduceEqDiff]
  refine br ?_ ?_
  · intro h
    have hlt : k < ps.length := by have := of_decide_eq_true h; omega
    obtain ⟨p, hp⟩ : ∃ p, ps[k]? = some p := ⟨_, List.getElem?_eq_getElem hlt⟩
    have hg : (prE ps).getD k [] = [int (p.1 : Nat), int (p.2 : Nat)] := by unfold prE; exact getD_map hp
    have hd : ps.drop k = p :: ps.drop (k + 1) := by
      obtain ⟨hl, rfl⟩ := List.getElem?_eq_some_iff.1 hp
      exact List.drop_eq_getElem_cons hl
    obtain ⟨c1, c2, c3, c4, c5⟩ := chn_drop hc hd
    rw [hd, chg] at hf
    simp only [ZZ, YY, Ze, ite_true, ite_false, forall_const, reduceCtorEq, Nat.reduceAdd, Nat.reduceMul, Nat.reduceLeDiff, Nat.reduceLT, Nat.reduceEqDiff, hg, prE_len]
    ((repeat' (with_reducible apply And.intro)) <;> try ((first | first | assumption | trivial | exact (fun hq => by rw [hq]; rfl) | exact i64_of (by omega) (by omega) | omega | (simp; done) | (simp; omega) | (intro hsc; have hs0 := hsc; (try have hsd := of_decide_eq_true hsc); (try simp only [Bool.not_eq_true', Bool.or_eq_false_iff, Bool.and_eq_true, Bool.or_eq_true, decide_eq_true_eq, decide_eq_false_iff_not] at hsc); (repeat' (with_reducible apply And.intro)) <;> (first | assumption | trivial | exact (fun hq => by rw [hq]; rfl) | exact i64_of (by omega) (by omega) | omega | (simp; done) | (simp; omega) | (intro hse; simp [hse, hs0]; done) | (intro hse; simp only [hse, hs0, Bool.true_and, Bool.and_true, Bool.not_false, Bool.not_true, Bool.and_self]; done))))))
    refine br ?_ ?_
    · intro hb
      have hb : i < p.1 ∨ j < p.2 := by
        simp only [Bool.or_eq_true, decide_eq_true_eq] at hb
        omega
      rw [if_pos hb] at hf
      have e1 : ((strE x).take p.1).drop i = strE ((x.take p.1).drop i) := by rw [strE, strE, ← List.map_take, ← List.map_drop]
      have e2 : ((strE y).take p.2).drop j = strE ((y.take p.2).drop j) := by rw [strE, strE, ← List.map_take, ← List.map_drop]
      have l1 : (strE ((x.take p.1).drop i)).length ≤ 1000000 := by rw [strE_len]; simp; omega
      have l2 : (strE ((y.take p.2).drop j)).length ≤ 1000000 := by rw [strE_len]; simp; omega
      simp only [ZZ, YY, Ze, ite_true, ite_false, forall_const, reduceCtorEq, Nat.reduceAdd, Nat.reduceMul, Nat.reduceLeDiff, Nat.reduceLT, Nat.reduceEqDiff]
      refine drg2 (x1 := .sl 1 (strE ((x.take p.1).drop i))) (x2 := .sl 1 (strE ((y.take p.2).drop j))) ?_
      simp only [ZZ, YY, Ze, ite_true, ite_false, forall_const, reduceCtorEq, Nat.reduceAdd, Nat.reduceMul, Nat.reduceLeDiff, Nat.reduceLT, Nat.reduceEqDiff, e1, e2, strE_len, chE_len]
      ((repeat' (with_reducible apply And.intro)) <;> try (first | exact usep (plainR (CloneS_ok _ l1)) rfl (.inl rfl) | exact usep (plainR (CloneS_ok _ l2)) rfl (.inl rfl) | (first | first | assumption | trivial | exact (fun hq => by rw [hq]; rfl) | exact i64_of (by omega) (by omega) | omega | (simp; done) | (simp; omega) | (intro hsc; have hs0 := hsc; (try have hsd := of_decide_eq_true hsc); (try simp only [Bool.not_eq_true', Bool.or_eq_false_iff, Bool.and_eq_true, Bool.or_eq_true, decide_eq_true_eq, decide_eq_false_iff_not] at hsc); (repeat' (with_reducible apply And.intro)) <;> (first | assumption | trivial | exact (fun hq => by rw [hq]; rfl) | exact i64_of (by omega) (by omega) | omega | (simp; done) | (simp; omega) | (intro hse; simp [hse, hs0]; done) | (intro hse; simp only [hse, hs0, Bool.true_and, Bool.and_true, Bool.not_false, Bool.not_true, Bool.and_self]; done))))))
      refine cut_same (by simp only [ZZ, YY, Ze, ite_true, ite_false, forall_const, reduceCtorEq, Nat.reduceAdd, Nat.reduceMul, Nat.reduceLeDiff, Nat.reduceLT, Nat.reduceEqDiff]) ?_
      simp only [ZZ, YY, Ze, ite_true, ite_false, forall_const, reduceCtorEq, Nat.reduceAdd, Nat.reduceMul, Nat.reduceLeDiff, Nat.reduceLT, Nat.reduceEqDiff]
      refine drg0 ?_
      simp only [ZZ, YY, Ze, ite_true, ite_false, forall_const, reduceCtorEq, Nat.reduceAdd, Nat.reduceMul, Nat.reduceLeDiff, Nat.reduceLT, Nat.reduceEqDiff]
      ((repeat' (with_reducible apply And.intro)) <;> try ((first | first | assumption | trivial | exact (fun hq => by rw [hq]; rfl) | exact i64_of (by omega) (by omega) | omega | (simp; done) | (simp; omega) | (intro hsc; have hs0 := hsc; (try have hsd := of_decide_eq_true hsc); (try simp only [Bool.not_eq_true', Bool.or_eq_false_iff, Bool.and_eq_true, Bool.or_eq_true, decide_eq_true_eq, decide_eq_false_iff_not] at hsc); (repeat' (with_reducible apply And.intro)) <;> (first | assumption | trivial | exact (fun hq => by rw [hq]; rfl) | exact i64_of (by omega) (by omega) | omega | (simp; done) | (simp; omega) | (intro hse; simp [hse, hs0]; done) | (intro hse; simp only [hse, hs0, Bool.true_and, Bool.and_true, Bool.not_false, Bool.not_true, Bool.and_self]; done))))))
      have hce : chE out ++ [[int (i : Nat), .sl 1 (strE ((x.take p.1).drop i)), .sl 1 (strE ((y.take p.2).drop j))]] = chE (out ++ [(i, (x.take p.1).drop i, (y.take p.2).drop j)]) := by rw [chE_app]; rfl
      rw [hce]
      refine end_round (ps.length - (k + 1)) [.p (.sl 1 (strE x)), .p (.sl 1 (strE y)), .any, .any, .any, .row (.l 5), .p (int ((p.1 + 1) : Nat)), .p (int ((p.2 + 1) : Nat)), .any, .any, .any, .any, .any, .any, .any, .any, .any, .any, .any, .row (.l 12), .p (int (ps.length : Nat)), .p (int ((k + 1) : Nat)), .any, .any, .any, .any, .any, .any, .any, .any, .any, .any, .any, .any, .any, .any, .any, .any, .any, .any, .any, .any, .any, .any, .any, .any, .any, .any, .any, .any, .any, .any, .any, .any, .any, .any, .any, .any, .any, .any] [(.l 12, .row (prE ps) tPr 2 true), (.l 5, .row (chE (out ++ [(i, (x.take p.1).drop i, (y.take p.2).drop j)])) tCh 3 true)] (by omega) (by (simp only [ZZ, YY, Ze, ite_true, ite_false, forall_const, reduceCtorEq, Nat.reduceAdd, Nat.reduceMul, Nat.reduceLeDiff, Nat.reduceLT, Nat.reduceEqDiff]; try trivial)) (by (simp only [ZZ, YY, Ze, ite_true, ite_false, forall_const, reduceCtorEq, Nat.reduceAdd, Nat.reduceMul, Nat.reduceLeDiff, Nat.reduceLT, Nat.reduceEqDiff]; try trivial)) ⟨k + 1, p.1 + 1, p.2 + 1, out ++ [(i, (x.take p.1).drop i, (y.take p.2).drop j)], by omega, rfl, by simp; omega, by rw [hf, List.append_assoc], c5, rfl, rfl⟩
    · intro hb
      have hb : ¬ (i < p.1 ∨ j < p.2) := by
        simp only [Bool.or_eq_false_iff, decide_eq_false_iff_not] at hb
        omega
      rw [if_neg hb, List.nil_append] at hf
      simp only [ZZ, YY, Ze, ite_true, ite_false, forall_const, reduceCtorEq, Nat.reduceAdd, Nat.reduceMul, Nat.reduceLeDiff, Nat.reduceLT, Nat.reduceEqDiff]
      refine cut_same (by simp only [ZZ, YY, Ze, ite_true, ite_false, forall_const, reduceCtorEq, Nat.reduceAdd, Nat.reduceMul, Nat.reduceLeDiff, Nat.reduceLT, Nat.reduceEqDiff]) ?_
      simp only [ZZ, YY, Ze, ite_true, ite_false, forall_const, reduceCtorEq, Nat.reduceAdd, Nat.reduceMul, Nat.reduceLeDiff, Nat.reduceLT, Nat.reduceEqDiff]
      refine drg0 ?_
      simp only [ZZ, YY, Ze, ite_true, ite_false, forall_const, reduceCtorEq, Nat.reduceAdd, Nat.reduceMul, Nat.reduceLeDiff, Nat.reduceLT, Nat.reduceEqDiff]
      ((repeat' (with_reducible apply And.intro)) <;> try ((first | first | assumption | trivial | exact (fun hq => by rw [hq]; rfl) | exact i64_of (by omega) (by omega) | omega | (simp; done) | (simp; omega) | (intro hsc; have hs0 := hsc; (try have hsd := of_decide_eq_true hsc); (try simp only [Bool.not_eq_true', Bool.or_eq_false_iff, Bool.and_eq_true, Bool.or_eq_true, decide_eq_true_eq, decide_eq_false_iff_not] at hsc); (repeat' (with_reducible apply And.intro)) <;> (first | assumption | trivial | exact (fun hq => by rw [hq]; rfl) | exact i64_of (by omega) (by omega) | omega | (simp; done) | (simp; omega) | (intro hse; simp [hse, hs0]; done) | (intro hse; simp only [hse, hs0, Bool.true_and, Bool.and_true, Bool.not_false, Bool.not_true, Bool.and_self]; done))))))
      refine end_round (ps.length - (k + 1)) [.p (.sl 1 (strE x)), .p (.sl 1 (strE y)), .any, .any, .any, .row (.l 5), .p (int ((p.1 + 1) : Nat)), .p (int ((p.2 + 1) : Nat)), .any, .any, .any, .any, .any, .any, .any, .any, .any, .any, .any, .row (.l 12), .p (int (ps.length : Nat)), .p (int ((k + 1) : Nat)), .any, .any, .any, .any, .any, .any, .any, .any, .any, .any, .any, .any, .any, .any, .any, .any, .any, .any, .any, .any, .any, .any, .any, .any, .any, .any, .any, .any, .any, .any, .any, .any, .any, .any, .any, .any, .any, .any] [(.l 12, .row (prE ps) tPr 2 true), (.l 5, .row (chE out) tCh 3 true)] (by omega) (by (simp only [ZZ, YY, Ze, ite_true, ite_false, forall_const, reduceCtorEq, Nat.reduceAdd, Nat.reduceMul, Nat.reduceLeDiff, Nat.reduceLT, Nat.reduceEqDiff]; try trivial)) (by (simp only [ZZ, YY, Ze, ite_true, ite_false, forall_const, reduceCtorEq, Nat.reduceAdd, Nat.reduceMul, Nat.reduceLeDiff, Nat.reduceLT, Nat.reduceEqDiff]; try trivial)) ⟨k + 1, p.1 + 1, p.2 + 1, out, by omega, rfl, by omega, hf, c5, rfl, rfl⟩
  · intro h
    have hge : k = ps.length := by have := of_decide_eq_false h; omega
    subst hge
    simp only [ZZ, YY, Ze, ite_true, ite_false, forall_const, reduceCtorEq, Nat.reduceAdd, Nat.reduceMul, Nat.reduceLeDiff, Nat.reduceLT, Nat.reduceEqDiff]
    refine fin_F 5 _ rfl rfl ?_
    rw [hf, List.drop_length, chg, List.append_nil]
end Go.Proofs.YtchjpcojfeckbaaDoor
