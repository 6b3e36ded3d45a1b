
/- The law TextsPaged: its walk. -/
import Derived.Test.YtejekkhhpkeckaaGreatDoorZ7
import Derived.Test.YtejekkhhpkeckaaGreatDoorZ9
import Derived.Test.YtejekkhhpkeckaaGreatDoorZ10
namespace Go.Proofs.YtejekkhhpkeckaaGreatDoor
open Go.RowKit
set_option linter.unusedVariables false
set_option linter.unusedSimpArgs false
set_option linter.defProp false

/- paperchase/chaselaw1.TextsPaged -/
def ir_chaselaw1_TextsPaged : IC :=
  (.seq (.reg [⟨some 2, .mov (.c (.bool false)), none⟩])
    (.seq (.reg [⟨some 10, .mov (.t 0), none⟩,
      ⟨some 11, .bld [.nl 1, .int .i64 0] [(0, 1, .t 10)], none⟩,
      ⟨some 12, .box 25 (.t 11), none⟩,
      ⟨some 3, .mov (.t 12), none⟩])
    (.seq (.reg [⟨some 13, .mov (.t 3), none⟩,
      ⟨some 14, .call 5 [.t 13], none⟩,
      ⟨some 4, .mov (.t 14), none⟩])
    (.seq (.reg [⟨some 16, .mov (.t 4), none⟩,
      ⟨none, .fz (.t 16), none⟩,
      ⟨some 17, .call 6 [.t 16], none⟩,
      ⟨some 15, .mov (.t 17), none⟩,
      ⟨some 18, .ext 0 (.t 15), none⟩,
      ⟨some 19, .ext 1 (.t 15), none⟩,
      ⟨some 5, .mov (.t 18), none⟩,
      ⟨some 6, .mov (.t 19), none⟩])
    (.seq (.reg [⟨some 21, .mov (.t 4), none⟩,
      ⟨none, .fz (.t 21), none⟩,
      ⟨some 22, .call 7 [.t 21], none⟩,
      ⟨some 20, .mov (.t 22), none⟩,
      ⟨some 23, .ext 0 (.t 20), none⟩,
      ⟨some 24, .ext 1 (.t 20), none⟩,
      ⟨some 7, .mov (.t 23), none⟩,
      ⟨some 8, .mov (.t 24), none⟩])
    (.seq (.seq (.reg [⟨some 25, .mov (.t 4), none⟩,
      ⟨some 26, .call 8 [.t 25], none⟩,
      ⟨some 9, .mov (.t 26), none⟩])
    (.seq (.reg [⟨some 27, .mov (.t 9), none⟩,
      ⟨some 28, .bin .neq (.t 27) (.c (.int .i64 0)), none⟩])
    (.cond (.t 28) (.seq (.reg [⟨some 29, .call 9 [], none⟩,
      ⟨some 30, .mov (.t 29), none⟩,
      ⟨some 31, .mov (.t 6), (some (30, true))⟩,
      ⟨some 32, .mov (.t 9), (some (30, true))⟩,
      ⟨some 33, .bin .eql (.t 31) (.t 32), (some (30, true))⟩,
      ⟨some 34, .pick (.t 30) (.t 33) (.c (.bool false)), none⟩,
      ⟨some 35, .mov (.t 34), none⟩,
      ⟨some 36, .mov (.t 8), (some (35, true))⟩,
      ⟨some 37, .mov (.t 9), (some (35, true))⟩,
      ⟨some 38, .bin .eql (.t 36) (.t 37), (some (35, true))⟩,
      ⟨some 39, .pick (.t 35) (.t 38) (.c (.bool false)), none⟩,
      ⟨some 2, .mov (.t 39), none⟩])
    .ret) .skip)))
    (.seq (.reg [⟨some 40, .call 9 [], none⟩,
      ⟨some 41, .mov (.t 40), none⟩,
      ⟨some 42, .mov (.t 6), (some (41, true))⟩,
      ⟨some 43, .bin .eql (.t 42) (.c (.int .i64 0)), (some (41, true))⟩,
      ⟨some 44, .pick (.t 41) (.t 43) (.c (.bool false)), none⟩,
      ⟨some 45, .mov (.t 44), none⟩,
      ⟨some 46, .mov (.t 8), (some (45, true))⟩,
      ⟨some 47, .bin .eql (.t 46) (.c (.int .i64 0)), (some (45, true))⟩,
      ⟨some 48, .pick (.t 45) (.t 47) (.c (.bool false)), none⟩,
      ⟨some 49, .mov (.t 48), none⟩,
      ⟨some 50, .mov (.t 5), (some (49, true))⟩,
      ⟨some 51, .mov (.t 4), (some (49, true))⟩,
      ⟨none, .fz (.t 51), none⟩,
      ⟨some 52, .call 11 [.t 51], (some (49, true))⟩,
      ⟨some 53, .call 10 [.t 50, .t 52], (some (49, true))⟩,
      ⟨some 54, .pick (.t 49) (.t 53) (.c (.bool false)), none⟩,
      ⟨some 55, .mov (.t 54), none⟩,
      ⟨some 56, .mov (.t 7), (some (55, true))⟩,
      ⟨some 57, .mov (.t 4), (some (55, true))⟩,
      ⟨none, .fz (.t 57), none⟩,
      ⟨some 58, .call 13 [.t 57], (some (55, true))⟩,
      ⟨some 59, .call 12 [.t 56, .t 58], (some (55, true))⟩,
      ⟨some 60, .pick (.t 55) (.t 59) (.c (.bool false)), none⟩,
      ⟨some 2, .mov (.t 60), none⟩])
    .ret)))))))
def rs_chaselaw1_TextsPaged : List IRes := [.t 2]
theorem ck_chaselaw1_TextsPaged : chkF Tryz.prog Tryz.f3 ir_chaselaw1_TextsPaged rs_chaselaw1_TextsPaged 61 = true := by kernel_rfl

section
variable {E : Envt}
set_option maxHeartbeats 4000000 in
set_option maxRecDepth 100000 in
theorem PaperText_ok (l : List Int) (k : Nat) (hk : k ≤ 800000) (hl : l.length ≤ 9223372036854775807) :
    SCall Tryz.prog E 5 T (stm l k) [] (fun x cs' => ∃ t k', x = .str t ∧ t.length ≤ 20001 ∧ cs' = stm l k' ∧ k' ≤ k + 30) := by
  unfold SCall
  refine gcallP mixed Tryz.func5 ck_chasemake_Stream_PaperText ?_
  simp only [a0, l0, OS.ao, List.map_cons, List.map_nil, List.length_cons, List.length_nil, List.cons_append, List.nil_append, Nat.reduceSub, Nat.reduceAdd, List.replicate_succ, List.replicate_zero, ir_chasemake_Stream_PaperText, rs_chasemake_Stream_PaperText, ZZ, YY, Ze, ite_true, ite_false, forall_const, reduceCtorEq, Nat.reduceAdd, Nat.reduceMul, Nat.reduceLeDiff, Nat.reduceLT, Nat.reduceEqDiff]
  refine useS (Papers_ok l k 1 (by omega) hl (by omega)) rfl rfl rfl (by simp only [ZZ, YY, Ze, ite_true, ite_false, forall_const, reduceCtorEq, Nat.reduceAdd, Nat.reduceMul, Nat.reduceLeDiff, Nat.reduceLT, Nat.reduceEqDiff]) ?_
  rintro x cs' ⟨il, k1, rfl, hil, hib, rfl, hk1⟩
  simp only [ZZ, YY, Ze, ite_true, ite_false, forall_const, reduceCtorEq, Nat.reduceAdd, Nat.reduceMul, Nat.reduceLeDiff, Nat.reduceLT, Nat.reduceEqDiff, itE_len]
  refine useGC (fun hc => ?_) (fun hc => ?_)
  · have hd : decide ((il.length : Int) = 0) = false := by rwa [Bool.not_eq_true'] at hc
    have h0 : 0 < il.length := by have := of_decide_eq_false hd; omega
    refine useS (Flip_ok l k1 12 (by omega) hl (by omega)) rfl rfl rfl (by simp only [ZZ, YY, Ze, ite_true, ite_false, forall_const, reduceCtorEq, Nat.reduceAdd, Nat.reduceMul, Nat.reduceLeDiff, Nat.reduceLT, Nat.reduceEqDiff]) ?_
    rintro x cs' ⟨b, rfl, rfl⟩
    simp only [ZZ, YY, Ze, ite_true, ite_false, forall_const, reduceCtorEq, Nat.reduceAdd, Nat.reduceMul, Nat.reduceLeDiff, Nat.reduceLT, Nat.reduceEqDiff, hd]
    refine br ?_ ?_
    · intro _
      simp only [ZZ, YY, Ze, ite_true, ite_false, forall_const, reduceCtorEq, Nat.reduceAdd, Nat.reduceMul, Nat.reduceLeDiff, Nat.reduceLT, Nat.reduceEqDiff]
      refine use1 (RepeatG_ok [112] 20000 (by omega) (by simp)) rfl (.inl rfl) ?_
      have e1 := Lib.repeatL_length [112] 20000
      generalize Lib.repeatL [112] 20000 = w1 at *
      simp only [List.length_cons, List.length_nil] at e1
      simp only [ZZ, YY, Ze, ite_true, ite_false, forall_const, reduceCtorEq, Nat.reduceAdd, Nat.reduceMul, Nat.reduceLeDiff, Nat.reduceLT, Nat.reduceEqDiff, List.length_append, List.length_cons, List.length_nil]
      refine ⟨by omega, ?_⟩
      refine use1 (RepeatG_ok [32] 90 (by omega) (by simp)) rfl (.inl rfl) ?_
      have e2 := Lib.repeatL_length [32] 90
      generalize Lib.repeatL [32] 90 = w2 at *
      simp only [List.length_cons, List.length_nil] at e2
      simp only [ZZ, YY, Ze, ite_true, ite_false, forall_const, reduceCtorEq, Nat.reduceAdd, Nat.reduceMul, Nat.reduceLeDiff, Nat.reduceLT, Nat.reduceEqDiff, List.length_append, List.length_cons, List.length_nil]
      refine ⟨by omega, ?_⟩
      refine use1 (RepeatG_ok [32] 81 (by omega) (by simp)) rfl (.inl rfl) ?_
      have e3 := Lib.repeatL_length [32] 81
      generalize Lib.repeatL [32] 81 = w3 at *
      simp only [List.length_cons, List.length_nil] at e3
      simp only [ZZ, YY, Ze, ite_true, ite_false, forall_const, reduceCtorEq, Nat.reduceAdd, Nat.reduceMul, Nat.reduceLeDiff, Nat.reduceLT, Nat.reduceEqDiff, List.length_append, List.length_cons, List.length_nil]
      refine ⟨by omega, ?_⟩
      refine use1 (RepeatG_ok [195, 169] 41 (by omega) (by simp)) rfl (.inl rfl) ?_
      have e4 := Lib.repeatL_length [195, 169] 41
      generalize Lib.repeatL [195, 169] 41 = w4 at e4 ⊢
      simp only [List.length_cons, List.length_nil] at e4
      simp only [ZZ, YY, Ze, ite_true, ite_false, forall_const, reduceCtorEq, Nat.reduceAdd, Nat.reduceMul, Nat.reduceLeDiff, Nat.reduceLT, Nat.reduceEqDiff, List.length_append, List.length_cons, List.length_nil]
      refine ⟨by omega, ?_⟩
      refine use1 (RepeatG_ok [195, 169] 41 (by omega) (by simp)) rfl (.inl rfl) ?_
      have e5 := Lib.repeatL_length [195, 169] 41
      generalize Lib.repeatL [195, 169] 41 = w5 at *
      simp only [List.length_cons, List.length_nil] at e5
      simp only [ZZ, YY, Ze, ite_true, ite_false, forall_const, reduceCtorEq, Nat.reduceAdd, Nat.reduceMul, Nat.reduceLeDiff, Nat.reduceLT, Nat.reduceEqDiff, List.length_append, List.length_cons, List.length_nil]
      refine ⟨by omega, by omega, ?_⟩
      refine use1 (RepeatG_ok [98] 90 (by omega) (by simp)) rfl (.inl rfl) ?_
      have e6 := Lib.repeatL_length [98] 90
      generalize Lib.repeatL [98] 90 = w6 at *
      simp only [List.length_cons, List.length_nil] at e6
      simp only [ZZ, YY, Ze, ite_true, ite_false, forall_const, reduceCtorEq, Nat.reduceAdd, Nat.reduceMul, Nat.reduceLeDiff, Nat.reduceLT, Nat.reduceEqDiff, List.length_append, List.length_cons, List.length_nil]
      refine ⟨by omega, by omega, ?_⟩
      refine useS (one_ok l (k1 + 1) [[], [120], [97, 9, 98, 10], w1 ++ [10], w2 ++ [10], w3 ++ [120, 10], w4 ++ [10], 120 :: w5 ++ [32, 121, 10], 97 :: 32 :: w6 ++ [10]] (by omega) hl (by simp) (by simp)) rfl rfl rfl (by simp only [ZZ, YY, Ze, ite_true, ite_false, forall_const, reduceCtorEq, Nat.reduceAdd, Nat.reduceMul, Nat.reduceLeDiff, Nat.reduceLT, Nat.reduceEqDiff]) ?_
      rintro x cs' ⟨u, rfl, hu, rfl⟩
      have hu2 : u.length ≤ 20001 := by
        simp only [List.mem_cons, List.not_mem_nil, or_false] at hu
        rcases hu with rfl | rfl | rfl | rfl | rfl | rfl | rfl | rfl | rfl
        all_goals (simp only [List.length_append, List.length_cons, List.length_nil]; omega)
      clear hu
      simp only [ZZ, YY, Ze, ite_true, ite_false, forall_const, reduceCtorEq, Nat.reduceAdd, Nat.reduceMul, Nat.reduceLeDiff, Nat.reduceLT, Nat.reduceEqDiff]
      exact fin_S (stm l (k1 + 1 + 1)) rfl ⟨u, _, rfl, hu2, rfl, by omega⟩
    · intro _
      obtain ⟨x, hx⟩ : ∃ x, il[0]? = some x := ⟨_, List.getElem?_eq_getElem h0⟩
      have hg := itE_get hx
      obtain ⟨c1, c2, c3, c4, c5, c6, c7⟩ := hib x (List.mem_of_getElem? hx)
      obtain ⟨a1, a2, a3, a4, a5, a6, a7⟩ := x
      simp only [itC] at hg
      simp only at c7
      have e0 : Int.toNat 0 = 0 := rfl
      simp only [ZZ, YY, Ze, ite_true, ite_false, forall_const, reduceCtorEq, Nat.reduceAdd, Nat.reduceMul, Nat.reduceLeDiff, Nat.reduceLT, Nat.reduceEqDiff, itE_len, e0, hg]
      ((repeat' (with_reducible apply And.intro)) <;> try ((first | first | assumption | trivial | exact (fun hq => by rw [hq]; rfl) | exact i64_of (by omega) (by omega) | omega | (simp; done) | (simp; omega) | (intro hsc; have hs0 := hsc; (try have hsd := of_decide_eq_true hsc); (try simp only [Bool.not_eq_true', Bool.or_eq_false_iff, Bool.and_eq_true, Bool.or_eq_true, decide_eq_true_eq, decide_eq_false_iff_not] at hsc); (repeat' (with_reducible apply And.intro)) <;> (first | assumption | trivial | exact (fun hq => by rw [hq]; rfl) | exact i64_of (by omega) (by omega) | omega | (simp; done) | (simp; omega) | (intro hse; simp [hse, hs0]; done) | (intro hse; simp only [hse, hs0, Bool.true_and, Bool.and_true, Bool.not_false, Bool.not_true, Bool.and_self]; done))))))
      exact fin_S (stm l (k1 + 1)) rfl ⟨a7, _, rfl, by omega, rfl, by omega⟩
  · have hd : decide ((il.length : Int) = 0) = true := by rwa [Bool.not_eq_false'] at hc
    simp only [ZZ, YY, Ze, ite_true, ite_false, forall_const, reduceCtorEq, Nat.reduceAdd, Nat.reduceMul, Nat.reduceLeDiff, Nat.reduceLT, Nat.reduceEqDiff, hd]
    refine use1 (RepeatG_ok [112] 20000 (by omega) (by simp)) rfl (.inl rfl) ?_
    have e1 := Lib.repeatL_length [112] 20000
    generalize Lib.repeatL [112] 20000 = w1 at *
    simp only [List.length_cons, List.length_nil] at e1
    simp only [ZZ, YY, Ze, ite_true, ite_false, forall_const, reduceCtorEq, Nat.reduceAdd, Nat.reduceMul, Nat.reduceLeDiff, Nat.reduceLT, Nat.reduceEqDiff, List.length_append, List.length_cons, List.length_nil]
    refine ⟨by omega, ?_⟩
    refine use1 (RepeatG_ok [32] 90 (by omega) (by simp)) rfl (.inl rfl) ?_
    have e2 := Lib.repeatL_length [32] 90
    generalize Lib.repeatL [32] 90 = w2 at *
    simp only [List.length_cons, List.length_nil] at e2
    simp only [ZZ, YY, Ze, ite_true, ite_false, forall_const, reduceCtorEq, Nat.reduceAdd, Nat.reduceMul, Nat.reduceLeDiff, Nat.reduceLT, Nat.reduceEqDiff, List.length_append, List.length_cons, List.length_nil]
    refine ⟨by omega, ?_⟩
    refine use1 (RepeatG_ok [32] 81 (by omega) (by simp)) rfl (.inl rfl) ?_
    have e3 := Lib.repeatL_length [32] 81
    generalize Lib.repeatL [32] 81 = w3 at *
    simp only [List.length_cons, List.length_nil] at e3
    simp only [ZZ, YY, Ze, ite_true, ite_false, forall_const, reduceCtorEq, Nat.reduceAdd, Nat.reduceMul, Nat.reduceLeDiff, Nat.reduceLT, Nat.reduceEqDiff, List.length_append, List.length_cons, List.length_nil]
    refine ⟨by omega, ?_⟩
    refine use1 (RepeatG_ok [195, 169] 41 (by omega) (by simp)) rfl (.inl rfl) ?_
    have e4 := Lib.repeatL_length [195, 169] 41
    generalize Lib.repeatL [195, 169] 41 = w4 at e4 ⊢
    simp only [List.length_cons, List.length_nil] at e4
    simp only [ZZ, YY, Ze, ite_true, ite_false, forall_const, reduceCtorEq, Nat.reduceAdd, Nat.reduceMul, Nat.reduceLeDiff, Nat.reduceLT, Nat.reduceEqDiff, List.length_append, List.length_cons, List.length_nil]
    refine ⟨by omega, ?_⟩
    refine use1 (RepeatG_ok [195, 169] 41 (by omega) (by simp)) rfl (.inl rfl) ?_
    have e5 := Lib.repeatL_length [195, 169] 41
    generalize Lib.repeatL [195, 169] 41 = w5 at *
    simp only [List.length_cons, List.length_nil] at e5
    simp only [ZZ, YY, Ze, ite_true, ite_false, forall_const, reduceCtorEq, Nat.reduceAdd, Nat.reduceMul, Nat.reduceLeDiff, Nat.reduceLT, Nat.reduceEqDiff, List.length_append, List.length_cons, List.length_nil]
    refine ⟨by omega, by omega, ?_⟩
    refine use1 (RepeatG_ok [98] 90 (by omega) (by simp)) rfl (.inl rfl) ?_
    have e6 := Lib.repeatL_length [98] 90
    generalize Lib.repeatL [98] 90 = w6 at *
    simp only [List.length_cons, List.length_nil] at e6
    simp only [ZZ, YY, Ze, ite_true, ite_false, forall_const, reduceCtorEq, Nat.reduceAdd, Nat.reduceMul, Nat.reduceLeDiff, Nat.reduceLT, Nat.reduceEqDiff, List.length_append, List.length_cons, List.length_nil]
    refine ⟨by omega, by omega, ?_⟩
    refine useS (one_ok l (k1) [[], [120], [97, 9, 98, 10], w1 ++ [10], w2 ++ [10], w3 ++ [120, 10], w4 ++ [10], 120 :: w5 ++ [32, 121, 10], 97 :: 32 :: w6 ++ [10]] (by omega) hl (by simp) (by simp)) rfl rfl rfl (by simp only [ZZ, YY, Ze, ite_true, ite_false, forall_const, reduceCtorEq, Nat.reduceAdd, Nat.reduceMul, Nat.reduceLeDiff, Nat.reduceLT, Nat.reduceEqDiff]) ?_
    rintro x cs' ⟨u, rfl, hu, rfl⟩
    have hu2 : u.length ≤ 20001 := by
      simp only [List.mem_cons, List.not_mem_nil, or_false] at hu
      rcases hu with rfl | rfl | rfl | rfl | rfl | rfl | rfl | rfl | rfl
      all_goals (simp only [List.length_append, List.length_cons, List.length_nil]; omega)
    clear hu
    simp only [ZZ, YY, Ze, ite_true, ite_false, forall_const, reduceCtorEq, Nat.reduceAdd, Nat.reduceMul, Nat.reduceLeDiff, Nat.reduceLT, Nat.reduceEqDiff]
    exact fin_S (stm l (k1 + 1)) rfl ⟨u, _, rfl, hu2, rfl, by omega⟩
end
theorem pgsF_len (L : SRow) : (pgsF L).length ≤ L.length + 1 ∧ ∀ r ∈ pgsF L, r.length ≤ 50 := by
  unfold pgsF
  split
  · exact ⟨by simp, by simp⟩
  · refine ⟨by rw [List.length_map, List.length_range]; omega, fun r hr => ?_⟩
    obtain ⟨k, _, rfl⟩ := List.mem_map.1 hr
    rw [pgF, List.length_take]
    omega
set_option maxHeartbeats 4000000 in
theorem textsPaged_ok (z : List Int) (hl : z.length ≤ 9223372036854775807) : PCall Tryz.prog E4 3 [ints z] (· = .bool true) := by
  refine pcallF mixed Tryz.func3 ck_chaselaw1_TextsPaged ?_
  simp only [a0, l0, OS.ao, List.map_cons, List.map_nil, List.length_cons, List.length_nil, List.cons_append, List.nil_append, Nat.reduceSub, Nat.reduceAdd, List.replicate_succ, List.replicate_zero, ir_chaselaw1_TextsPaged, rs_chaselaw1_TextsPaged, ZZ, YY, Ze, ite_true, ite_false, forall_const, reduceCtorEq, Nat.reduceAdd, Nat.reduceMul, Nat.reduceLeDiff, Nat.reduceLT, Nat.reduceEqDiff]
  simp only [ints, ZZ, YY, Ze, ite_true, ite_false, forall_const, reduceCtorEq, Nat.reduceAdd, Nat.reduceMul, Nat.reduceLeDiff, Nat.reduceLT, Nat.reduceEqDiff]
  refine useS (k := .l 12) (PaperText_ok z 0 (by omega) hl) rfl rfl rfl (by simp only [ZZ, YY, Ze, ite_true, ite_false, forall_const, reduceCtorEq, Nat.reduceAdd, Nat.reduceMul, Nat.reduceLeDiff, Nat.reduceLT, Nat.reduceEqDiff]) ?_
  rintro x cs' ⟨t, k1, rfl, ht, rfl, hk1⟩
  have hW := up4 (Wrap_ok t (by omega))
  have hP : PCall Tryz.prog E4 7 [.str t] (· = if bodyE t = 0 then .tup [.sl 1 (tbE (pgsF (wrapF (linesF t).1))), int 0] else .tup [.sl 1 [], int (bodyE t)]) := by
    have hb : bodyE t = 0 → textE t = true := by
      intro h
      unfold bodyE at h
      cases hq : textE t with
      | true => rfl
      | false => rw [hq] at h; simp at h; omega
    by_cases h0 : bodyE t = 0
    · refine up4 (pages_any E0 t (bodyE t) (wrapF (linesF t).1) (ptextError_ok t (by omega)) (fun h => plainR (pieces_ok t (by omega) (hb h))) ?_)
      have h1 := wrapF_len (linesF t).1
      have h2 := (lines_facts (hb h0)).1
      omega
    · have := up4 (pages_any E0 t (bodyE t) [] (ptextError_ok t (by omega)) (fun h => absurd h h0) (by simp))
      rw [if_neg h0] at this ⊢
      exact this
  have hB := up4 (BodyFault_ok t (by omega))
  have hE1 : ∀ L : SRow, L.length ≤ 1000000000 → PCall Tryz.prog E4 10 [.sl 1 (strE L), .sl 1 (strE L)] (· = .bool true) := by
    intro L hL
    have h := EqualT_ok (E := E4) L L hL
    rw [decide_eq_true rfl] at h
    exact h
  have hb : bodyE t = 0 → textE t = true := by
    intro h
    unfold bodyE at h
    cases hq : textE t with
    | true => rfl
    | false => rw [hq] at h; simp at h; omega
  by_cases h0 : bodyE t = 0
  · have htx := hb h0
    have hWO := up4 (plainR (WrapOf_ok t (by omega) htx))
    have hPO := up4 (plainR (PagesOf_ok t (by omega) htx))
    have hwl : (wrapF (linesF t).1).length ≤ 1000000 := by
      have h1 := wrapF_len (linesF t).1
      have h2 := (lines_facts htx).1
      omega
    rw [h0] at hB
    rw [if_pos h0] at hW hP
    generalize wrapF (linesF t).1 = L at *
    have hpl := pgsF_len L
    generalize pgsF L = G at *
    simp only [ZZ, YY, Ze, ite_true, ite_false, forall_const, reduceCtorEq, Nat.reduceAdd, Nat.reduceMul, Nat.reduceLeDiff, Nat.reduceLT, Nat.reduceEqDiff]
    refine use1 hW rfl (.inl rfl) ?_
    simp only [ZZ, YY, Ze, ite_true, ite_false, forall_const, reduceCtorEq, Nat.reduceAdd, Nat.reduceMul, Nat.reduceLeDiff, Nat.reduceLT, Nat.reduceEqDiff]
    refine use1 hP rfl (.inl rfl) ?_
    simp only [ZZ, YY, Ze, ite_true, ite_false, forall_const, reduceCtorEq, Nat.reduceAdd, Nat.reduceMul, Nat.reduceLeDiff, Nat.reduceLT, Nat.reduceEqDiff]
    refine use1 hB rfl (.inl rfl) ?_
    simp only [ZZ, YY, Ze, ite_true, ite_false, forall_const, reduceCtorEq, Nat.reduceAdd, Nat.reduceMul, Nat.reduceLeDiff, Nat.reduceLT, Nat.reduceEqDiff]
    refine br (fun h => by simp at h) ?_
    intro _
    simp only [ZZ, YY, Ze, ite_true, ite_false, forall_const, reduceCtorEq, Nat.reduceAdd, Nat.reduceMul, Nat.reduceLeDiff, Nat.reduceLT, Nat.reduceEqDiff]
    refine use1 produces_okP rfl (.inl rfl) ?_
    simp only [ZZ, YY, Ze, ite_true, ite_false, forall_const, reduceCtorEq, Nat.reduceAdd, Nat.reduceMul, Nat.reduceLeDiff, Nat.reduceLT, Nat.reduceEqDiff]
    refine useG (fun _ => hWO) rfl (.inl rfl) ?_
    simp only [ZZ, YY, Ze, ite_true, ite_false, forall_const, reduceCtorEq, Nat.reduceAdd, Nat.reduceMul, Nat.reduceLeDiff, Nat.reduceLT, Nat.reduceEqDiff]
    refine useG (fun _ => hE1 L (by omega)) rfl (.inl rfl) ?_
    simp only [ZZ, YY, Ze, ite_true, ite_false, forall_const, reduceCtorEq, Nat.reduceAdd, Nat.reduceMul, Nat.reduceLeDiff, Nat.reduceLT, Nat.reduceEqDiff]
    refine useG (fun _ => hPO) rfl (.inl rfl) ?_
    simp only [ZZ, YY, Ze, ite_true, ite_false, forall_const, reduceCtorEq, Nat.reduceAdd, Nat.reduceMul, Nat.reduceLeDiff, Nat.reduceLT, Nat.reduceEqDiff]
    refine useG (fun _ => SameTable_ok G (by omega) (fun r hr => by have := hpl.2 r hr; omega)) rfl (.inl rfl) ?_
    simp only [ZZ, YY, Ze, ite_true, ite_false, forall_const, reduceCtorEq, Nat.reduceAdd, Nat.reduceMul, Nat.reduceLeDiff, Nat.reduceLT, Nat.reduceEqDiff]
    simp
  · rw [if_neg h0] at hW hP
    simp only [ZZ, YY, Ze, ite_true, ite_false, forall_const, reduceCtorEq, Nat.reduceAdd, Nat.reduceMul, Nat.reduceLeDiff, Nat.reduceLT, Nat.reduceEqDiff]
    refine use1 hW rfl (.inl rfl) ?_
    simp only [ZZ, YY, Ze, ite_true, ite_false, forall_const, reduceCtorEq, Nat.reduceAdd, Nat.reduceMul, Nat.reduceLeDiff, Nat.reduceLT, Nat.reduceEqDiff]
    refine use1 hP rfl (.inl rfl) ?_
    simp only [ZZ, YY, Ze, ite_true, ite_false, forall_const, reduceCtorEq, Nat.reduceAdd, Nat.reduceMul, Nat.reduceLeDiff, Nat.reduceLT, Nat.reduceEqDiff]
    refine use1 hB rfl (.inl rfl) ?_
    simp only [ZZ, YY, Ze, ite_true, ite_false, forall_const, reduceCtorEq, Nat.reduceAdd, Nat.reduceMul, Nat.reduceLeDiff, Nat.reduceLT, Nat.reduceEqDiff]
    refine br ?_ (fun h => by simp [h0] at h)
    intro _
    simp only [ZZ, YY, Ze, ite_true, ite_false, forall_const, reduceCtorEq, Nat.reduceAdd, Nat.reduceMul, Nat.reduceLeDiff, Nat.reduceLT, Nat.reduceEqDiff]
    refine use1 produces_okP rfl (.inl rfl) ?_
    simp only [ZZ, YY, Ze, ite_true, ite_false, forall_const, reduceCtorEq, Nat.reduceAdd, Nat.reduceMul, Nat.reduceLeDiff, Nat.reduceLT, Nat.reduceEqDiff]
    simp
theorem textsPaged_walk (a0 : Option Addr) (len0 cap0 : Nat) (z0 : List Int) (w : World) (h0 : IsRow .i64 w a0 len0 cap0 z0) (he : E4.ok w ∧ ∀ b, E4.bl b → b < w.heap.size) :
    Calls Tryz.prog 3 #[.slice a0 len0 cap0] w fun e w' => e = .returned (.bool true) ∧ Below w.heap.size w w' :=
  walk_of textsPaged_ok a0 len0 cap0 z0 w h0 he.1 he.2
end Go.Proofs.YtejekkhhpkeckaaGreatDoor
