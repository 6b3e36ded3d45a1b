
/- Own texts, put together: V9. -/
import Derived.Test.YtidmphcocnaonaaGreatDoorZ8
import Derived.Test.YtidmphcocnaonaaGreatDoorZ7
/- The maker of dates. -/
namespace Go.Proofs.YtidmphcocnaonaaGreatDoor
open Go.RowKit
set_option linter.unusedVariables false
set_option linter.unusedSimpArgs false
set_option linter.defProp false

/- (*paperchase/chasemake.Stream).DateText -/
def ir_chasemake_Stream_DateText : IC :=
  (.seq (.reg [⟨some 2, .mov (.c (.str [])), none⟩])
    (.seq (.reg [⟨some 5, .mov (.t 0), none⟩,
      ⟨some 6, .mov (.t 0), none⟩,
      ⟨some 7, .call 58 [.t 6, .c (.int .i64 5761440)], none⟩,
      ⟨none, .fz (.t 7), none⟩,
      ⟨some 8, .bsl 1 [.c (.int .i64 0), .c (.int .i64 1439), .c (.int .i64 44730), .c (.int .i64 84965), .c (.int .i64 527040), .c (.int .i64 5761439), .t 7], none⟩,
      ⟨some 9, .call 59 [.t 5, .t 8], none⟩,
      ⟨some 3, .mov (.t 9), none⟩])
    (.seq (.reg [⟨some 10, .mov (.t 3), none⟩,
      ⟨some 11, .call 34 [.t 10], none⟩,
      ⟨some 4, .mov (.t 11), none⟩])
    (.seq (.seq (.reg [⟨some 12, .mov (.t 0), none⟩,
      ⟨some 13, .call 44 [.t 12, .c (.int .i64 2)], none⟩])
    (.cond (.t 13) (.reg [⟨some 14, .mov (.t 4), none⟩,
      ⟨some 15, .call 89 [.t 14, .c (.str [43, 48, 48, 48, 48])], none⟩,
      ⟨some 16, .mov (.t 0), none⟩,
      ⟨some 17, .bsl 1 [.c (.str [43, 48, 49, 48, 48]), .c (.str [45, 48, 53, 51, 48]), .c (.str [43, 49, 52, 48, 48]), .c (.str [43, 49, 52, 53, 57]), .c (.str [43, 49, 53, 48, 48]), .c (.str [43, 48, 48, 54, 48]), .c (.str [45, 48, 48, 48, 48]), .c (.str [48, 48, 48, 48]), .c (.str [43, 49, 48, 48])], none⟩,
      ⟨some 18, .call 45 [.t 16, .t 17], none⟩,
      ⟨some 19, .bin .add (.t 15) (.t 18), none⟩,
      ⟨some 4, .mov (.t 19), none⟩]) .skip))
    (.cut (.seq (.seq (.reg [⟨some 20, .mov (.t 0), none⟩,
      ⟨some 21, .call 44 [.t 20, .c (.int .i64 3)], none⟩])
    (.cond (.t 21) (.reg [⟨some 22, .mov (.t 0), none⟩,
      ⟨some 23, .mov (.t 4), none⟩,
      ⟨some 24, .mov (.t 0), none⟩,
      ⟨some 25, .bsl 1 [.c (.str [32]), .c (.str [48]), .c (.str [49]), .c (.str [57]), .c (.str [44]), .c (.str [58]), .c (.str [74]), .c (.str [77])], none⟩,
      ⟨some 26, .call 45 [.t 24, .t 25], none⟩,
      ⟨some 27, .call 90 [.t 22, .t 23, .t 26], none⟩,
      ⟨some 4, .mov (.t 27), none⟩]) .skip))
    (.cut (.seq (.reg [⟨some 28, .mov (.t 4), none⟩,
      ⟨some 2, .mov (.t 28), none⟩])
    .ret))))))))
def rs_chasemake_Stream_DateText : List IRes := [.t 2]
theorem ck_chasemake_Stream_DateText : chkF Tryz.prog Tryz.f27 ir_chasemake_Stream_DateText rs_chasemake_Stream_DateText 29 = true := by kernel_rfl

set_option maxHeartbeats 4000000 in
set_option maxRecDepth 100000 in
theorem MDateText_ok (l : List Int) (k : Nat) (hk : k ≤ 800000) (hl : l.length ≤ 9223372036854775807) :
    SCall Tryz.prog E5 27 T (stm l k) [] (fun x cs' => ∃ t k', x = .str t ∧ t.length ≤ 200 ∧ cs' = stm l k' ∧ k' ≤ k + 20) := by
  unfold SCall
  refine gcallP mixed Tryz.func27 ck_chasemake_Stream_DateText ?_
  simp only [a0, l0, OS.ao, List.map_cons, List.map_nil, List.length_cons, List.length_nil, List.cons_append, List.nil_append, Nat.reduceSub, Nat.reduceAdd, List.replicate_succ, List.replicate_zero, ir_chasemake_Stream_DateText, rs_chasemake_Stream_DateText, ZZ, YY, Ze, ite_true, ite_false, forall_const, reduceCtorEq, Nat.reduceAdd, Nat.reduceMul, Nat.reduceLeDiff, Nat.reduceLT, Nat.reduceEqDiff]
  refine useS (Next_ok l k 5761440 (by omega) hl (by omega)) rfl rfl rfl (by simp only [ZZ, YY, Ze, ite_true, ite_false, forall_const, reduceCtorEq, Nat.reduceAdd, Nat.reduceMul, Nat.reduceLeDiff, Nat.reduceLT, Nat.reduceEqDiff]) ?_
  rintro x cs' ⟨y, rfl, rfl⟩
  have b1 := below_lo y 5761440
  have b2 := below_hi y 5761440 (by omega)
  generalize below y 5761440 = q at *
  simp only [ZZ, YY, Ze, ite_true, ite_false, forall_const, reduceCtorEq, Nat.reduceAdd, Nat.reduceMul, Nat.reduceLeDiff, Nat.reduceLT, Nat.reduceEqDiff]
  refine useS (Pick_ok l (k + 1) [0, 1439, 44730, 84965, 527040, 5761439, q] (by omega) hl (by simp) (by simp)) rfl rfl rfl (by simp only [ZZ, YY, Ze, ite_true, ite_false, forall_const, reduceCtorEq, Nat.reduceAdd, Nat.reduceMul, Nat.reduceLeDiff, Nat.reduceLT, Nat.reduceEqDiff]) ?_
  rintro x cs' ⟨m0, rfl, hm0, rfl⟩
  have hm1 : 0 ≤ m0 ∧ m0 ≤ 5761439 := by
    simp only [List.mem_cons, List.not_mem_nil, or_false] at hm0
    omega
  obtain ⟨m, rfl⟩ : ∃ m : Nat, m0 = (m : Nat) := ⟨m0.toNat, by omega⟩
  clear hm0
  obtain ⟨i, hi1, hi2⟩ := Dn_ex (m / 1440)
  have hig := Dn_ge i
  have htl := dtText_len (m := m) (i := i) (by omega) (by omega) (by omega)
  simp only [ZZ, YY, Ze, ite_true, ite_false, forall_const, reduceCtorEq, Nat.reduceAdd, Nat.reduceMul, Nat.reduceLeDiff, Nat.reduceLT, Nat.reduceEqDiff]
  refine use1 (DateText_ok m i (by omega) hi1 hi2) rfl (.inl rfl) ?_
  generalize dtText m i = t0 at *
  simp only [ZZ, YY, Ze, ite_true, ite_false, forall_const, reduceCtorEq, Nat.reduceAdd, Nat.reduceMul, Nat.reduceLeDiff, Nat.reduceLT, Nat.reduceEqDiff]
  refine useS (Flip_ok l (k + 1 + 1) 2 (by omega) hl (by omega)) rfl rfl rfl (by simp only [ZZ, YY, Ze, ite_true, ite_false, forall_const, reduceCtorEq, Nat.reduceAdd, Nat.reduceMul, Nat.reduceLeDiff, Nat.reduceLT, Nat.reduceEqDiff]) ?_
  rintro x cs' ⟨f, rfl, rfl⟩
  simp only [ZZ, YY, Ze, ite_true, ite_false, forall_const, reduceCtorEq, Nat.reduceAdd, Nat.reduceMul, Nat.reduceLeDiff, Nat.reduceLT, Nat.reduceEqDiff]
  refine br_join (fun fr L => ∃ (t : List UInt8) (k2 : Nat), t.length ≤ 100 ∧ k2 ≤ k + 4 ∧ fr = [.adr (.b 0) 0, .any, .any, .any, .p (.str t), .any, .any, .any, .any, .any, .any, .any, .any, .any, .any, .any, .any, .any, .any, .any, .any, .any, .any, .any, .any, .any, .any, .any, .any] ∧ L = [(.b 0, .box ((stm l k2).map .p) T)]) ?_ ?_ ?_
  · intro _
    simp only [ZZ, YY, Ze, ite_true, ite_false, forall_const, reduceCtorEq, Nat.reduceAdd, Nat.reduceMul, Nat.reduceLeDiff, Nat.reduceLT, Nat.reduceEqDiff]
    refine use1 (TrimSuffix_ok t0 [43, 48, 48, 48, 48] (by omega) (by decide)) rfl (.inl rfl) ?_
    have hts := trimSufL_len t0 [43, 48, 48, 48, 48]
    generalize trimSufL t0 [43, 48, 48, 48, 48] = t1 at *
    simp only [ZZ, YY, Ze, ite_true, ite_false, forall_const, reduceCtorEq, Nat.reduceAdd, Nat.reduceMul, Nat.reduceLeDiff, Nat.reduceLT, Nat.reduceEqDiff]
    refine useS (one_ok l (k + 1 + 1 + 1) [[43, 48, 49, 48, 48], [45, 48, 53, 51, 48], [43, 49, 52, 48, 48], [43, 49, 52, 53, 57], [43, 49, 53, 48, 48], [43, 48, 48, 54, 48], [45, 48, 48, 48, 48], [48, 48, 48, 48], [43, 49, 48, 48]] (by omega) hl (by simp) (by simp)) rfl rfl rfl (by simp only [ZZ, YY, Ze, ite_true, ite_false, forall_const, reduceCtorEq, Nat.reduceAdd, Nat.reduceMul, Nat.reduceLeDiff, Nat.reduceLT, Nat.reduceEqDiff]) ?_
    rintro x cs' ⟨u, rfl, hu, rfl⟩
    have hu2 : u.length ≤ 5 := by
      have : ∀ u ∈ ([[43, 48, 49, 48, 48], [45, 48, 53, 51, 48], [43, 49, 52, 48, 48], [43, 49, 52, 53, 57], [43, 49, 53, 48, 48], [43, 48, 48, 54, 48], [45, 48, 48, 48, 48], [48, 48, 48, 48], [43, 49, 48, 48]] : List (List UInt8)), u.length ≤ 5 := by decide
      exact this u hu
    clear hu
    simp only [ZZ, YY, Ze, ite_true, ite_false, forall_const, reduceCtorEq, Nat.reduceAdd, Nat.reduceMul, Nat.reduceLeDiff, Nat.reduceLT, Nat.reduceEqDiff]
    refine ⟨by omega, ?_⟩
    exact to_mid _ _ (by (simp only [ZZ, YY, Ze, ite_true, ite_false, forall_const, reduceCtorEq, Nat.reduceAdd, Nat.reduceMul, Nat.reduceLeDiff, Nat.reduceLT, Nat.reduceEqDiff]; try trivial)) (by simp only [ZZ, YY, Ze, ite_true, ite_false, forall_const, reduceCtorEq, Nat.reduceAdd, Nat.reduceMul, Nat.reduceLeDiff, Nat.reduceLT, Nat.reduceEqDiff]) ⟨t1 ++ u, k + 1 + 1 + 1 + 1, by rw [List.length_append]; omega, by omega, rfl, rfl⟩
  · intro _
    simp only [ZZ, YY, Ze, ite_true, ite_false, forall_const, reduceCtorEq, Nat.reduceAdd, Nat.reduceMul, Nat.reduceLeDiff, Nat.reduceLT, Nat.reduceEqDiff]
    exact to_mid _ _ (by (simp only [ZZ, YY, Ze, ite_true, ite_false, forall_const, reduceCtorEq, Nat.reduceAdd, Nat.reduceMul, Nat.reduceLeDiff, Nat.reduceLT, Nat.reduceEqDiff]; try trivial)) (by simp only [ZZ, YY, Ze, ite_true, ite_false, forall_const, reduceCtorEq, Nat.reduceAdd, Nat.reduceMul, Nat.reduceLeDiff, Nat.reduceLT, Nat.reduceEqDiff]) ⟨t0, k + 1 + 1 + 1, by omega, by omega, rfl, rfl⟩
  rintro fr L ⟨t, k2, ht, hk2, rfl, rfl⟩
  simp only [ZZ, YY, Ze, ite_true, ite_false, forall_const, reduceCtorEq, Nat.reduceAdd, Nat.reduceMul, Nat.reduceLeDiff, Nat.reduceLT, Nat.reduceEqDiff]
  refine useS (Flip_ok l k2 3 (by omega) hl (by omega)) rfl rfl rfl (by simp only [ZZ, YY, Ze, ite_true, ite_false, forall_const, reduceCtorEq, Nat.reduceAdd, Nat.reduceMul, Nat.reduceLeDiff, Nat.reduceLT, Nat.reduceEqDiff]) ?_
  rintro x cs' ⟨f2, rfl, rfl⟩
  simp only [ZZ, YY, Ze, ite_true, ite_false, forall_const, reduceCtorEq, Nat.reduceAdd, Nat.reduceMul, Nat.reduceLeDiff, Nat.reduceLT, Nat.reduceEqDiff]
  refine br ?_ ?_
  · intro _
    simp only [ZZ, YY, Ze, ite_true, ite_false, forall_const, reduceCtorEq, Nat.reduceAdd, Nat.reduceMul, Nat.reduceLeDiff, Nat.reduceLT, Nat.reduceEqDiff]
    refine useS (one_ok l (k2 + 1) [[32], [48], [49], [57], [44], [58], [74], [77]] (by omega) hl (by simp) (by simp)) rfl rfl rfl (by simp only [ZZ, YY, Ze, ite_true, ite_false, forall_const, reduceCtorEq, Nat.reduceAdd, Nat.reduceMul, Nat.reduceLeDiff, Nat.reduceLT, Nat.reduceEqDiff]) ?_
    rintro x cs' ⟨u, rfl, hu, rfl⟩
    have hu2 : u.length ≤ 1 := by
      have : ∀ u ∈ ([[32], [48], [49], [57], [44], [58], [74], [77]] : List (List UInt8)), u.length ≤ 1 := by decide
      exact this u hu
    clear hu
    simp only [ZZ, YY, Ze, ite_true, ite_false, forall_const, reduceCtorEq, Nat.reduceAdd, Nat.reduceMul, Nat.reduceLeDiff, Nat.reduceLT, Nat.reduceEqDiff]
    refine useS (Changed_ok l (k2 + 1 + 1) t u (by omega) hl (by omega) (by omega)) rfl rfl rfl (by simp only [ZZ, YY, Ze, ite_true, ite_false, forall_const, reduceCtorEq, Nat.reduceAdd, Nat.reduceMul, Nat.reduceLeDiff, Nat.reduceLT, Nat.reduceEqDiff]) ?_
    rintro x cs' ⟨v, k3, rfl, hv, rfl, hk3⟩
    simp only [ZZ, YY, Ze, ite_true, ite_false, forall_const, reduceCtorEq, Nat.reduceAdd, Nat.reduceMul, Nat.reduceLeDiff, Nat.reduceLT, Nat.reduceEqDiff]
    refine cut_re _ _ ReOk.refl ?_
    simp only [ZZ, YY, Ze, ite_true, ite_false, forall_const, reduceCtorEq, Nat.reduceAdd, Nat.reduceMul, Nat.reduceLeDiff, Nat.reduceLT, Nat.reduceEqDiff]
    exact fin_S (stm l k3) rfl ⟨v, _, rfl, by omega, rfl, by omega⟩
  · intro _
    simp only [ZZ, YY, Ze, ite_true, ite_false, forall_const, reduceCtorEq, Nat.reduceAdd, Nat.reduceMul, Nat.reduceLeDiff, Nat.reduceLT, Nat.reduceEqDiff]
    refine cut_re _ _ ReOk.refl ?_
    simp only [ZZ, YY, Ze, ite_true, ite_false, forall_const, reduceCtorEq, Nat.reduceAdd, Nat.reduceMul, Nat.reduceLeDiff, Nat.reduceLT, Nat.reduceEqDiff]
    exact fin_S (stm l (k2 + 1)) rfl ⟨t, _, rfl, by omega, rfl, by omega⟩
end Go.Proofs.YtidmphcocnaonaaGreatDoor
