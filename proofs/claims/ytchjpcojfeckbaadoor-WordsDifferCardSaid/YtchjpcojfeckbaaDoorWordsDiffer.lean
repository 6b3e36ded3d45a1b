
/- The law WordsDiffer: it returns true. -/
import Derived.Test.YtchjpcojfeckbaaDoorZ4
import Derived.Test.YtchjpcojfeckbaaDoorZ8
namespace Go.Proofs.YtchjpcojfeckbaaDoor
open Go.RowKit
set_option linter.unusedVariables false
set_option linter.unusedSimpArgs false
set_option linter.defProp false

/- paperchase/chaselaw1.WordsDiffer -/
def ir_chaselaw1_WordsDiffer : IC :=
  (.seq (.reg [⟨some 2, .mov (.c (.bool false)), none⟩])
    (.seq (.reg [⟨some 13, .mov (.t 0), none⟩,
      ⟨some 14, .bld [.nl 1, .int .i64 0] [(0, 1, .t 13)], none⟩,
      ⟨some 15, .box 25 (.t 14), none⟩,
      ⟨some 3, .mov (.t 15), none⟩])
    (.seq (.reg [⟨some 16, .mov (.t 3), none⟩,
      ⟨some 17, .call 5 [.t 16, .c (.int .i64 14)], none⟩,
      ⟨some 4, .mov (.t 17), none⟩])
    (.seq (.reg [⟨some 18, .mov (.t 3), none⟩,
      ⟨some 19, .mov (.t 3), none⟩,
      ⟨some 20, .mov (.t 4), none⟩,
      ⟨some 21, .call 6 [.t 19, .t 20, .c (.str [97, 98, 99, 32, 120, 10])], none⟩,
      ⟨some 22, .call 6 [.t 18, .t 21, .c (.str [100, 32])], none⟩,
      ⟨some 5, .mov (.t 22), none⟩])
    (.seq (.seq (.reg [⟨some 23, .mov (.t 3), none⟩,
      ⟨some 24, .call 7 [.t 23, .c (.int .i64 3)], none⟩])
    (.cond (.t 24) (.reg [⟨some 25, .mov (.t 3), none⟩,
      ⟨some 26, .call 5 [.t 25, .c (.int .i64 10)], none⟩,
      ⟨some 5, .mov (.t 26), none⟩]) .skip))
    (.cut (.seq (.reg [⟨some 28, .mov (.t 4), none⟩,
      ⟨some 29, .mov (.t 5), none⟩,
      ⟨some 30, .call 8 [.t 28, .t 29], none⟩,
      ⟨some 27, .mov (.t 30), none⟩,
      ⟨some 31, .ext 0 (.t 27), none⟩,
      ⟨some 32, .ext 1 (.t 27), none⟩,
      ⟨some 6, .mov (.t 31), none⟩,
      ⟨some 7, .mov (.t 32), none⟩])
    (.seq (.reg [⟨some 34, .mov (.t 4), none⟩,
      ⟨some 35, .mov (.t 5), none⟩,
      ⟨none, .fz (.t 34), none⟩,
      ⟨none, .fz (.t 35), none⟩,
      ⟨some 36, .call 9 [.t 34, .t 35], none⟩,
      ⟨some 33, .mov (.t 36), none⟩,
      ⟨some 37, .ext 0 (.t 33), none⟩,
      ⟨some 38, .ext 1 (.t 33), none⟩,
      ⟨some 8, .mov (.t 37), none⟩,
      ⟨some 9, .mov (.t 38), none⟩])
    (.seq (.reg [⟨some 40, .mov (.t 4), none⟩,
      ⟨some 41, .mov (.t 5), none⟩,
      ⟨some 42, .call 10 [.t 40, .t 41], none⟩,
      ⟨some 39, .mov (.t 42), none⟩,
      ⟨some 43, .ext 0 (.t 39), none⟩,
      ⟨some 44, .ext 1 (.t 39), none⟩,
      ⟨some 10, .mov (.t 43), none⟩,
      ⟨some 11, .mov (.t 44), none⟩])
    (.seq (.seq (.reg [⟨some 45, .mov (.t 4), none⟩,
      ⟨some 46, .mov (.t 5), none⟩,
      ⟨none, .fz (.t 45), none⟩,
      ⟨none, .fz (.t 46), none⟩,
      ⟨some 47, .bsl 1 [.t 45, .t 46], none⟩,
      ⟨some 48, .call 11 [.t 47], none⟩,
      ⟨some 12, .mov (.t 48), none⟩])
    (.seq (.reg [⟨some 49, .mov (.t 12), none⟩,
      ⟨some 50, .bin .neq (.t 49) (.c (.int .i64 0)), none⟩])
    (.cond (.t 50) (.seq (.reg [⟨some 51, .call 12 [], none⟩,
      ⟨some 52, .mov (.t 51), none⟩,
      ⟨some 53, .mov (.t 7), (some (52, true))⟩,
      ⟨some 54, .mov (.t 12), (some (52, true))⟩,
      ⟨some 55, .bin .eql (.t 53) (.t 54), (some (52, true))⟩,
      ⟨some 56, .pick (.t 52) (.t 55) (.c (.bool false)), none⟩,
      ⟨some 57, .mov (.t 56), none⟩,
      ⟨some 58, .mov (.t 9), (some (57, true))⟩,
      ⟨some 59, .mov (.t 12), (some (57, true))⟩,
      ⟨some 60, .bin .eql (.t 58) (.t 59), (some (57, true))⟩,
      ⟨some 61, .pick (.t 57) (.t 60) (.c (.bool false)), none⟩,
      ⟨some 62, .mov (.t 61), none⟩,
      ⟨some 63, .mov (.t 11), (some (62, true))⟩,
      ⟨some 64, .mov (.t 12), (some (62, true))⟩,
      ⟨some 65, .bin .eql (.t 63) (.t 64), (some (62, true))⟩,
      ⟨some 66, .pick (.t 62) (.t 65) (.c (.bool false)), none⟩,
      ⟨some 2, .mov (.t 66), none⟩])
    .ret) .skip)))
    (.seq (.reg [⟨some 67, .call 12 [], none⟩,
      ⟨some 68, .mov (.t 67), none⟩,
      ⟨some 69, .mov (.t 7), (some (68, true))⟩,
      ⟨some 70, .bin .eql (.t 69) (.c (.int .i64 0)), (some (68, true))⟩,
      ⟨some 71, .pick (.t 68) (.t 70) (.c (.bool false)), none⟩,
      ⟨some 72, .mov (.t 71), none⟩,
      ⟨some 73, .mov (.t 9), (some (72, true))⟩,
      ⟨some 74, .bin .eql (.t 73) (.c (.int .i64 0)), (some (72, true))⟩,
      ⟨some 75, .pick (.t 72) (.t 74) (.c (.bool false)), none⟩,
      ⟨some 76, .mov (.t 75), none⟩,
      ⟨some 77, .mov (.t 11), (some (76, true))⟩,
      ⟨some 78, .bin .eql (.t 77) (.c (.int .i64 0)), (some (76, true))⟩,
      ⟨some 79, .pick (.t 76) (.t 78) (.c (.bool false)), none⟩,
      ⟨some 80, .mov (.t 79), none⟩,
      ⟨some 81, .mov (.t 6), (some (80, true))⟩,
      ⟨some 82, .mov (.t 4), (some (80, true))⟩,
      ⟨some 83, .mov (.t 5), (some (80, true))⟩,
      ⟨some 84, .call 13 [.t 82, .t 83], (some (80, true))⟩,
      ⟨some 85, .bin .eql (.t 81) (.t 84), (some (80, true))⟩,
      ⟨some 86, .pick (.t 80) (.t 85) (.c (.bool false)), none⟩,
      ⟨some 87, .mov (.t 86), none⟩,
      ⟨some 88, .mov (.t 8), (some (87, true))⟩,
      ⟨some 89, .mov (.t 4), (some (87, true))⟩,
      ⟨some 90, .mov (.t 5), (some (87, true))⟩,
      ⟨none, .fz (.t 89), none⟩,
      ⟨none, .fz (.t 90), none⟩,
      ⟨some 91, .call 15 [.t 89, .t 90], (some (87, true))⟩,
      ⟨some 92, .call 14 [.t 88, .t 91], (some (87, true))⟩,
      ⟨some 93, .pick (.t 87) (.t 92) (.c (.bool false)), none⟩,
      ⟨some 94, .mov (.t 93), none⟩,
      ⟨some 95, .mov (.t 10), (some (94, true))⟩,
      ⟨some 96, .mov (.t 4), (some (94, true))⟩,
      ⟨some 97, .mov (.t 5), (some (94, true))⟩,
      ⟨some 98, .call 16 [.t 96, .t 97], (some (94, true))⟩,
      ⟨some 99, .bin .eql (.t 95) (.t 98), (some (94, true))⟩,
      ⟨some 100, .pick (.t 94) (.t 99) (.c (.bool false)), none⟩,
      ⟨some 2, .mov (.t 100), none⟩])
    .ret)))))))))))
def rs_chaselaw1_WordsDiffer : List IRes := [.t 2]
theorem ck_chaselaw1_WordsDiffer : chkF Tryd.prog Tryd.f3 ir_chaselaw1_WordsDiffer rs_chaselaw1_WordsDiffer 101 = true := by kernel_rfl

theorem tf_both (a c : List UInt8) : (if [a, c].any badT then 2 else 0) = eBoth a c := by
  simp only [List.any_cons, List.any_nil, Bool.or_false, eBoth, eTok]
  by_cases h1 : badT a = true <;> by_cases h2 : badT c = true <;> simp [h1, h2]
theorem eBoth_2 (a c : List UInt8) (h : ¬ eBoth a c = 0) : eBoth a c = 2 := by
  unfold eBoth eTok at *
  cases h1 : badT a <;> cases h2 : badT c <;> simp_all
theorem wordsDiffer_ok (z : List Int) (hl : z.length ≤ 9223372036854775807) : PCall Tryd.prog E0 3 [ints z] (· = .bool true) := by
  refine pcallF mixed Tryd.func3 ck_chaselaw1_WordsDiffer ?_
  simp only [a0, l0, OS.ao, List.map_cons, List.map_nil, List.length_cons, List.length_nil, List.cons_append, List.nil_append, Nat.reduceSub, Nat.reduceAdd, List.replicate_succ, List.replicate_zero, ir_chaselaw1_WordsDiffer, rs_chaselaw1_WordsDiffer, ZZ, YY, Ze, ite_true, ite_false, forall_const, reduceCtorEq, Nat.reduceAdd, Nat.reduceMul, Nat.reduceLeDiff, Nat.reduceLT, Nat.reduceEqDiff]
  simp only [ints, ZZ, YY, Ze, ite_true, ite_false, forall_const, reduceCtorEq, Nat.reduceAdd, Nat.reduceMul, Nat.reduceLeDiff, Nat.reduceLT, Nat.reduceEqDiff]
  refine useS (k := .l 15) (Prose_ok z 0 14 (by omega) hl (by omega) (by omega)) rfl rfl rfl (by simp only [ZZ, YY, Ze, ite_true, ite_false, forall_const, reduceCtorEq, Nat.reduceAdd, Nat.reduceMul, Nat.reduceLeDiff, Nat.reduceLT, Nat.reduceEqDiff]) ?_
  rintro x cs' ⟨a, k1, rfl, ha, rfl, hk1⟩
  simp only [ZZ, YY, Ze, ite_true, ite_false, forall_const, reduceCtorEq, Nat.reduceAdd, Nat.reduceMul, Nat.reduceLeDiff, Nat.reduceLT, Nat.reduceEqDiff]
  refine useS (k := .l 15) (Changed_ok z k1 a [97, 98, 99, 32, 120, 10] (by omega) hl (by omega) (by simp)) rfl rfl rfl (by simp only [ZZ, YY, Ze, ite_true, ite_false, forall_const, reduceCtorEq, Nat.reduceAdd, Nat.reduceMul, Nat.reduceLeDiff, Nat.reduceLT, Nat.reduceEqDiff]) ?_
  rintro x cs' ⟨u, k2, rfl, hu, rfl, hk2⟩
  simp only [List.length_cons, List.length_nil] at hu
  simp only [ZZ, YY, Ze, ite_true, ite_false, forall_const, reduceCtorEq, Nat.reduceAdd, Nat.reduceMul, Nat.reduceLeDiff, Nat.reduceLT, Nat.reduceEqDiff]
  refine useS (k := .l 15) (Changed_ok z k2 u [100, 32] (by omega) hl (by omega) (by simp)) rfl rfl rfl (by simp only [ZZ, YY, Ze, ite_true, ite_false, forall_const, reduceCtorEq, Nat.reduceAdd, Nat.reduceMul, Nat.reduceLeDiff, Nat.reduceLT, Nat.reduceEqDiff]) ?_
  rintro x cs' ⟨b, k3, rfl, hb, rfl, hk3⟩
  simp only [List.length_cons, List.length_nil] at hb
  simp only [ZZ, YY, Ze, ite_true, ite_false, forall_const, reduceCtorEq, Nat.reduceAdd, Nat.reduceMul, Nat.reduceLeDiff, Nat.reduceLT, Nat.reduceEqDiff]
  refine useS (k := .l 15) (Flip_ok z k3 3 (by omega) hl (by omega)) rfl rfl rfl (by simp only [ZZ, YY, Ze, ite_true, ite_false, forall_const, reduceCtorEq, Nat.reduceAdd, Nat.reduceMul, Nat.reduceLeDiff, Nat.reduceLT, Nat.reduceEqDiff]) ?_
  rintro x cs' ⟨y, rfl, rfl⟩
  simp only [ZZ, YY, Ze, ite_true, ite_false, forall_const, reduceCtorEq, Nat.reduceAdd, Nat.reduceMul, Nat.reduceLeDiff, Nat.reduceLT, Nat.reduceEqDiff]
  refine br ?_ ?_
  · intro hy
    simp only [ZZ, YY, Ze, ite_true, ite_false, forall_const, reduceCtorEq, Nat.reduceAdd, Nat.reduceMul, Nat.reduceLeDiff, Nat.reduceLT, Nat.reduceEqDiff]
    refine useS (k := .l 15) (Prose_ok z _ 10 (by omega) hl (by omega) (by omega)) rfl rfl rfl (by simp only [ZZ, YY, Ze, ite_true, ite_false, forall_const, reduceCtorEq, Nat.reduceAdd, Nat.reduceMul, Nat.reduceLeDiff, Nat.reduceLT, Nat.reduceEqDiff]) ?_
    rintro x cs' ⟨c, k4, rfl, hc, rfl, hk4⟩
    simp only [ZZ, YY, Ze, ite_true, ite_false, forall_const, reduceCtorEq, Nat.reduceAdd, Nat.reduceMul, Nat.reduceLeDiff, Nat.reduceLT, Nat.reduceEqDiff]
    refine cut_same (by simp only [ZZ, YY, Ze, ite_true, ite_false, forall_const, reduceCtorEq, Nat.reduceAdd, Nat.reduceMul, Nat.reduceLeDiff, Nat.reduceLT, Nat.reduceEqDiff]) ?_
    have hc : c.length ≤ 7000 := by omega
    simp only [ZZ, YY, Ze, ite_true, ite_false, forall_const, reduceCtorEq, Nat.reduceAdd, Nat.reduceMul, Nat.reduceLeDiff, Nat.reduceLT, Nat.reduceEqDiff]
    have hdist := Distance_ok a c (by omega) (by omega)
    have hdiff := Differ_ok a c (by omega) (by omega)
    have hmark := Marked_ok a c (by omega) (by omega)
    have htf := TokensFault_ok [a, c] (by simp) (by simp; omega)
    rw [tf_both] at htf
    by_cases h0 : eBoth a c = 0
    · simp only [if_pos h0] at hdist hdiff hmark
      rw [h0] at hdist htf
      have h1 : eTok a = 0 := by
        by_cases h1 : eTok a = 0
        · exact h1
        · rw [eBoth, if_neg h1] at h0; exact h0
      have h2 : eTok c = 0 := by rwa [eBoth, if_pos h1] at h0
      have l1 := (eTok_zero h1).2
      have l2 := (eTok_zero h2).2
      have hcl := chF_len (tokF a) (tokF c)
      have hcm := chF_mem (tokF a) (tokF c)
      have w1 := tokF_wgt a
      have w2 := tokF_wgt c
      refine use1 hdist rfl (.inl rfl) ?_
      simp only [ZZ, YY, Ze, ite_true, ite_false, forall_const, reduceCtorEq, Nat.reduceAdd, Nat.reduceMul, Nat.reduceLeDiff, Nat.reduceLT, Nat.reduceEqDiff]
      refine use1 hdiff rfl (.inl rfl) ?_
      simp only [ZZ, YY, Ze, ite_true, ite_false, forall_const, reduceCtorEq, Nat.reduceAdd, Nat.reduceMul, Nat.reduceLeDiff, Nat.reduceLT, Nat.reduceEqDiff]
      refine use1 hmark rfl (.inl rfl) ?_
      simp only [ZZ, YY, Ze, ite_true, ite_false, forall_const, reduceCtorEq, Nat.reduceAdd, Nat.reduceMul, Nat.reduceLeDiff, Nat.reduceLT, Nat.reduceEqDiff]
      refine use1 htf rfl (.inl rfl) ?_
      simp only [ZZ, YY, Ze, ite_true, ite_false, forall_const, reduceCtorEq, Nat.reduceAdd, Nat.reduceMul, Nat.reduceLeDiff, Nat.reduceLT, Nat.reduceEqDiff]
      refine br (fun h => by simp at h) ?_
      intro _
      simp only [ZZ, YY, Ze, ite_true, ite_false, forall_const, reduceCtorEq, Nat.reduceAdd, Nat.reduceMul, Nat.reduceLeDiff, Nat.reduceLT, Nat.reduceEqDiff]
      refine use1 nears_ok rfl (.inl rfl) ?_
      simp only [ZZ, YY, Ze, ite_true, ite_false, forall_const, reduceCtorEq, Nat.reduceAdd, Nat.reduceMul, Nat.reduceLeDiff, Nat.reduceLT, Nat.reduceEqDiff]
      refine useG (fun _ => DistanceOf_ok a c (by omega) (by omega) l1 l2) rfl (.inl rfl) ?_
      simp only [ZZ, YY, Ze, ite_true, ite_false, forall_const, reduceCtorEq, Nat.reduceAdd, Nat.reduceMul, Nat.reduceLeDiff, Nat.reduceLT, Nat.reduceEqDiff]
      refine useG (fun _ => plainR (DifferOf_ok a c (by omega) (by omega) l1 l2)) rfl (.inl rfl) ?_
      simp only [ZZ, YY, Ze, ite_true, ite_false, forall_const, reduceCtorEq, Nat.reduceAdd, Nat.reduceMul, Nat.reduceLeDiff, Nat.reduceLT, Nat.reduceEqDiff]
      refine useG (fun _ => SameChanges_ok (chF (tokF a) (tokF c)) (by omega) (fun x hx => by have := hcm x hx; have := wgt_len x.2.1; have := wgt_len x.2.2; omega)) rfl (.inl rfl) ?_
      simp only [ZZ, YY, Ze, ite_true, ite_false, forall_const, reduceCtorEq, Nat.reduceAdd, Nat.reduceMul, Nat.reduceLeDiff, Nat.reduceLT, Nat.reduceEqDiff]
      refine useG (fun _ => MarkedOf_ok a c (by omega) (by omega) l1 l2) rfl (.inl rfl) ?_
      simp only [ZZ, YY, Ze, ite_true, ite_false, forall_const, reduceCtorEq, Nat.reduceAdd, Nat.reduceMul, Nat.reduceLeDiff, Nat.reduceLT, Nat.reduceEqDiff]
      simp
    · have e2 := eBoth_2 a c h0
      simp only [if_neg h0] at hdist hdiff hmark
      rw [e2] at hdist hdiff hmark htf
      refine use1 hdist rfl (.inl rfl) ?_
      simp only [ZZ, YY, Ze, ite_true, ite_false, forall_const, reduceCtorEq, Nat.reduceAdd, Nat.reduceMul, Nat.reduceLeDiff, Nat.reduceLT, Nat.reduceEqDiff]
      refine use1 hdiff rfl (.inl rfl) ?_
      simp only [ZZ, YY, Ze, ite_true, ite_false, forall_const, reduceCtorEq, Nat.reduceAdd, Nat.reduceMul, Nat.reduceLeDiff, Nat.reduceLT, Nat.reduceEqDiff]
      refine use1 hmark rfl (.inl rfl) ?_
      simp only [ZZ, YY, Ze, ite_true, ite_false, forall_const, reduceCtorEq, Nat.reduceAdd, Nat.reduceMul, Nat.reduceLeDiff, Nat.reduceLT, Nat.reduceEqDiff]
      refine use1 htf rfl (.inl rfl) ?_
      simp only [ZZ, YY, Ze, ite_true, ite_false, forall_const, reduceCtorEq, Nat.reduceAdd, Nat.reduceMul, Nat.reduceLeDiff, Nat.reduceLT, Nat.reduceEqDiff]
      refine br ?_ (fun h => by simp at h)
      intro _
      simp only [ZZ, YY, Ze, ite_true, ite_false, forall_const, reduceCtorEq, Nat.reduceAdd, Nat.reduceMul, Nat.reduceLeDiff, Nat.reduceLT, Nat.reduceEqDiff]
      refine use1 nears_ok rfl (.inl rfl) ?_
      simp only [ZZ, YY, Ze, ite_true, ite_false, forall_const, reduceCtorEq, Nat.reduceAdd, Nat.reduceMul, Nat.reduceLeDiff, Nat.reduceLT, Nat.reduceEqDiff]
      simp
  · intro hy
    refine cut_same (by simp only [ZZ, YY, Ze, ite_true, ite_false, forall_const, reduceCtorEq, Nat.reduceAdd, Nat.reduceMul, Nat.reduceLeDiff, Nat.reduceLT, Nat.reduceEqDiff]) ?_
    have hc : b.length ≤ 7000 := by omega
    clear hb
    generalize b = c at *
    simp only [ZZ, YY, Ze, ite_true, ite_false, forall_const, reduceCtorEq, Nat.reduceAdd, Nat.reduceMul, Nat.reduceLeDiff, Nat.reduceLT, Nat.reduceEqDiff]
    have hdist := Distance_ok a c (by omega) (by omega)
    have hdiff := Differ_ok a c (by omega) (by omega)
    have hmark := Marked_ok a c (by omega) (by omega)
    have htf := TokensFault_ok [a, c] (by simp) (by simp; omega)
    rw [tf_both] at htf
    by_cases h0 : eBoth a c = 0
    · simp only [if_pos h0] at hdist hdiff hmark
      rw [h0] at hdist htf
      have h1 : eTok a = 0 := by
        by_cases h1 : eTok a = 0
        · exact h1
        · rw [eBoth, if_neg h1] at h0; exact h0
      have h2 : eTok c = 0 := by rwa [eBoth, if_pos h1] at h0
      have l1 := (eTok_zero h1).2
      have l2 := (eTok_zero h2).2
      have hcl := chF_len (tokF a) (tokF c)
      have hcm := chF_mem (tokF a) (tokF c)
      have w1 := tokF_wgt a
      have w2 := tokF_wgt c
      refine use1 hdist rfl (.inl rfl) ?_
      simp only [ZZ, YY, Ze, ite_true, ite_false, forall_const, reduceCtorEq, Nat.reduceAdd, Nat.reduceMul, Nat.reduceLeDiff, Nat.reduceLT, Nat.reduceEqDiff]
      refine use1 hdiff rfl (.inl rfl) ?_
      simp only [ZZ, YY, Ze, ite_true, ite_false, forall_const, reduceCtorEq, Nat.reduceAdd, Nat.reduceMul, Nat.reduceLeDiff, Nat.reduceLT, Nat.reduceEqDiff]
      refine use1 hmark rfl (.inl rfl) ?_
      simp only [ZZ, YY, Ze, ite_true, ite_false, forall_const, reduceCtorEq, Nat.reduceAdd, Nat.reduceMul, Nat.reduceLeDiff, Nat.reduceLT, Nat.reduceEqDiff]
      refine use1 htf rfl (.inl rfl) ?_
      simp only [ZZ, YY, Ze, ite_true, ite_false, forall_const, reduceCtorEq, Nat.reduceAdd, Nat.reduceMul, Nat.reduceLeDiff, Nat.reduceLT, Nat.reduceEqDiff]
      refine br (fun h => by simp at h) ?_
      intro _
      simp only [ZZ, YY, Ze, ite_true, ite_false, forall_const, reduceCtorEq, Nat.reduceAdd, Nat.reduceMul, Nat.reduceLeDiff, Nat.reduceLT, Nat.reduceEqDiff]
      refine use1 nears_ok rfl (.inl rfl) ?_
      simp only [ZZ, YY, Ze, ite_true, ite_false, forall_const, reduceCtorEq, Nat.reduceAdd, Nat.reduceMul, Nat.reduceLeDiff, Nat.reduceLT, Nat.reduceEqDiff]
      refine useG (fun _ => DistanceOf_ok a c (by omega) (by omega) l1 l2) rfl (.inl rfl) ?_
      simp only [ZZ, YY, Ze, ite_true, ite_false, forall_const, reduceCtorEq, Nat.reduceAdd, Nat.reduceMul, Nat.reduceLeDiff, Nat.reduceLT, Nat.reduceEqDiff]
      refine useG (fun _ => plainR (DifferOf_ok a c (by omega) (by omega) l1 l2)) rfl (.inl rfl) ?_
      simp only [ZZ, YY, Ze, ite_true, ite_false, forall_const, reduceCtorEq, Nat.reduceAdd, Nat.reduceMul, Nat.reduceLeDiff, Nat.reduceLT, Nat.reduceEqDiff]
      refine useG (fun _ => SameChanges_ok (chF (tokF a) (tokF c)) (by omega) (fun x hx => by have := hcm x hx; have := wgt_len x.2.1; have := wgt_len x.2.2; omega)) rfl (.inl rfl) ?_
      simp only [ZZ, YY, Ze, ite_true, ite_false, forall_const, reduceCtorEq, Nat.reduceAdd, Nat.reduceMul, Nat.reduceLeDiff, Nat.reduceLT, Nat.reduceEqDiff]
      refine useG (fun _ => MarkedOf_ok a c (by omega) (by omega) l1 l2) rfl (.inl rfl) ?_
      simp only [ZZ, YY, Ze, ite_true, ite_false, forall_const, reduceCtorEq, Nat.reduceAdd, Nat.reduceMul, Nat.reduceLeDiff, Nat.reduceLT, Nat.reduceEqDiff]
      simp
    · have e2 := eBoth_2 a c h0
      simp only [if_neg h0] at hdist hdiff hmark
      rw [e2] at hdist hdiff hmark htf
      refine use1 hdist rfl (.inl rfl) ?_
      simp only [ZZ, YY, Ze, ite_true, ite_false, forall_const, reduceCtorEq, Nat.reduceAdd, Nat.reduceMul, Nat.reduceLeDiff, Nat.reduceLT, Nat.reduceEqDiff]
      refine use1 hdiff rfl (.inl rfl) ?_
      simp only [ZZ, YY, Ze, ite_true, ite_false, forall_const, reduceCtorEq, Nat.reduceAdd, Nat.reduceMul, Nat.reduceLeDiff, Nat.reduceLT, Nat.reduceEqDiff]
      refine use1 hmark rfl (.inl rfl) ?_
      simp only [ZZ, YY, Ze, ite_true, ite_false, forall_const, reduceCtorEq, Nat.reduceAdd, Nat.reduceMul, Nat.reduceLeDiff, Nat.reduceLT, Nat.reduceEqDiff]
      refine use1 htf rfl (.inl rfl) ?_
      simp only [ZZ, YY, Ze, ite_true, ite_false, forall_const, reduceCtorEq, Nat.reduceAdd, Nat.reduceMul, Nat.reduceLeDiff, Nat.reduceLT, Nat.reduceEqDiff]
      refine br ?_ (fun h => by simp at h)
      intro _
      simp only [ZZ, YY, Ze, ite_true, ite_false, forall_const, reduceCtorEq, Nat.reduceAdd, Nat.reduceMul, Nat.reduceLeDiff, Nat.reduceLT, Nat.reduceEqDiff]
      refine use1 nears_ok rfl (.inl rfl) ?_
      simp only [ZZ, YY, Ze, ite_true, ite_false, forall_const, reduceCtorEq, Nat.reduceAdd, Nat.reduceMul, Nat.reduceLeDiff, Nat.reduceLT, Nat.reduceEqDiff]
      simp
theorem wordsDiffer_walk (a0 : Option Addr) (len0 cap0 : Nat) (z0 : List Int) (w : World) (h0 : IsRow .i64 w a0 len0 cap0 z0) (he : E0.ok w ∧ ∀ b, E0.bl b → b < w.heap.size) :
    Calls Tryd.prog 3 #[.slice a0 len0 cap0] w fun e w' => e = .returned (.bool true) ∧ Below w.heap.size w w' :=
  walk_of wordsDiffer_ok a0 len0 cap0 z0 w h0 he.1 he.2
end Go.Proofs.YtchjpcojfeckbaaDoor
