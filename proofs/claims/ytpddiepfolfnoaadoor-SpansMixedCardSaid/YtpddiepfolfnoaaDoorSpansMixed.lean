/- The law SpansMixed: it returns true. -/
import Derived.Test.YtpddiepfolfnoaaDoorB13
namespace Go.Proofs.YtpddiepfolfnoaaDoor
open Go.RowKit
set_option linter.unusedVariables false
set_option linter.unusedSimpArgs false
set_option linter.defProp false

/- paperchase/chaselaw1.SpansMixed -/
def ir_chaselaw1_SpansMixed : IC :=
  (.seq (.reg [⟨some 2, .mov (.c (.bool false)), none⟩])
    (.seq (.reg [⟨some 15, .mov (.t 0), none⟩,
      ⟨some 16, .bld [.nl 1, .int .i64 0] [(0, 1, .t 15)], none⟩,
      ⟨some 17, .box 25 (.t 16), none⟩,
      ⟨some 3, .mov (.t 17), none⟩])
    (.seq (.reg [⟨some 18, .mov (.t 3), none⟩,
      ⟨some 19, .bsl 1 [.c (.int .i64 0), .c (.int .i64 5), .c (.int .i64 20), .c (.int .i64 40), .c (.int .i64 200000), .c (.int .i64 (-1)), .c (.int .i64 200001)], none⟩,
      ⟨some 20, .call 20 [.t 18, .t 19], none⟩,
      ⟨some 4, .mov (.t 20), none⟩])
    (.seq (.reg [⟨some 21, .mov (.t 3), none⟩,
      ⟨some 22, .mov (.t 4), none⟩,
      ⟨some 23, .mx (.t 22) (.c (.int .i64 0)), none⟩,
      ⟨some 24, .call 21 [.t 21, .t 23], none⟩,
      ⟨some 25, .mov (.t 3), none⟩,
      ⟨some 26, .mov (.t 4), none⟩,
      ⟨some 27, .mx (.t 26) (.c (.int .i64 0)), none⟩,
      ⟨some 28, .call 21 [.t 25, .t 27], none⟩,
      ⟨some 5, .mov (.t 24), none⟩,
      ⟨some 6, .mov (.t 28), none⟩])
    (.seq (.seq (.reg [⟨some 29, .mov (.t 5), none⟩,
      ⟨some 30, .mov (.t 4), none⟩,
      ⟨some 31, .call 22 [.t 29, .t 30], none⟩,
      ⟨some 32, .mov (.t 5), none⟩,
      ⟨some 33, .mov (.t 4), none⟩,
      ⟨some 34, .call 23 [.t 32, .t 33], none⟩,
      ⟨some 35, .bin .neq (.t 31) (.t 34), none⟩])
    (.cond (.t 35) (.seq (.reg [⟨some 2, .mov (.c (.bool false)), none⟩])
    .ret) .skip))
    (.seq (.reg [⟨some 37, .mov (.t 5), none⟩,
      ⟨some 38, .mov (.t 6), none⟩,
      ⟨some 39, .mov (.t 4), none⟩,
      ⟨none, .fz (.t 37), none⟩,
      ⟨none, .fz (.t 38), none⟩,
      ⟨none, .fz (.t 39), none⟩,
      ⟨some 40, .call 24 [.t 37, .t 38, .t 39], none⟩,
      ⟨some 36, .mov (.t 40), none⟩,
      ⟨some 41, .ext 0 (.t 36), none⟩,
      ⟨some 42, .ext 1 (.t 36), none⟩,
      ⟨some 7, .mov (.t 41), none⟩,
      ⟨some 8, .mov (.t 42), none⟩])
    (.seq (.reg [⟨some 44, .mov (.t 5), none⟩,
      ⟨some 45, .mov (.t 6), none⟩,
      ⟨some 46, .mov (.t 4), none⟩,
      ⟨none, .fz (.t 44), none⟩,
      ⟨none, .fz (.t 45), none⟩,
      ⟨none, .fz (.t 46), none⟩,
      ⟨some 47, .call 25 [.t 44, .t 45, .t 46], none⟩,
      ⟨some 43, .mov (.t 47), none⟩,
      ⟨some 48, .ext 0 (.t 43), none⟩,
      ⟨some 49, .ext 1 (.t 43), none⟩,
      ⟨some 9, .mov (.t 48), none⟩,
      ⟨some 10, .mov (.t 49), none⟩])
    (.seq (.reg [⟨some 51, .mov (.t 5), none⟩,
      ⟨some 52, .mov (.t 6), none⟩,
      ⟨some 53, .mov (.t 4), none⟩,
      ⟨none, .fz (.t 51), none⟩,
      ⟨none, .fz (.t 52), none⟩,
      ⟨none, .fz (.t 53), none⟩,
      ⟨some 54, .call 26 [.t 51, .t 52, .t 53, .c (.bool false)], none⟩,
      ⟨some 50, .mov (.t 54), none⟩,
      ⟨some 55, .ext 0 (.t 50), none⟩,
      ⟨some 56, .ext 1 (.t 50), none⟩,
      ⟨some 11, .mov (.t 55), none⟩,
      ⟨some 12, .mov (.t 56), none⟩])
    (.seq (.reg [⟨some 58, .mov (.t 5), none⟩,
      ⟨some 59, .mov (.t 6), none⟩,
      ⟨some 60, .mov (.t 4), none⟩,
      ⟨none, .fz (.t 58), none⟩,
      ⟨none, .fz (.t 59), none⟩,
      ⟨none, .fz (.t 60), none⟩,
      ⟨some 61, .call 26 [.t 58, .t 59, .t 60, .c (.bool true)], none⟩,
      ⟨some 57, .mov (.t 61), none⟩,
      ⟨some 62, .ext 0 (.t 57), none⟩,
      ⟨some 63, .ext 1 (.t 57), none⟩,
      ⟨some 13, .mov (.t 62), none⟩,
      ⟨some 14, .mov (.t 63), none⟩])
    (.seq (.reg [⟨some 64, .call 17 [], none⟩,
      ⟨some 65, .mov (.t 64), none⟩,
      ⟨some 66, .mov (.t 8), (some (65, true))⟩,
      ⟨some 67, .mov (.t 12), (some (65, true))⟩,
      ⟨some 68, .bin .eql (.t 66) (.t 67), (some (65, true))⟩,
      ⟨some 69, .pick (.t 65) (.t 68) (.c (.bool false)), none⟩,
      ⟨some 70, .mov (.t 69), none⟩,
      ⟨some 71, .mov (.t 10), (some (70, true))⟩,
      ⟨some 72, .mov (.t 14), (some (70, true))⟩,
      ⟨some 73, .bin .eql (.t 71) (.t 72), (some (70, true))⟩,
      ⟨some 74, .pick (.t 70) (.t 73) (.c (.bool false)), none⟩,
      ⟨some 75, .mov (.t 74), none⟩,
      ⟨some 76, .mov (.t 7), (some (75, true))⟩,
      ⟨some 77, .mov (.t 11), (some (75, true))⟩,
      ⟨some 78, .call 27 [.t 76, .t 77], (some (75, true))⟩,
      ⟨some 79, .pick (.t 75) (.t 78) (.c (.bool false)), none⟩,
      ⟨some 80, .mov (.t 79), none⟩,
      ⟨some 81, .mov (.t 9), (some (80, true))⟩,
      ⟨some 82, .mov (.t 13), (some (80, true))⟩,
      ⟨some 83, .call 27 [.t 81, .t 82], (some (80, true))⟩,
      ⟨some 84, .pick (.t 80) (.t 83) (.c (.bool false)), none⟩,
      ⟨some 2, .mov (.t 84), none⟩])
    .ret))))))))))
def rs_chaselaw1_SpansMixed : List IRes := [.t 2]
theorem ck_chaselaw1_SpansMixed : chkF Tryd.prog Tryd.f4 ir_chaselaw1_SpansMixed rs_chaselaw1_SpansMixed 85 = true := by kernel_rfl


theorem fewF_len (l : List (Int × Int)) : (fewF l).1.length ≤ 1000 := by
  unfold fewF
  split
  · simp
  · simp only; omega
theorem mixedR_len (a b : List (Int × Int)) (size : Int) (wo : Bool) : (mixedR a b size wo).1.length ≤ 1000000 := by
  unfold mixedR
  split
  · have := fewF_len (spansFromF (tab size.toNat (mixP a b wo))); omega
  · simp

theorem spansMixed_ok (z : List Int) (hl : z.length ≤ 9223372036854775807) : PCall Tryd.prog E0 4 [ints z] (· = .bool true) := by
  refine pcallF mixed Tryd.func4 ck_chaselaw1_SpansMixed ?_
  simp only [a0, l0, OS.ao, List.map_cons, List.map_nil, List.length_cons, List.length_nil, List.cons_append, List.nil_append, Nat.reduceSub, Nat.reduceAdd, List.replicate_succ, List.replicate_zero, ir_chaselaw1_SpansMixed, rs_chaselaw1_SpansMixed, ZZ, Za, Zb, Zc, Zd, Ze, Zf, Zg, Zh, rd, AV.un, Zi, Zj, Zk, Zl, Zm, Zn, Zo, Zp, Zq, Zr, Zs, Zt, Zu, Zv, Zw, Zx, Zy, Zz, Zaa, wk1, wk, Zab, Zac, Zad, Zae, Zaf, Zag, Zah, Zai, AV.kill, AO.kill, AV.thaw, AO.thaw, Zaj, Zak, Zal, Zam, Zan, Zao, Zap, Zaq, Zar, ite_true, ite_false, reduceCtorEq, Nat.reduceAdd, Nat.reduceMul, Nat.reduceLeDiff, Nat.reduceLT, Nat.reduceEqDiff, forall_const]
  simp only [ints, ZZ, Za, Zb, Zc, Zd, Ze, Zf, Zg, Zh, rd, AV.un, Zi, Zj, Zk, Zl, Zm, Zn, Zo, Zp, Zq, Zr, Zs, Zt, Zu, Zv, Zw, Zx, Zy, Zz, Zaa, wk1, wk, Zab, Zac, Zad, Zae, Zaf, Zag, Zah, Zai, AV.kill, AO.kill, AV.thaw, AO.thaw, Zaj, Zak, Zal, Zam, Zan, Zao, Zap, Zaq, Zar, ite_true, ite_false, reduceCtorEq, Nat.reduceAdd, Nat.reduceMul, Nat.reduceLeDiff, Nat.reduceLT, Nat.reduceEqDiff, forall_const]
  refine useS (k := .l 17) (Pick_ok z 0 [0, 5, 20, 40, 200000, -1, 200001] (by omega) hl (by simp) (by simp)) rfl rfl rfl (by simp only [ZZ, Za, Zb, Zc, Zd, Ze, Zf, Zg, Zh, rd, AV.un, Zi, Zj, Zk, Zl, Zm, Zn, Zo, Zp, Zq, Zr, Zs, Zt, Zu, Zv, Zw, Zx, Zy, Zz, Zaa, wk1, wk, Zab, Zac, Zad, Zae, Zaf, Zag, Zah, Zai, AV.kill, AO.kill, AV.thaw, AO.thaw, Zaj, Zak, Zal, Zam, Zan, Zao, Zap, Zaq, Zar, ite_true, ite_false, reduceCtorEq, Nat.reduceAdd, Nat.reduceMul, Nat.reduceLeDiff, Nat.reduceLT, Nat.reduceEqDiff, forall_const]) ?_
  rintro x cs' ⟨size, rfl, hsz, rfl⟩
  have hsz' : -1 ≤ size ∧ size ≤ 200001 := by simp at hsz; omega
  simp only [ZZ, Za, Zb, Zc, Zd, Ze, Zf, Zg, Zh, rd, AV.un, Zi, Zj, Zk, Zl, Zm, Zn, Zo, Zp, Zq, Zr, Zs, Zt, Zu, Zv, Zw, Zx, Zy, Zz, Zaa, wk1, wk, Zab, Zac, Zad, Zae, Zaf, Zag, Zah, Zai, AV.kill, AO.kill, AV.thaw, AO.thaw, Zaj, Zak, Zal, Zam, Zan, Zao, Zap, Zaq, Zar, ite_true, ite_false, reduceCtorEq, Nat.reduceAdd, Nat.reduceMul, Nat.reduceLeDiff, Nat.reduceLT, Nat.reduceEqDiff, forall_const]
  refine useSF (k := .l 17) (AnySpans_ok z _ (max size 0) (by omega) hl (by omega) (by omega)) rfl rfl rfl (by simp only [ZZ, Za, Zb, Zc, Zd, Ze, Zf, Zg, Zh, rd, AV.un, Zi, Zj, Zk, Zl, Zm, Zn, Zo, Zp, Zq, Zr, Zs, Zt, Zu, Zv, Zw, Zx, Zy, Zz, Zaa, wk1, wk, Zab, Zac, Zad, Zae, Zaf, Zag, Zah, Zai, AV.kill, AO.kill, AV.thaw, AO.thaw, Zaj, Zak, Zal, Zam, Zan, Zao, Zap, Zaq, Zar, ite_true, ite_false, reduceCtorEq, Nat.reduceAdd, Nat.reduceMul, Nat.reduceLeDiff, Nat.reduceLT, Nat.reduceEqDiff, forall_const]) ?_
  rintro es cs' ⟨a, k1, rfl, ha, rfl, hk1⟩
  simp only [ZZ, Za, Zb, Zc, Zd, Ze, Zf, Zg, Zh, rd, AV.un, Zi, Zj, Zk, Zl, Zm, Zn, Zo, Zp, Zq, Zr, Zs, Zt, Zu, Zv, Zw, Zx, Zy, Zz, Zaa, wk1, wk, Zab, Zac, Zad, Zae, Zaf, Zag, Zah, Zai, AV.kill, AO.kill, AV.thaw, AO.thaw, Zaj, Zak, Zal, Zam, Zan, Zao, Zap, Zaq, Zar, ite_true, ite_false, reduceCtorEq, Nat.reduceAdd, Nat.reduceMul, Nat.reduceLeDiff, Nat.reduceLT, Nat.reduceEqDiff, forall_const]
  refine useSF (k := .l 17) (AnySpans_ok z _ (max size 0) (by omega) hl (by omega) (by omega)) rfl rfl rfl (by simp only [ZZ, Za, Zb, Zc, Zd, Ze, Zf, Zg, Zh, rd, AV.un, Zi, Zj, Zk, Zl, Zm, Zn, Zo, Zp, Zq, Zr, Zs, Zt, Zu, Zv, Zw, Zx, Zy, Zz, Zaa, wk1, wk, Zab, Zac, Zad, Zae, Zaf, Zag, Zah, Zai, AV.kill, AO.kill, AV.thaw, AO.thaw, Zaj, Zak, Zal, Zam, Zan, Zao, Zap, Zaq, Zar, ite_true, ite_false, reduceCtorEq, Nat.reduceAdd, Nat.reduceMul, Nat.reduceLeDiff, Nat.reduceLT, Nat.reduceEqDiff, forall_const]) ?_
  rintro es cs' ⟨b, k2, rfl, hb, rfl, hk2⟩
  simp only [ZZ, Za, Zb, Zc, Zd, Ze, Zf, Zg, Zh, rd, AV.un, Zi, Zj, Zk, Zl, Zm, Zn, Zo, Zp, Zq, Zr, Zs, Zt, Zu, Zv, Zw, Zx, Zy, Zz, Zaa, wk1, wk, Zab, Zac, Zad, Zae, Zaf, Zag, Zah, Zai, AV.kill, AO.kill, AV.thaw, AO.thaw, Zaj, Zak, Zal, Zam, Zan, Zao, Zap, Zaq, Zar, ite_true, ite_false, reduceCtorEq, Nat.reduceAdd, Nat.reduceMul, Nat.reduceLeDiff, Nat.reduceLT, Nat.reduceEqDiff, forall_const]
  refine use1 (CheckSpans_ok a size (by omega)) rfl (.inr rfl) ?_
  simp only [ZZ, Za, Zb, Zc, Zd, Ze, Zf, Zg, Zh, rd, AV.un, Zi, Zj, Zk, Zl, Zm, Zn, Zo, Zp, Zq, Zr, Zs, Zt, Zu, Zv, Zw, Zx, Zy, Zz, Zaa, wk1, wk, Zab, Zac, Zad, Zae, Zaf, Zag, Zah, Zai, AV.kill, AO.kill, AV.thaw, AO.thaw, Zaj, Zak, Zal, Zam, Zan, Zao, Zap, Zaq, Zar, ite_true, ite_false, reduceCtorEq, Nat.reduceAdd, Nat.reduceMul, Nat.reduceLeDiff, Nat.reduceLT, Nat.reduceEqDiff, forall_const]
  refine use1 (SpansFault_ok a size (by omega)) rfl (.inr rfl) ?_
  simp only [ZZ, Za, Zb, Zc, Zd, Ze, Zf, Zg, Zh, rd, AV.un, Zi, Zj, Zk, Zl, Zm, Zn, Zo, Zp, Zq, Zr, Zs, Zt, Zu, Zv, Zw, Zx, Zy, Zz, Zaa, wk1, wk, Zab, Zac, Zad, Zae, Zaf, Zag, Zah, Zai, AV.kill, AO.kill, AV.thaw, AO.thaw, Zaj, Zak, Zal, Zam, Zan, Zao, Zap, Zaq, Zar, ite_true, ite_false, reduceCtorEq, Nat.reduceAdd, Nat.reduceMul, Nat.reduceLeDiff, Nat.reduceLT, Nat.reduceEqDiff, forall_const]
  refine br ?_ ?_
  · intro h
    simp at h
  · intro _
    simp only [ZZ, Za, Zb, Zc, Zd, Ze, Zf, Zg, Zh, rd, AV.un, Zi, Zj, Zk, Zl, Zm, Zn, Zo, Zp, Zq, Zr, Zs, Zt, Zu, Zv, Zw, Zx, Zy, Zz, Zaa, wk1, wk, Zab, Zac, Zad, Zae, Zaf, Zag, Zah, Zai, AV.kill, AO.kill, AV.thaw, AO.thaw, Zaj, Zak, Zal, Zam, Zan, Zao, Zap, Zaq, Zar, ite_true, ite_false, reduceCtorEq, Nat.reduceAdd, Nat.reduceMul, Nat.reduceLeDiff, Nat.reduceLT, Nat.reduceEqDiff, forall_const]
    refine use1 (Union_ok a b size (by omega) (by omega)) rfl (.inl rfl) ?_
    simp only [ZZ, Za, Zb, Zc, Zd, Ze, Zf, Zg, Zh, rd, AV.un, Zi, Zj, Zk, Zl, Zm, Zn, Zo, Zp, Zq, Zr, Zs, Zt, Zu, Zv, Zw, Zx, Zy, Zz, Zaa, wk1, wk, Zab, Zac, Zad, Zae, Zaf, Zag, Zah, Zai, AV.kill, AO.kill, AV.thaw, AO.thaw, Zaj, Zak, Zal, Zam, Zan, Zao, Zap, Zaq, Zar, ite_true, ite_false, reduceCtorEq, Nat.reduceAdd, Nat.reduceMul, Nat.reduceLeDiff, Nat.reduceLT, Nat.reduceEqDiff, forall_const]
    refine use1 (Without_ok a b size (by omega) (by omega)) rfl (.inl rfl) ?_
    simp only [ZZ, Za, Zb, Zc, Zd, Ze, Zf, Zg, Zh, rd, AV.un, Zi, Zj, Zk, Zl, Zm, Zn, Zo, Zp, Zq, Zr, Zs, Zt, Zu, Zv, Zw, Zx, Zy, Zz, Zaa, wk1, wk, Zab, Zac, Zad, Zae, Zaf, Zag, Zah, Zai, AV.kill, AO.kill, AV.thaw, AO.thaw, Zaj, Zak, Zal, Zam, Zan, Zao, Zap, Zaq, Zar, ite_true, ite_false, reduceCtorEq, Nat.reduceAdd, Nat.reduceMul, Nat.reduceLeDiff, Nat.reduceLT, Nat.reduceEqDiff, forall_const]
    refine use1 (MixedOf_ok a b size false (by omega) (by omega)) rfl (.inl rfl) ?_
    simp only [ZZ, Za, Zb, Zc, Zd, Ze, Zf, Zg, Zh, rd, AV.un, Zi, Zj, Zk, Zl, Zm, Zn, Zo, Zp, Zq, Zr, Zs, Zt, Zu, Zv, Zw, Zx, Zy, Zz, Zaa, wk1, wk, Zab, Zac, Zad, Zae, Zaf, Zag, Zah, Zai, AV.kill, AO.kill, AV.thaw, AO.thaw, Zaj, Zak, Zal, Zam, Zan, Zao, Zap, Zaq, Zar, ite_true, ite_false, reduceCtorEq, Nat.reduceAdd, Nat.reduceMul, Nat.reduceLeDiff, Nat.reduceLT, Nat.reduceEqDiff, forall_const]
    refine use1 (MixedOf_ok a b size true (by omega) (by omega)) rfl (.inl rfl) ?_
    rw [without_mixed]
    simp only [ZZ, Za, Zb, Zc, Zd, Ze, Zf, Zg, Zh, rd, AV.un, Zi, Zj, Zk, Zl, Zm, Zn, Zo, Zp, Zq, Zr, Zs, Zt, Zu, Zv, Zw, Zx, Zy, Zz, Zaa, wk1, wk, Zab, Zac, Zad, Zae, Zaf, Zag, Zah, Zai, AV.kill, AO.kill, AV.thaw, AO.thaw, Zaj, Zak, Zal, Zam, Zan, Zao, Zap, Zaq, Zar, ite_true, ite_false, reduceCtorEq, Nat.reduceAdd, Nat.reduceMul, Nat.reduceLeDiff, Nat.reduceLT, Nat.reduceEqDiff, forall_const]
    refine use1 privileges_ok rfl (.inl rfl) ?_
    simp only [ZZ, Za, Zb, Zc, Zd, Ze, Zf, Zg, Zh, rd, AV.un, Zi, Zj, Zk, Zl, Zm, Zn, Zo, Zp, Zq, Zr, Zs, Zt, Zu, Zv, Zw, Zx, Zy, Zz, Zaa, wk1, wk, Zab, Zac, Zad, Zae, Zaf, Zag, Zah, Zai, AV.kill, AO.kill, AV.thaw, AO.thaw, Zaj, Zak, Zal, Zam, Zan, Zao, Zap, Zaq, Zar, ite_true, ite_false, reduceCtorEq, Nat.reduceAdd, Nat.reduceMul, Nat.reduceLeDiff, Nat.reduceLT, Nat.reduceEqDiff, forall_const]
    ((repeat' (with_reducible apply And.intro)) <;> try ((first | first | assumption | trivial | exact (fun hq => by rw [hq]; rfl) | exact i64_of (by omega) (by omega) | omega | (simp; done) | (simp; omega) | (intro hsc; have hs0 := hsc; (try have hsd := of_decide_eq_true hsc); (try simp only [Bool.not_eq_true', Bool.or_eq_false_iff, Bool.and_eq_true, Bool.or_eq_true, decide_eq_true_eq, decide_eq_false_iff_not] at hsc); (repeat' (with_reducible apply And.intro)) <;> (first | assumption | trivial | exact (fun hq => by rw [hq]; rfl) | exact i64_of (by omega) (by omega) | omega | (simp; done) | (simp; omega) | (intro hse; simp [hse, hs0]; done))))))
    refine useG (fun _ => EqualS_ok _ _ (mixedR_len a b size false)) rfl (.inr rfl) ?_
    simp only [ZZ, Za, Zb, Zc, Zd, Ze, Zf, Zg, Zh, rd, AV.un, Zi, Zj, Zk, Zl, Zm, Zn, Zo, Zp, Zq, Zr, Zs, Zt, Zu, Zv, Zw, Zx, Zy, Zz, Zaa, wk1, wk, Zab, Zac, Zad, Zae, Zaf, Zag, Zah, Zai, AV.kill, AO.kill, AV.thaw, AO.thaw, Zaj, Zak, Zal, Zam, Zan, Zao, Zap, Zaq, Zar, ite_true, ite_false, reduceCtorEq, Nat.reduceAdd, Nat.reduceMul, Nat.reduceLeDiff, Nat.reduceLT, Nat.reduceEqDiff, forall_const]
    ((repeat' (with_reducible apply And.intro)) <;> try ((first | first | assumption | trivial | exact (fun hq => by rw [hq]; rfl) | exact i64_of (by omega) (by omega) | omega | (simp; done) | (simp; omega) | (intro hsc; have hs0 := hsc; (try have hsd := of_decide_eq_true hsc); (try simp only [Bool.not_eq_true', Bool.or_eq_false_iff, Bool.and_eq_true, Bool.or_eq_true, decide_eq_true_eq, decide_eq_false_iff_not] at hsc); (repeat' (with_reducible apply And.intro)) <;> (first | assumption | trivial | exact (fun hq => by rw [hq]; rfl) | exact i64_of (by omega) (by omega) | omega | (simp; done) | (simp; omega) | (intro hse; simp [hse, hs0]; done))))))
    refine useG (fun _ => EqualS_ok _ _ (mixedR_len a b size true)) rfl (.inr rfl) ?_
    simp only [ZZ, Za, Zb, Zc, Zd, Ze, Zf, Zg, Zh, rd, AV.un, Zi, Zj, Zk, Zl, Zm, Zn, Zo, Zp, Zq, Zr, Zs, Zt, Zu, Zv, Zw, Zx, Zy, Zz, Zaa, wk1, wk, Zab, Zac, Zad, Zae, Zaf, Zag, Zah, Zai, AV.kill, AO.kill, AV.thaw, AO.thaw, Zaj, Zak, Zal, Zam, Zan, Zao, Zap, Zaq, Zar, ite_true, ite_false, reduceCtorEq, Nat.reduceAdd, Nat.reduceMul, Nat.reduceLeDiff, Nat.reduceLT, Nat.reduceEqDiff, forall_const]
    ((repeat' (with_reducible apply And.intro)) <;> try ((first | first | assumption | trivial | exact (fun hq => by rw [hq]; rfl) | exact i64_of (by omega) (by omega) | omega | (simp; done) | (simp; omega) | (intro hsc; have hs0 := hsc; (try have hsd := of_decide_eq_true hsc); (try simp only [Bool.not_eq_true', Bool.or_eq_false_iff, Bool.and_eq_true, Bool.or_eq_true, decide_eq_true_eq, decide_eq_false_iff_not] at hsc); (repeat' (with_reducible apply And.intro)) <;> (first | assumption | trivial | exact (fun hq => by rw [hq]; rfl) | exact i64_of (by omega) (by omega) | omega | (simp; done) | (simp; omega) | (intro hse; simp [hse, hs0]; done))))))

theorem spansMixed_walk (a0 : Option Addr) (len0 cap0 : Nat) (z0 : List Int) (w : World) (h0 : IsRow .i64 w a0 len0 cap0 z0) (he : E0.ok w ∧ ∀ b, E0.bl b → b < w.heap.size) :
    Calls Tryd.prog 4 #[.slice a0 len0 cap0] w fun e w' => e = .returned (.bool true) ∧ Below w.heap.size w w' :=
  walk_of spansMixed_ok a0 len0 cap0 z0 w h0 he.1 he.2
end Go.Proofs.YtpddiepfolfnoaaDoor
