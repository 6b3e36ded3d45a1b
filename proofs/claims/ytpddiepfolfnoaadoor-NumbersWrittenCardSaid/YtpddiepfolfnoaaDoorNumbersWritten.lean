
/- The law NumbersWritten: it returns true. -/
import Derived.Test.YtpddiepfolfnoaaDoorM6
import Derived.Test.YtpddiepfolfnoaaDoorM7
namespace Go.Proofs.YtpddiepfolfnoaaDoor
open Go.RowKit
set_option linter.unusedVariables false
set_option linter.unusedSimpArgs false
set_option linter.defProp false

/- paperchase/chaselaw1.NumbersWritten -/
def ir_chaselaw1_NumbersWritten : IC :=
  (.seq (.reg [⟨some 2, .mov (.c (.bool false)), none⟩])
    (.seq (.reg [⟨some 20, .mov (.t 0), none⟩,
      ⟨some 21, .bld [.nl 1, .int .i64 0] [(0, 1, .t 20)], none⟩,
      ⟨some 22, .box 25 (.t 21), none⟩,
      ⟨some 3, .mov (.t 22), none⟩])
    (.seq (.reg [⟨some 23, .mov (.t 3), none⟩,
      ⟨some 24, .bsl 1 [.c (.str [65, 66]), .c (.str [65]), .c (.str [65, 66, 67, 68, 69, 70, 71, 72]), .c (.str [65, 66, 67, 68, 69, 70, 71, 72, 73]), .c (.str []), .c (.str [97])], none⟩,
      ⟨some 25, .call 38 [.t 23, .t 24], none⟩,
      ⟨some 26, .mov (.t 3), none⟩,
      ⟨some 27, .bsl 1 [.c (.int .i64 4), .c (.int .i64 6), .c (.int .i64 9), .c (.int .i64 3), .c (.int .i64 10)], none⟩,
      ⟨some 28, .call 20 [.t 26, .t 27], none⟩,
      ⟨some 29, .mov (.t 3), none⟩,
      ⟨some 30, .bsl 1 [.c (.int .i64 1), .c (.int .i64 7), .c (.int .i64 9999), .c (.int .i64 10000), .c (.int .i64 999999999), .c (.int .i64 0), .c (.int .i64 (-1))], none⟩,
      ⟨some 31, .call 20 [.t 29, .t 30], none⟩,
      ⟨some 4, .mov (.t 25), none⟩,
      ⟨some 5, .mov (.t 28), none⟩,
      ⟨some 6, .mov (.t 31), none⟩])
    (.seq (.reg [⟨some 33, .mov (.t 4), none⟩,
      ⟨some 34, .mov (.t 5), none⟩,
      ⟨some 35, .mov (.t 6), none⟩,
      ⟨some 36, .call 71 [.t 33, .t 34, .t 35], none⟩,
      ⟨some 32, .mov (.t 36), none⟩,
      ⟨some 37, .ext 0 (.t 32), none⟩,
      ⟨some 38, .ext 1 (.t 32), none⟩,
      ⟨some 7, .mov (.t 37), none⟩,
      ⟨some 8, .mov (.t 38), none⟩])
    (.seq (.reg [⟨some 40, .mov (.t 4), none⟩,
      ⟨some 41, .mov (.t 5), none⟩,
      ⟨some 42, .mov (.t 6), none⟩,
      ⟨some 43, .call 72 [.t 40, .t 41, .t 42], none⟩,
      ⟨some 39, .mov (.t 43), none⟩,
      ⟨some 44, .ext 0 (.t 39), none⟩,
      ⟨some 45, .ext 1 (.t 39), none⟩,
      ⟨some 9, .mov (.t 44), none⟩,
      ⟨some 10, .mov (.t 45), none⟩])
    (.seq (.seq (.reg [⟨some 46, .mov (.t 8), none⟩,
      ⟨some 47, .mov (.t 10), none⟩,
      ⟨some 48, .bin .neq (.t 46) (.t 47), none⟩,
      ⟨some 49, .mov (.t 48), none⟩,
      ⟨some 50, .mov (.t 7), (some (49, false))⟩,
      ⟨some 51, .mov (.t 9), (some (49, false))⟩,
      ⟨some 52, .bin .neq (.t 50) (.t 51), (some (49, false))⟩,
      ⟨some 53, .pick (.t 49) (.c (.bool true)) (.t 52), none⟩])
    (.cond (.t 53) (.seq (.reg [⟨some 2, .mov (.c (.bool false)), none⟩])
    .ret) .skip))
    (.seq (.reg [⟨some 54, .mov (.t 3), none⟩,
      ⟨some 55, .call 73 [.t 54], none⟩,
      ⟨some 11, .mov (.t 55), none⟩])
    (.seq (.reg [⟨some 57, .mov (.t 11), none⟩,
      ⟨some 58, .call 74 [.t 57], none⟩,
      ⟨some 56, .mov (.t 58), none⟩,
      ⟨some 59, .ext 0 (.t 56), none⟩,
      ⟨some 60, .ext 1 (.t 56), none⟩,
      ⟨some 61, .ext 2 (.t 56), none⟩,
      ⟨some 62, .ext 3 (.t 56), none⟩,
      ⟨some 12, .mov (.t 59), none⟩,
      ⟨some 13, .mov (.t 60), none⟩,
      ⟨some 14, .mov (.t 61), none⟩,
      ⟨some 15, .mov (.t 62), none⟩])
    (.seq (.reg [⟨some 64, .mov (.t 11), none⟩,
      ⟨some 65, .call 75 [.t 64], none⟩,
      ⟨some 63, .mov (.t 65), none⟩,
      ⟨some 66, .ext 0 (.t 63), none⟩,
      ⟨some 67, .ext 1 (.t 63), none⟩,
      ⟨some 68, .ext 2 (.t 63), none⟩,
      ⟨some 69, .ext 3 (.t 63), none⟩,
      ⟨some 16, .mov (.t 66), none⟩,
      ⟨some 17, .mov (.t 67), none⟩,
      ⟨some 18, .mov (.t 68), none⟩,
      ⟨some 19, .mov (.t 69), none⟩])
    (.seq (.reg [⟨some 70, .call 69 [], none⟩,
      ⟨some 71, .mov (.t 70), none⟩,
      ⟨some 72, .mov (.t 15), (some (71, true))⟩,
      ⟨some 73, .mov (.t 19), (some (71, true))⟩,
      ⟨some 74, .bin .eql (.t 72) (.t 73), (some (71, true))⟩,
      ⟨some 75, .pick (.t 71) (.t 74) (.c (.bool false)), none⟩,
      ⟨some 76, .mov (.t 75), none⟩,
      ⟨some 77, .mov (.t 12), (some (76, true))⟩,
      ⟨some 78, .mov (.t 16), (some (76, true))⟩,
      ⟨some 79, .bin .eql (.t 77) (.t 78), (some (76, true))⟩,
      ⟨some 80, .pick (.t 76) (.t 79) (.c (.bool false)), none⟩,
      ⟨some 81, .mov (.t 80), none⟩,
      ⟨some 82, .mov (.t 13), (some (81, true))⟩,
      ⟨some 83, .mov (.t 17), (some (81, true))⟩,
      ⟨some 84, .bin .eql (.t 82) (.t 83), (some (81, true))⟩,
      ⟨some 85, .pick (.t 81) (.t 84) (.c (.bool false)), none⟩,
      ⟨some 86, .mov (.t 85), none⟩,
      ⟨some 87, .mov (.t 14), (some (86, true))⟩,
      ⟨some 88, .mov (.t 18), (some (86, true))⟩,
      ⟨some 89, .bin .eql (.t 87) (.t 88), (some (86, true))⟩,
      ⟨some 90, .pick (.t 86) (.t 89) (.c (.bool false)), none⟩,
      ⟨some 2, .mov (.t 90), none⟩])
    .ret))))))))))
def rs_chaselaw1_NumbersWritten : List IRes := [.t 2]
theorem ck_chaselaw1_NumbersWritten : chkF Tryd.prog Tryd.f11 ir_chaselaw1_NumbersWritten rs_chaselaw1_NumbersWritten 91 = true := by kernel_rfl

theorem numbersWritten_ok (z : List Int) (hl : z.length ≤ 9223372036854775807) : PCall Tryd.prog E2 11 [ints z] (· = .bool true) := by
  refine pcallF mixed Tryd.func11 ck_chaselaw1_NumbersWritten ?_
  simp only [a0, l0, OS.ao, List.map_cons, List.map_nil, List.length_cons, List.length_nil, List.cons_append, List.nil_append, Nat.reduceSub, Nat.reduceAdd, List.replicate_succ, List.replicate_zero, ir_chaselaw1_NumbersWritten, rs_chaselaw1_NumbersWritten, ZZ, Za, Zb, Zc, Zd, Ze, Zf, Zg, Zh, rd, AV.un, AV.unA, AV.ad, Zi, Zj, Zk, Zl, Zm, Zn, Zo, Zp, Zq, Zr, Zs, Zt, Zu, Zv, Zw, Zx, Zy, Zz, Zaa, Zab, Zac, Zad, wk1, wk, Zae, Zaf, Zag, Zah, Zai, Zaj, Zak, Zal, AV.kill, AO.kill, AV.thaw, AO.thaw, Zam, Zan, Zao, Zap, Zaq, Zar, Zas, Zat, Zau, ite_true, ite_false, reduceCtorEq, Nat.reduceAdd, Nat.reduceMul, Nat.reduceLeDiff, Nat.reduceLT, Nat.reduceEqDiff, forall_const]
  simp only [ints, ZZ, Za, Zb, Zc, Zd, Ze, Zf, Zg, Zh, rd, AV.un, AV.unA, AV.ad, Zi, Zj, Zk, Zl, Zm, Zn, Zo, Zp, Zq, Zr, Zs, Zt, Zu, Zv, Zw, Zx, Zy, Zz, Zaa, Zab, Zac, Zad, wk1, wk, Zae, Zaf, Zag, Zah, Zai, Zaj, Zak, Zal, AV.kill, AO.kill, AV.thaw, AO.thaw, Zam, Zan, Zao, Zap, Zaq, Zar, Zas, Zat, Zau, ite_true, ite_false, reduceCtorEq, Nat.reduceAdd, Nat.reduceMul, Nat.reduceLeDiff, Nat.reduceLT, Nat.reduceEqDiff, forall_const]
  refine useS (k := .l 22) (One_ok z 0 P6 (by omega) hl (by decide) (by decide)) rfl rfl rfl (by simp only [ZZ, Za, Zb, Zc, Zd, Ze, Zf, Zg, Zh, rd, AV.un, AV.unA, AV.ad, Zi, Zj, Zk, Zl, Zm, Zn, Zo, Zp, Zq, Zr, Zs, Zt, Zu, Zv, Zw, Zx, Zy, Zz, Zaa, Zab, Zac, Zad, wk1, wk, Zae, Zaf, Zag, Zah, Zai, Zaj, Zak, Zal, AV.kill, AO.kill, AV.thaw, AO.thaw, Zam, Zan, Zao, Zap, Zaq, Zar, Zas, Zat, Zau, ite_true, ite_false, reduceCtorEq, Nat.reduceAdd, Nat.reduceMul, Nat.reduceLeDiff, Nat.reduceLT, Nat.reduceEqDiff, forall_const]) ?_
  rintro x cs' ⟨p, rfl, hp, rfl⟩
  have hpl : p.length ≤ 9 := by simp [P6] at hp; rcases hp with rfl | rfl | rfl | rfl | rfl | rfl <;> simp
  simp only [ZZ, Za, Zb, Zc, Zd, Ze, Zf, Zg, Zh, rd, AV.un, AV.unA, AV.ad, Zi, Zj, Zk, Zl, Zm, Zn, Zo, Zp, Zq, Zr, Zs, Zt, Zu, Zv, Zw, Zx, Zy, Zz, Zaa, Zab, Zac, Zad, wk1, wk, Zae, Zaf, Zag, Zah, Zai, Zaj, Zak, Zal, AV.kill, AO.kill, AV.thaw, AO.thaw, Zam, Zan, Zao, Zap, Zaq, Zar, Zas, Zat, Zau, ite_true, ite_false, reduceCtorEq, Nat.reduceAdd, Nat.reduceMul, Nat.reduceLeDiff, Nat.reduceLT, Nat.reduceEqDiff, forall_const]
  refine useS (k := .l 22) (Pick_ok z (0 + 1) D5 (by omega) hl (by decide) (by decide)) rfl rfl rfl (by simp only [ZZ, Za, Zb, Zc, Zd, Ze, Zf, Zg, Zh, rd, AV.un, AV.unA, AV.ad, Zi, Zj, Zk, Zl, Zm, Zn, Zo, Zp, Zq, Zr, Zs, Zt, Zu, Zv, Zw, Zx, Zy, Zz, Zaa, Zab, Zac, Zad, wk1, wk, Zae, Zaf, Zag, Zah, Zai, Zaj, Zak, Zal, AV.kill, AO.kill, AV.thaw, AO.thaw, Zam, Zan, Zao, Zap, Zaq, Zar, Zas, Zat, Zau, ite_true, ite_false, reduceCtorEq, Nat.reduceAdd, Nat.reduceMul, Nat.reduceLeDiff, Nat.reduceLT, Nat.reduceEqDiff, forall_const]) ?_
  rintro x cs' ⟨d, rfl, hd, rfl⟩
  simp only [ZZ, Za, Zb, Zc, Zd, Ze, Zf, Zg, Zh, rd, AV.un, AV.unA, AV.ad, Zi, Zj, Zk, Zl, Zm, Zn, Zo, Zp, Zq, Zr, Zs, Zt, Zu, Zv, Zw, Zx, Zy, Zz, Zaa, Zab, Zac, Zad, wk1, wk, Zae, Zaf, Zag, Zah, Zai, Zaj, Zak, Zal, AV.kill, AO.kill, AV.thaw, AO.thaw, Zam, Zan, Zao, Zap, Zaq, Zar, Zas, Zat, Zau, ite_true, ite_false, reduceCtorEq, Nat.reduceAdd, Nat.reduceMul, Nat.reduceLeDiff, Nat.reduceLT, Nat.reduceEqDiff, forall_const]
  refine useS (k := .l 22) (Pick_ok z (0 + 1 + 1) N7 (by omega) hl (by decide) (by decide)) rfl rfl rfl (by simp only [ZZ, Za, Zb, Zc, Zd, Ze, Zf, Zg, Zh, rd, AV.un, AV.unA, AV.ad, Zi, Zj, Zk, Zl, Zm, Zn, Zo, Zp, Zq, Zr, Zs, Zt, Zu, Zv, Zw, Zx, Zy, Zz, Zaa, Zab, Zac, Zad, wk1, wk, Zae, Zaf, Zag, Zah, Zai, Zaj, Zak, Zal, AV.kill, AO.kill, AV.thaw, AO.thaw, Zam, Zan, Zao, Zap, Zaq, Zar, Zas, Zat, Zau, ite_true, ite_false, reduceCtorEq, Nat.reduceAdd, Nat.reduceMul, Nat.reduceLeDiff, Nat.reduceLT, Nat.reduceEqDiff, forall_const]) ?_
  rintro x cs' ⟨n, rfl, hn, rfl⟩
  have hnb : -1 ≤ n ∧ n ≤ 999999999 := by simp [N7] at hn; omega
  have hfin := nums_fin p hp d hd n hn
  simp only [ZZ, Za, Zb, Zc, Zd, Ze, Zf, Zg, Zh, rd, AV.un, AV.unA, AV.ad, Zi, Zj, Zk, Zl, Zm, Zn, Zo, Zp, Zq, Zr, Zs, Zt, Zu, Zv, Zw, Zx, Zy, Zz, Zaa, Zab, Zac, Zad, wk1, wk, Zae, Zaf, Zag, Zah, Zai, Zaj, Zak, Zal, AV.kill, AO.kill, AV.thaw, AO.thaw, Zam, Zan, Zao, Zap, Zaq, Zar, Zas, Zat, Zau, ite_true, ite_false, reduceCtorEq, Nat.reduceAdd, Nat.reduceMul, Nat.reduceLeDiff, Nat.reduceLT, Nat.reduceEqDiff, forall_const]
  refine use1 (Number_ok p d n (by omega)) rfl (.inl rfl) ?_
  rw [numG_it (by omega) (by omega), hfin]
  simp only [ZZ, Za, Zb, Zc, Zd, Ze, Zf, Zg, Zh, rd, AV.un, AV.unA, AV.ad, Zi, Zj, Zk, Zl, Zm, Zn, Zo, Zp, Zq, Zr, Zs, Zt, Zu, Zv, Zw, Zx, Zy, Zz, Zaa, Zab, Zac, Zad, wk1, wk, Zae, Zaf, Zag, Zah, Zai, Zaj, Zak, Zal, AV.kill, AO.kill, AV.thaw, AO.thaw, Zam, Zan, Zao, Zap, Zaq, Zar, Zas, Zat, Zau, ite_true, ite_false, reduceCtorEq, Nat.reduceAdd, Nat.reduceMul, Nat.reduceLeDiff, Nat.reduceLT, Nat.reduceEqDiff, forall_const]
  refine use1 (NumberOf_ok p d n (by omega) (by omega)) rfl (.inl rfl) ?_
  rw [nofG_it (by omega)]
  generalize nofG itD p d n = q at *
  simp only [ZZ, Za, Zb, Zc, Zd, Ze, Zf, Zg, Zh, rd, AV.un, AV.unA, AV.ad, Zi, Zj, Zk, Zl, Zm, Zn, Zo, Zp, Zq, Zr, Zs, Zt, Zu, Zv, Zw, Zx, Zy, Zz, Zaa, Zab, Zac, Zad, wk1, wk, Zae, Zaf, Zag, Zah, Zai, Zaj, Zak, Zal, AV.kill, AO.kill, AV.thaw, AO.thaw, Zam, Zan, Zao, Zap, Zaq, Zar, Zas, Zat, Zau, ite_true, ite_false, reduceCtorEq, Nat.reduceAdd, Nat.reduceMul, Nat.reduceLeDiff, Nat.reduceLT, Nat.reduceEqDiff, forall_const]
  ((repeat' (with_reducible apply And.intro)) <;> try ((first | first | assumption | trivial | exact (fun hq => by rw [hq]; rfl) | exact i64_of (by omega) (by omega) | omega | (simp; done) | (simp; omega) | (intro hsc; have hs0 := hsc; (try have hsd := of_decide_eq_true hsc); (try simp only [Bool.not_eq_true', Bool.or_eq_false_iff, Bool.and_eq_true, Bool.or_eq_true, decide_eq_true_eq, decide_eq_false_iff_not] at hsc); (repeat' (with_reducible apply And.intro)) <;> (first | assumption | trivial | exact (fun hq => by rw [hq]; rfl) | exact i64_of (by omega) (by omega) | omega | (simp; done) | (simp; omega) | (intro hse; simp [hse, hs0]; done) | (intro hse; simp only [hse, hs0, Bool.true_and, Bool.and_true, Bool.not_false, Bool.not_true, Bool.and_self]; done))))))
  refine br ?_ ?_
  · intro h
    simp at h
  · intro _
    simp only [ZZ, Za, Zb, Zc, Zd, Ze, Zf, Zg, Zh, rd, AV.un, AV.unA, AV.ad, Zi, Zj, Zk, Zl, Zm, Zn, Zo, Zp, Zq, Zr, Zs, Zt, Zu, Zv, Zw, Zx, Zy, Zz, Zaa, Zab, Zac, Zad, wk1, wk, Zae, Zaf, Zag, Zah, Zai, Zaj, Zak, Zal, AV.kill, AO.kill, AV.thaw, AO.thaw, Zam, Zan, Zao, Zap, Zaq, Zar, Zas, Zat, Zau, ite_true, ite_false, reduceCtorEq, Nat.reduceAdd, Nat.reduceMul, Nat.reduceLeDiff, Nat.reduceLT, Nat.reduceEqDiff, forall_const]
    refine useS (k := .l 22) (NumberText_ok z (0 + 1 + 1 + 1) (by omega) hl) rfl rfl rfl (by simp only [ZZ, Za, Zb, Zc, Zd, Ze, Zf, Zg, Zh, rd, AV.un, AV.unA, AV.ad, Zi, Zj, Zk, Zl, Zm, Zn, Zo, Zp, Zq, Zr, Zs, Zt, Zu, Zv, Zw, Zx, Zy, Zz, Zaa, Zab, Zac, Zad, wk1, wk, Zae, Zaf, Zag, Zah, Zai, Zaj, Zak, Zal, AV.kill, AO.kill, AV.thaw, AO.thaw, Zam, Zan, Zao, Zap, Zaq, Zar, Zas, Zat, Zau, ite_true, ite_false, reduceCtorEq, Nat.reduceAdd, Nat.reduceMul, Nat.reduceLeDiff, Nat.reduceLT, Nat.reduceEqDiff, forall_const]) ?_
    rintro x cs' ⟨t, k', rfl, h1, h2, h3, rfl⟩
    simp only [ZZ, Za, Zb, Zc, Zd, Ze, Zf, Zg, Zh, rd, AV.un, AV.unA, AV.ad, Zi, Zj, Zk, Zl, Zm, Zn, Zo, Zp, Zq, Zr, Zs, Zt, Zu, Zv, Zw, Zx, Zy, Zz, Zaa, Zab, Zac, Zad, wk1, wk, Zae, Zaf, Zag, Zah, Zai, Zaj, Zak, Zal, AV.kill, AO.kill, AV.thaw, AO.thaw, Zam, Zan, Zao, Zap, Zaq, Zar, Zas, Zat, Zau, ite_true, ite_false, reduceCtorEq, Nat.reduceAdd, Nat.reduceMul, Nat.reduceLeDiff, Nat.reduceLT, Nat.reduceEqDiff, forall_const]
    refine use1 (ReadNumber_ok t (by omega) h2) rfl (.inl rfl) ?_
    rw [h1, ← fromG_it]
    simp only [ZZ, Za, Zb, Zc, Zd, Ze, Zf, Zg, Zh, rd, AV.un, AV.unA, AV.ad, Zi, Zj, Zk, Zl, Zm, Zn, Zo, Zp, Zq, Zr, Zs, Zt, Zu, Zv, Zw, Zx, Zy, Zz, Zaa, Zab, Zac, Zad, wk1, wk, Zae, Zaf, Zag, Zah, Zai, Zaj, Zak, Zal, AV.kill, AO.kill, AV.thaw, AO.thaw, Zam, Zan, Zao, Zap, Zaq, Zar, Zas, Zat, Zau, ite_true, ite_false, reduceCtorEq, Nat.reduceAdd, Nat.reduceMul, Nat.reduceLeDiff, Nat.reduceLT, Nat.reduceEqDiff, forall_const, fourP]
    refine use1 (NumberFrom_ok t (by omega)) rfl (.inl rfl) ?_
    generalize fromG Lib.itoa t = r at *
    simp only [ZZ, Za, Zb, Zc, Zd, Ze, Zf, Zg, Zh, rd, AV.un, AV.unA, AV.ad, Zi, Zj, Zk, Zl, Zm, Zn, Zo, Zp, Zq, Zr, Zs, Zt, Zu, Zv, Zw, Zx, Zy, Zz, Zaa, Zab, Zac, Zad, wk1, wk, Zae, Zaf, Zag, Zah, Zai, Zaj, Zak, Zal, AV.kill, AO.kill, AV.thaw, AO.thaw, Zam, Zan, Zao, Zap, Zaq, Zar, Zas, Zat, Zau, ite_true, ite_false, reduceCtorEq, Nat.reduceAdd, Nat.reduceMul, Nat.reduceLeDiff, Nat.reduceLT, Nat.reduceEqDiff, forall_const, fourP]
    refine use1 produces_ok rfl (.inl rfl) ?_
    simp only [ZZ, Za, Zb, Zc, Zd, Ze, Zf, Zg, Zh, rd, AV.un, AV.unA, AV.ad, Zi, Zj, Zk, Zl, Zm, Zn, Zo, Zp, Zq, Zr, Zs, Zt, Zu, Zv, Zw, Zx, Zy, Zz, Zaa, Zab, Zac, Zad, wk1, wk, Zae, Zaf, Zag, Zah, Zai, Zaj, Zak, Zal, AV.kill, AO.kill, AV.thaw, AO.thaw, Zam, Zan, Zao, Zap, Zaq, Zar, Zas, Zat, Zau, ite_true, ite_false, reduceCtorEq, Nat.reduceAdd, Nat.reduceMul, Nat.reduceLeDiff, Nat.reduceLT, Nat.reduceEqDiff, forall_const]
    ((repeat' (with_reducible apply And.intro)) <;> try ((first | first | assumption | trivial | exact (fun hq => by rw [hq]; rfl) | exact i64_of (by omega) (by omega) | omega | (simp; done) | (simp; omega) | (intro hsc; have hs0 := hsc; (try have hsd := of_decide_eq_true hsc); (try simp only [Bool.not_eq_true', Bool.or_eq_false_iff, Bool.and_eq_true, Bool.or_eq_true, decide_eq_true_eq, decide_eq_false_iff_not] at hsc); (repeat' (with_reducible apply And.intro)) <;> (first | assumption | trivial | exact (fun hq => by rw [hq]; rfl) | exact i64_of (by omega) (by omega) | omega | (simp; done) | (simp; omega) | (intro hse; simp [hse, hs0]; done) | (intro hse; simp only [hse, hs0, Bool.true_and, Bool.and_true, Bool.not_false, Bool.not_true, Bool.and_self]; done))))))
theorem numbersWritten_walk (a0 : Option Addr) (len0 cap0 : Nat) (z0 : List Int) (w : World) (h0 : IsRow .i64 w a0 len0 cap0 z0) (he : E2.ok w ∧ ∀ b, E2.bl b → b < w.heap.size) :
    Calls Tryd.prog 11 #[.slice a0 len0 cap0] w fun e w' => e = .returned (.bool true) ∧ Below w.heap.size w w' :=
  walk_of numbersWritten_ok a0 len0 cap0 z0 w h0 he.1 he.2
end Go.Proofs.YtpddiepfolfnoaaDoor
