
/- The law TermsMarked: it returns true. -/
import Derived.Test.YtndjmidmfmcbkaaDoorM7
namespace Go.Proofs.YtndjmidmfmcbkaaDoor
open Go.RowKit
set_option linter.unusedVariables false
set_option linter.unusedSimpArgs false
set_option linter.defProp false

/- paperchase/chaselaw1.TermsMarked -/
def ir_chaselaw1_TermsMarked : IC :=
  (.seq (.reg [⟨some 2, .mov (.c (.bool false)), none⟩])
    (.seq (.reg [⟨some 9, .mov (.t 0), none⟩,
      ⟨some 10, .bld [.nl 1, .int .i64 0] [(0, 1, .t 9)], none⟩,
      ⟨some 11, .box 25 (.t 10), none⟩,
      ⟨some 3, .mov (.t 11), none⟩])
    (.seq (.reg [⟨some 12, .mov (.t 3), none⟩,
      ⟨some 13, .call 7 [.t 12], none⟩,
      ⟨some 14, .mov (.t 3), none⟩,
      ⟨some 15, .call 8 [.t 14], none⟩,
      ⟨some 4, .mov (.t 13), none⟩,
      ⟨some 5, .mov (.t 15), none⟩])
    (.seq (.reg [⟨some 16, .mov (.t 4), none⟩,
      ⟨some 17, .call 9 [.t 16], none⟩,
      ⟨some 6, .mov (.t 17), none⟩])
    (.seq (.seq (.reg [⟨some 18, .mov (.t 4), none⟩,
      ⟨some 19, .call 10 [.t 18], none⟩,
      ⟨some 20, .mov (.t 6), none⟩,
      ⟨some 21, .bin .neq (.t 19) (.t 20), none⟩])
    (.cond (.t 21) (.seq (.reg [⟨some 2, .mov (.c (.bool false)), none⟩])
    .ret) .skip))
    (.seq (.reg [⟨some 23, .mov (.t 4), none⟩,
      ⟨some 24, .mov (.t 5), none⟩,
      ⟨none, .fz (.t 23), none⟩,
      ⟨none, .fz (.t 24), none⟩,
      ⟨some 25, .call 11 [.t 23, .t 24], none⟩,
      ⟨some 22, .mov (.t 25), none⟩,
      ⟨some 26, .ext 0 (.t 22), none⟩,
      ⟨some 27, .ext 1 (.t 22), none⟩,
      ⟨some 7, .mov (.t 26), none⟩,
      ⟨some 8, .mov (.t 27), none⟩])
    (.seq (.seq (.reg [⟨some 28, .mov (.t 6), none⟩,
      ⟨some 29, .bin .eql (.t 28) (.c (.int .i64 0)), none⟩,
      ⟨some 30, .mov (.t 29), none⟩,
      ⟨some 31, .mov (.t 5), (some (30, true))⟩,
      ⟨some 32, .sln (.t 31), (some (30, true))⟩,
      ⟨some 33, .bin .gtr (.t 32) (.c (.int .i64 20000)), (some (30, true))⟩,
      ⟨some 34, .pick (.t 30) (.t 33) (.c (.bool false)), none⟩])
    (.cond (.t 34) (.reg [⟨some 6, .mov (.c (.int .i64 2)), none⟩]) .skip))
    (.cut (.seq (.reg [⟨some 35, .call 12 [], none⟩,
      ⟨some 36, .mov (.t 35), none⟩,
      ⟨some 37, .mov (.t 8), (some (36, true))⟩,
      ⟨some 38, .mov (.t 6), (some (36, true))⟩,
      ⟨some 39, .bin .eql (.t 37) (.t 38), (some (36, true))⟩,
      ⟨some 40, .pick (.t 36) (.t 39) (.c (.bool false)), none⟩,
      ⟨some 41, .mov (.t 40), none⟩,
      ⟨some 42, .mov (.t 6), (some (41, true))⟩,
      ⟨some 43, .bin .neq (.t 42) (.c (.int .i64 0)), (some (41, true))⟩,
      ⟨some 44, .mov (.t 43), (some (41, true))⟩,
      ⟨some 45, .mov (.t 7), (some (44, false))⟩,
      ⟨some 46, .mov (.t 4), (some (44, false))⟩,
      ⟨some 47, .mov (.t 5), (some (44, false))⟩,
      ⟨none, .fz (.t 46), none⟩,
      ⟨none, .fz (.t 47), none⟩,
      ⟨some 48, .call 14 [.t 46, .t 47], (some (44, false))⟩,
      ⟨some 49, .call 13 [.t 45, .t 48], (some (44, false))⟩,
      ⟨some 50, .pick (.t 44) (.c (.bool true)) (.t 49), (some (41, true))⟩,
      ⟨some 51, .pick (.t 41) (.t 50) (.c (.bool false)), none⟩,
      ⟨some 2, .mov (.t 51), none⟩])
    .ret)))))))))
def rs_chaselaw1_TermsMarked : List IRes := [.t 2]
theorem ck_chaselaw1_TermsMarked : chkF Tryd.prog Tryd.f3 ir_chaselaw1_TermsMarked rs_chaselaw1_TermsMarked 52 = true := by kernel_rfl

theorem tS_len : ∀ t ∈ tS, t.length ≤ 25000 := by decide +kernel
theorem terms_bd {Ts : List (List UInt8)} (h : TermsOk Ts) : Ts.length ≤ 1000000 ∧ ∀ t ∈ Ts, t.length ≤ 25000 := by
  obtain ⟨T0, hT, h⟩ := h
  have h0 : T0.length ≤ 3 ∧ ∀ t ∈ T0, t.length ≤ 25000 := by
    simp only [List.mem_cons, List.not_mem_nil, or_false] at hT
    rcases hT with rfl | rfl | rfl
    · exact ⟨by decide, by decide +kernel⟩
    · exact ⟨by decide, by decide +kernel⟩
    · exact ⟨by decide, by simp⟩
  rcases h with rfl | ⟨t, ht, rfl⟩
  · exact ⟨by omega, h0.2⟩
  · refine ⟨by simp; omega, fun x hx => ?_⟩
    rcases List.mem_append.1 hx with hx | hx
    · exact h0.2 x hx
    · rw [List.mem_singleton] at hx; subst hx; exact tS_len _ ht
theorem termsMarked_ok (z : List Int) (hl : z.length ≤ 9223372036854775807) : PCall Tryd.prog E0 3 [ints z] (· = .bool true) := by
  refine pcallF mixed Tryd.func3 ck_chaselaw1_TermsMarked ?_
  simp only [a0, l0, OS.ao, List.map_cons, List.map_nil, List.length_cons, List.length_nil, List.cons_append, List.nil_append, Nat.reduceSub, Nat.reduceAdd, List.replicate_succ, List.replicate_zero, ir_chaselaw1_TermsMarked, rs_chaselaw1_TermsMarked, ZZ, IsnK_some, Za, Zb, Zc, Zd, Ze, Zf, Zg, Zh, rd, AV.un, AV.unA, AV.ad, Zi, Zj, Zk, Zl, Zm, Zn, Zo, Zp, Zq, Zr, Zs, Zt, Zu, Zv, Zw, Zx, Zy, Zz, Zaa, Zab, Zac, Zad, Zae, Zaf, Zag, Zah, Zai, Zaj, Zak, Zal, Zam, Zan, wk1, wk, Zao, Zap, Zaq, Zar, Zas, Zat, Zau, Zav, AV.kill, AO.kill, AV.thaw, AO.thaw, Zaw, Zax, Zay, Zaz, Zba, Zbb, Zbc, Zbd, Zbe, ite_true, ite_false, reduceCtorEq, Nat.reduceAdd, Nat.reduceMul, Nat.reduceLeDiff, Nat.reduceLT, Nat.reduceEqDiff, forall_const]
  simp only [ints, ZZ, IsnK_some, Za, Zb, Zc, Zd, Ze, Zf, Zg, Zh, rd, AV.un, AV.unA, AV.ad, Zi, Zj, Zk, Zl, Zm, Zn, Zo, Zp, Zq, Zr, Zs, Zt, Zu, Zv, Zw, Zx, Zy, Zz, Zaa, Zab, Zac, Zad, Zae, Zaf, Zag, Zah, Zai, Zaj, Zak, Zal, Zam, Zan, wk1, wk, Zao, Zap, Zaq, Zar, Zas, Zat, Zau, Zav, AV.kill, AO.kill, AV.thaw, AO.thaw, Zaw, Zax, Zay, Zaz, Zba, Zbb, Zbc, Zbd, Zbe, ite_true, ite_false, reduceCtorEq, Nat.reduceAdd, Nat.reduceMul, Nat.reduceLeDiff, Nat.reduceLT, Nat.reduceEqDiff, forall_const]
  refine useS (k := .l 11) (Terms_ok z 0 (by omega) hl) rfl rfl rfl (by simp only [ZZ, IsnK_some, Za, Zb, Zc, Zd, Ze, Zf, Zg, Zh, rd, AV.un, AV.unA, AV.ad, Zi, Zj, Zk, Zl, Zm, Zn, Zo, Zp, Zq, Zr, Zs, Zt, Zu, Zv, Zw, Zx, Zy, Zz, Zaa, Zab, Zac, Zad, Zae, Zaf, Zag, Zah, Zai, Zaj, Zak, Zal, Zam, Zan, wk1, wk, Zao, Zap, Zaq, Zar, Zas, Zat, Zau, Zav, AV.kill, AO.kill, AV.thaw, AO.thaw, Zaw, Zax, Zay, Zaz, Zba, Zbb, Zbc, Zbd, Zbe, ite_true, ite_false, reduceCtorEq, Nat.reduceAdd, Nat.reduceMul, Nat.reduceLeDiff, Nat.reduceLT, Nat.reduceEqDiff, forall_const]) ?_
  rintro x cs' ⟨ts, k1, hts, rfl, rfl, hk1⟩
  obtain ⟨hl1, hb1⟩ := terms_bd hts
  simp only [ZZ, IsnK_some, Za, Zb, Zc, Zd, Ze, Zf, Zg, Zh, rd, AV.un, AV.unA, AV.ad, Zi, Zj, Zk, Zl, Zm, Zn, Zo, Zp, Zq, Zr, Zs, Zt, Zu, Zv, Zw, Zx, Zy, Zz, Zaa, Zab, Zac, Zad, Zae, Zaf, Zag, Zah, Zai, Zaj, Zak, Zal, Zam, Zan, wk1, wk, Zao, Zap, Zaq, Zar, Zas, Zat, Zau, Zav, AV.kill, AO.kill, AV.thaw, AO.thaw, Zaw, Zax, Zay, Zaz, Zba, Zbb, Zbc, Zbd, Zbe, ite_true, ite_false, reduceCtorEq, Nat.reduceAdd, Nat.reduceMul, Nat.reduceLeDiff, Nat.reduceLT, Nat.reduceEqDiff, forall_const]
  refine useS (k := .l 11) (MailBody_ok z k1 (by omega) hl) rfl rfl rfl (by simp only [ZZ, IsnK_some, Za, Zb, Zc, Zd, Ze, Zf, Zg, Zh, rd, AV.un, AV.unA, AV.ad, Zi, Zj, Zk, Zl, Zm, Zn, Zo, Zp, Zq, Zr, Zs, Zt, Zu, Zv, Zw, Zx, Zy, Zz, Zaa, Zab, Zac, Zad, Zae, Zaf, Zag, Zah, Zai, Zaj, Zak, Zal, Zam, Zan, wk1, wk, Zao, Zap, Zaq, Zar, Zas, Zat, Zau, Zav, AV.kill, AO.kill, AV.thaw, AO.thaw, Zaw, Zax, Zay, Zaz, Zba, Zbb, Zbc, Zbd, Zbe, ite_true, ite_false, reduceCtorEq, Nat.reduceAdd, Nat.reduceMul, Nat.reduceLeDiff, Nat.reduceLT, Nat.reduceEqDiff, forall_const]) ?_
  rintro x cs' ⟨t, k2, rfl, ht, rfl, hk2⟩
  simp only [ZZ, IsnK_some, Za, Zb, Zc, Zd, Ze, Zf, Zg, Zh, rd, AV.un, AV.unA, AV.ad, Zi, Zj, Zk, Zl, Zm, Zn, Zo, Zp, Zq, Zr, Zs, Zt, Zu, Zv, Zw, Zx, Zy, Zz, Zaa, Zab, Zac, Zad, Zae, Zaf, Zag, Zah, Zai, Zaj, Zak, Zal, Zam, Zan, wk1, wk, Zao, Zap, Zaq, Zar, Zas, Zat, Zau, Zav, AV.kill, AO.kill, AV.thaw, AO.thaw, Zaw, Zax, Zay, Zaz, Zba, Zbb, Zbc, Zbd, Zbe, ite_true, ite_false, reduceCtorEq, Nat.reduceAdd, Nat.reduceMul, Nat.reduceLeDiff, Nat.reduceLT, Nat.reduceEqDiff, forall_const]
  refine use1 (TermsFault_ok ts hl1 hb1) rfl (.inl rfl) ?_
  simp only [ZZ, IsnK_some, Za, Zb, Zc, Zd, Ze, Zf, Zg, Zh, rd, AV.un, AV.unA, AV.ad, Zi, Zj, Zk, Zl, Zm, Zn, Zo, Zp, Zq, Zr, Zs, Zt, Zu, Zv, Zw, Zx, Zy, Zz, Zaa, Zab, Zac, Zad, Zae, Zaf, Zag, Zah, Zai, Zaj, Zak, Zal, Zam, Zan, wk1, wk, Zao, Zap, Zaq, Zar, Zas, Zat, Zau, Zav, AV.kill, AO.kill, AV.thaw, AO.thaw, Zaw, Zax, Zay, Zaz, Zba, Zbb, Zbc, Zbd, Zbe, ite_true, ite_false, reduceCtorEq, Nat.reduceAdd, Nat.reduceMul, Nat.reduceLeDiff, Nat.reduceLT, Nat.reduceEqDiff, forall_const]
  refine use1 (CheckTerms_ok ts hl1 hb1) rfl (.inl rfl) ?_
  simp only [ZZ, IsnK_some, Za, Zb, Zc, Zd, Ze, Zf, Zg, Zh, rd, AV.un, AV.unA, AV.ad, Zi, Zj, Zk, Zl, Zm, Zn, Zo, Zp, Zq, Zr, Zs, Zt, Zu, Zv, Zw, Zx, Zy, Zz, Zaa, Zab, Zac, Zad, Zae, Zaf, Zag, Zah, Zai, Zaj, Zak, Zal, Zam, Zan, wk1, wk, Zao, Zap, Zaq, Zar, Zas, Zat, Zau, Zav, AV.kill, AO.kill, AV.thaw, AO.thaw, Zaw, Zax, Zay, Zaz, Zba, Zbb, Zbc, Zbd, Zbe, ite_true, ite_false, reduceCtorEq, Nat.reduceAdd, Nat.reduceMul, Nat.reduceLeDiff, Nat.reduceLT, Nat.reduceEqDiff, forall_const]
  refine br (fun h => by simp at h) ?_
  intro _
  simp only [ZZ, IsnK_some, Za, Zb, Zc, Zd, Ze, Zf, Zg, Zh, rd, AV.un, AV.unA, AV.ad, Zi, Zj, Zk, Zl, Zm, Zn, Zo, Zp, Zq, Zr, Zs, Zt, Zu, Zv, Zw, Zx, Zy, Zz, Zaa, Zab, Zac, Zad, Zae, Zaf, Zag, Zah, Zai, Zaj, Zak, Zal, Zam, Zan, wk1, wk, Zao, Zap, Zaq, Zar, Zas, Zat, Zau, Zav, AV.kill, AO.kill, AV.thaw, AO.thaw, Zaw, Zax, Zay, Zaz, Zba, Zbb, Zbc, Zbd, Zbe, ite_true, ite_false, reduceCtorEq, Nat.reduceAdd, Nat.reduceMul, Nat.reduceLeDiff, Nat.reduceLT, Nat.reduceEqDiff, forall_const]
  refine use1 (Marks_ok ts t hl1 hb1 (by omega)) rfl (.inl rfl) ?_
  have hml : (marksF ts t).length ≤ 1000000000 := Nat.le_trans (List.length_filter_le _ _) (by omega)
  have hlg : largeE t = if 20000 < t.length then 2 else 0 := by
    unfold largeE whenE
    by_cases h : 20000 < t.length <;> simp [h] <;> omega
  by_cases h1 : termsF ts = 0
  · by_cases h2 : 20000 < t.length
    · have h3 : firstE [termsF ts, largeE t] = 2 := by rw [hlg, if_pos h2, h1]; rfl
      rw [h3, if_neg (by decide)]
      rw [h1]
      simp only [ZZ, IsnK_some, Za, Zb, Zc, Zd, Ze, Zf, Zg, Zh, rd, AV.un, AV.unA, AV.ad, Zi, Zj, Zk, Zl, Zm, Zn, Zo, Zp, Zq, Zr, Zs, Zt, Zu, Zv, Zw, Zx, Zy, Zz, Zaa, Zab, Zac, Zad, Zae, Zaf, Zag, Zah, Zai, Zaj, Zak, Zal, Zam, Zan, wk1, wk, Zao, Zap, Zaq, Zar, Zas, Zat, Zau, Zav, AV.kill, AO.kill, AV.thaw, AO.thaw, Zaw, Zax, Zay, Zaz, Zba, Zbb, Zbc, Zbd, Zbe, ite_true, ite_false, reduceCtorEq, Nat.reduceAdd, Nat.reduceMul, Nat.reduceLeDiff, Nat.reduceLT, Nat.reduceEqDiff, forall_const, strs]
      ((repeat' (with_reducible apply And.intro)) <;> try ((first | first | assumption | trivial | exact (fun hq => by rw [hq]; rfl) | exact i64_of (by omega) (by omega) | omega | (simp; done) | (simp; omega) | (intro hsc; have hs0 := hsc; (try have hsd := of_decide_eq_true hsc); (try simp only [Bool.not_eq_true', Bool.or_eq_false_iff, Bool.and_eq_true, Bool.or_eq_true, decide_eq_true_eq, decide_eq_false_iff_not] at hsc); (repeat' (with_reducible apply And.intro)) <;> (first | assumption | trivial | exact (fun hq => by rw [hq]; rfl) | exact i64_of (by omega) (by omega) | omega | (simp; done) | (simp; omega) | (intro hse; simp [hse, hs0]; done) | (intro hse; simp only [hse, hs0, Bool.true_and, Bool.and_true, Bool.not_false, Bool.not_true, Bool.and_self]; done))))))
      refine br ?_ ?_
      · intro _
        simp only [ZZ, IsnK_some, Za, Zb, Zc, Zd, Ze, Zf, Zg, Zh, rd, AV.un, AV.unA, AV.ad, Zi, Zj, Zk, Zl, Zm, Zn, Zo, Zp, Zq, Zr, Zs, Zt, Zu, Zv, Zw, Zx, Zy, Zz, Zaa, Zab, Zac, Zad, Zae, Zaf, Zag, Zah, Zai, Zaj, Zak, Zal, Zam, Zan, wk1, wk, Zao, Zap, Zaq, Zar, Zas, Zat, Zau, Zav, AV.kill, AO.kill, AV.thaw, AO.thaw, Zaw, Zax, Zay, Zaz, Zba, Zbb, Zbc, Zbd, Zbe, ite_true, ite_false, reduceCtorEq, Nat.reduceAdd, Nat.reduceMul, Nat.reduceLeDiff, Nat.reduceLT, Nat.reduceEqDiff, forall_const]
        refine cut_same (by simp only [ZZ, IsnK_some, Za, Zb, Zc, Zd, Ze, Zf, Zg, Zh, rd, AV.un, AV.unA, AV.ad, Zi, Zj, Zk, Zl, Zm, Zn, Zo, Zp, Zq, Zr, Zs, Zt, Zu, Zv, Zw, Zx, Zy, Zz, Zaa, Zab, Zac, Zad, Zae, Zaf, Zag, Zah, Zai, Zaj, Zak, Zal, Zam, Zan, wk1, wk, Zao, Zap, Zaq, Zar, Zas, Zat, Zau, Zav, AV.kill, AO.kill, AV.thaw, AO.thaw, Zaw, Zax, Zay, Zaz, Zba, Zbb, Zbc, Zbd, Zbe, ite_true, ite_false, reduceCtorEq, Nat.reduceAdd, Nat.reduceMul, Nat.reduceLeDiff, Nat.reduceLT, Nat.reduceEqDiff, forall_const]) ?_
        simp only [ZZ, IsnK_some, Za, Zb, Zc, Zd, Ze, Zf, Zg, Zh, rd, AV.un, AV.unA, AV.ad, Zi, Zj, Zk, Zl, Zm, Zn, Zo, Zp, Zq, Zr, Zs, Zt, Zu, Zv, Zw, Zx, Zy, Zz, Zaa, Zab, Zac, Zad, Zae, Zaf, Zag, Zah, Zai, Zaj, Zak, Zal, Zam, Zan, wk1, wk, Zao, Zap, Zaq, Zar, Zas, Zat, Zau, Zav, AV.kill, AO.kill, AV.thaw, AO.thaw, Zaw, Zax, Zay, Zaz, Zba, Zbb, Zbc, Zbd, Zbe, ite_true, ite_false, reduceCtorEq, Nat.reduceAdd, Nat.reduceMul, Nat.reduceLeDiff, Nat.reduceLT, Nat.reduceEqDiff, forall_const]
        refine use1 privileges_ok rfl (.inl rfl) ?_
        simp only [ZZ, IsnK_some, Za, Zb, Zc, Zd, Ze, Zf, Zg, Zh, rd, AV.un, AV.unA, AV.ad, Zi, Zj, Zk, Zl, Zm, Zn, Zo, Zp, Zq, Zr, Zs, Zt, Zu, Zv, Zw, Zx, Zy, Zz, Zaa, Zab, Zac, Zad, Zae, Zaf, Zag, Zah, Zai, Zaj, Zak, Zal, Zam, Zan, wk1, wk, Zao, Zap, Zaq, Zar, Zas, Zat, Zau, Zav, AV.kill, AO.kill, AV.thaw, AO.thaw, Zaw, Zax, Zay, Zaz, Zba, Zbb, Zbc, Zbd, Zbe, ite_true, ite_false, reduceCtorEq, Nat.reduceAdd, Nat.reduceMul, Nat.reduceLeDiff, Nat.reduceLT, Nat.reduceEqDiff, forall_const]
        refine useG (fun _ => MarksOf_ok ts t hl1 hb1 (by omega)) rfl (.inl rfl) ?_
        simp only [ZZ, IsnK_some, Za, Zb, Zc, Zd, Ze, Zf, Zg, Zh, rd, AV.un, AV.unA, AV.ad, Zi, Zj, Zk, Zl, Zm, Zn, Zo, Zp, Zq, Zr, Zs, Zt, Zu, Zv, Zw, Zx, Zy, Zz, Zaa, Zab, Zac, Zad, Zae, Zaf, Zag, Zah, Zai, Zaj, Zak, Zal, Zam, Zan, wk1, wk, Zao, Zap, Zaq, Zar, Zas, Zat, Zau, Zav, AV.kill, AO.kill, AV.thaw, AO.thaw, Zaw, Zax, Zay, Zaz, Zba, Zbb, Zbc, Zbd, Zbe, ite_true, ite_false, reduceCtorEq, Nat.reduceAdd, Nat.reduceMul, Nat.reduceLeDiff, Nat.reduceLT, Nat.reduceEqDiff, forall_const, strs]
        refine useG (fun _ => EqualT_ok [] (marksF ts t) (by first | exact hml | simp)) rfl (.inl rfl) ?_
        simp only [ZZ, IsnK_some, Za, Zb, Zc, Zd, Ze, Zf, Zg, Zh, rd, AV.un, AV.unA, AV.ad, Zi, Zj, Zk, Zl, Zm, Zn, Zo, Zp, Zq, Zr, Zs, Zt, Zu, Zv, Zw, Zx, Zy, Zz, Zaa, Zab, Zac, Zad, Zae, Zaf, Zag, Zah, Zai, Zaj, Zak, Zal, Zam, Zan, wk1, wk, Zao, Zap, Zaq, Zar, Zas, Zat, Zau, Zav, AV.kill, AO.kill, AV.thaw, AO.thaw, Zaw, Zax, Zay, Zaz, Zba, Zbb, Zbc, Zbd, Zbe, ite_true, ite_false, reduceCtorEq, Nat.reduceAdd, Nat.reduceMul, Nat.reduceLeDiff, Nat.reduceLT, Nat.reduceEqDiff, forall_const]
        ((repeat' (with_reducible apply And.intro)) <;> try ((first | first | assumption | trivial | exact (fun hq => by rw [hq]; rfl) | exact i64_of (by omega) (by omega) | omega | (simp; done) | (simp; omega) | (intro hsc; have hs0 := hsc; (try have hsd := of_decide_eq_true hsc); (try simp only [Bool.not_eq_true', Bool.or_eq_false_iff, Bool.and_eq_true, Bool.or_eq_true, decide_eq_true_eq, decide_eq_false_iff_not] at hsc); (repeat' (with_reducible apply And.intro)) <;> (first | assumption | trivial | exact (fun hq => by rw [hq]; rfl) | exact i64_of (by omega) (by omega) | omega | (simp; done) | (simp; omega) | (intro hse; simp [hse, hs0]; done) | (intro hse; simp only [hse, hs0, Bool.true_and, Bool.and_true, Bool.not_false, Bool.not_true, Bool.and_self]; done))))))
      · intro h; exact absurd h (by simp; omega)
    · have h3 : firstE [termsF ts, largeE t] = 0 := by rw [hlg, if_neg h2, h1]; rfl
      rw [if_pos h3]
      rw [h1]
      simp only [ZZ, IsnK_some, Za, Zb, Zc, Zd, Ze, Zf, Zg, Zh, rd, AV.un, AV.unA, AV.ad, Zi, Zj, Zk, Zl, Zm, Zn, Zo, Zp, Zq, Zr, Zs, Zt, Zu, Zv, Zw, Zx, Zy, Zz, Zaa, Zab, Zac, Zad, Zae, Zaf, Zag, Zah, Zai, Zaj, Zak, Zal, Zam, Zan, wk1, wk, Zao, Zap, Zaq, Zar, Zas, Zat, Zau, Zav, AV.kill, AO.kill, AV.thaw, AO.thaw, Zaw, Zax, Zay, Zaz, Zba, Zbb, Zbc, Zbd, Zbe, ite_true, ite_false, reduceCtorEq, Nat.reduceAdd, Nat.reduceMul, Nat.reduceLeDiff, Nat.reduceLT, Nat.reduceEqDiff, forall_const, strs]
      ((repeat' (with_reducible apply And.intro)) <;> try ((first | first | assumption | trivial | exact (fun hq => by rw [hq]; rfl) | exact i64_of (by omega) (by omega) | omega | (simp; done) | (simp; omega) | (intro hsc; have hs0 := hsc; (try have hsd := of_decide_eq_true hsc); (try simp only [Bool.not_eq_true', Bool.or_eq_false_iff, Bool.and_eq_true, Bool.or_eq_true, decide_eq_true_eq, decide_eq_false_iff_not] at hsc); (repeat' (with_reducible apply And.intro)) <;> (first | assumption | trivial | exact (fun hq => by rw [hq]; rfl) | exact i64_of (by omega) (by omega) | omega | (simp; done) | (simp; omega) | (intro hse; simp [hse, hs0]; done) | (intro hse; simp only [hse, hs0, Bool.true_and, Bool.and_true, Bool.not_false, Bool.not_true, Bool.and_self]; done))))))
      refine br (fun h => absurd h (by simp; omega)) ?_
      intro _
      simp only [ZZ, IsnK_some, Za, Zb, Zc, Zd, Ze, Zf, Zg, Zh, rd, AV.un, AV.unA, AV.ad, Zi, Zj, Zk, Zl, Zm, Zn, Zo, Zp, Zq, Zr, Zs, Zt, Zu, Zv, Zw, Zx, Zy, Zz, Zaa, Zab, Zac, Zad, Zae, Zaf, Zag, Zah, Zai, Zaj, Zak, Zal, Zam, Zan, wk1, wk, Zao, Zap, Zaq, Zar, Zas, Zat, Zau, Zav, AV.kill, AO.kill, AV.thaw, AO.thaw, Zaw, Zax, Zay, Zaz, Zba, Zbb, Zbc, Zbd, Zbe, ite_true, ite_false, reduceCtorEq, Nat.reduceAdd, Nat.reduceMul, Nat.reduceLeDiff, Nat.reduceLT, Nat.reduceEqDiff, forall_const]
      refine cut_same (by simp only [ZZ, IsnK_some, Za, Zb, Zc, Zd, Ze, Zf, Zg, Zh, rd, AV.un, AV.unA, AV.ad, Zi, Zj, Zk, Zl, Zm, Zn, Zo, Zp, Zq, Zr, Zs, Zt, Zu, Zv, Zw, Zx, Zy, Zz, Zaa, Zab, Zac, Zad, Zae, Zaf, Zag, Zah, Zai, Zaj, Zak, Zal, Zam, Zan, wk1, wk, Zao, Zap, Zaq, Zar, Zas, Zat, Zau, Zav, AV.kill, AO.kill, AV.thaw, AO.thaw, Zaw, Zax, Zay, Zaz, Zba, Zbb, Zbc, Zbd, Zbe, ite_true, ite_false, reduceCtorEq, Nat.reduceAdd, Nat.reduceMul, Nat.reduceLeDiff, Nat.reduceLT, Nat.reduceEqDiff, forall_const]) ?_
      simp only [ZZ, IsnK_some, Za, Zb, Zc, Zd, Ze, Zf, Zg, Zh, rd, AV.un, AV.unA, AV.ad, Zi, Zj, Zk, Zl, Zm, Zn, Zo, Zp, Zq, Zr, Zs, Zt, Zu, Zv, Zw, Zx, Zy, Zz, Zaa, Zab, Zac, Zad, Zae, Zaf, Zag, Zah, Zai, Zaj, Zak, Zal, Zam, Zan, wk1, wk, Zao, Zap, Zaq, Zar, Zas, Zat, Zau, Zav, AV.kill, AO.kill, AV.thaw, AO.thaw, Zaw, Zax, Zay, Zaz, Zba, Zbb, Zbc, Zbd, Zbe, ite_true, ite_false, reduceCtorEq, Nat.reduceAdd, Nat.reduceMul, Nat.reduceLeDiff, Nat.reduceLT, Nat.reduceEqDiff, forall_const]
      refine use1 privileges_ok rfl (.inl rfl) ?_
      simp only [ZZ, IsnK_some, Za, Zb, Zc, Zd, Ze, Zf, Zg, Zh, rd, AV.un, AV.unA, AV.ad, Zi, Zj, Zk, Zl, Zm, Zn, Zo, Zp, Zq, Zr, Zs, Zt, Zu, Zv, Zw, Zx, Zy, Zz, Zaa, Zab, Zac, Zad, Zae, Zaf, Zag, Zah, Zai, Zaj, Zak, Zal, Zam, Zan, wk1, wk, Zao, Zap, Zaq, Zar, Zas, Zat, Zau, Zav, AV.kill, AO.kill, AV.thaw, AO.thaw, Zaw, Zax, Zay, Zaz, Zba, Zbb, Zbc, Zbd, Zbe, ite_true, ite_false, reduceCtorEq, Nat.reduceAdd, Nat.reduceMul, Nat.reduceLeDiff, Nat.reduceLT, Nat.reduceEqDiff, forall_const]
      refine useG (fun _ => MarksOf_ok ts t hl1 hb1 (by omega)) rfl (.inl rfl) ?_
      simp only [ZZ, IsnK_some, Za, Zb, Zc, Zd, Ze, Zf, Zg, Zh, rd, AV.un, AV.unA, AV.ad, Zi, Zj, Zk, Zl, Zm, Zn, Zo, Zp, Zq, Zr, Zs, Zt, Zu, Zv, Zw, Zx, Zy, Zz, Zaa, Zab, Zac, Zad, Zae, Zaf, Zag, Zah, Zai, Zaj, Zak, Zal, Zam, Zan, wk1, wk, Zao, Zap, Zaq, Zar, Zas, Zat, Zau, Zav, AV.kill, AO.kill, AV.thaw, AO.thaw, Zaw, Zax, Zay, Zaz, Zba, Zbb, Zbc, Zbd, Zbe, ite_true, ite_false, reduceCtorEq, Nat.reduceAdd, Nat.reduceMul, Nat.reduceLeDiff, Nat.reduceLT, Nat.reduceEqDiff, forall_const, strs]
      refine useG (fun _ => EqualT_ok (marksF ts t) (marksF ts t) (by first | exact hml | simp)) rfl (.inl rfl) ?_
      simp only [ZZ, IsnK_some, Za, Zb, Zc, Zd, Ze, Zf, Zg, Zh, rd, AV.un, AV.unA, AV.ad, Zi, Zj, Zk, Zl, Zm, Zn, Zo, Zp, Zq, Zr, Zs, Zt, Zu, Zv, Zw, Zx, Zy, Zz, Zaa, Zab, Zac, Zad, Zae, Zaf, Zag, Zah, Zai, Zaj, Zak, Zal, Zam, Zan, wk1, wk, Zao, Zap, Zaq, Zar, Zas, Zat, Zau, Zav, AV.kill, AO.kill, AV.thaw, AO.thaw, Zaw, Zax, Zay, Zaz, Zba, Zbb, Zbc, Zbd, Zbe, ite_true, ite_false, reduceCtorEq, Nat.reduceAdd, Nat.reduceMul, Nat.reduceLeDiff, Nat.reduceLT, Nat.reduceEqDiff, forall_const]
      ((repeat' (with_reducible apply And.intro)) <;> try ((first | first | assumption | trivial | exact (fun hq => by rw [hq]; rfl) | exact i64_of (by omega) (by omega) | omega | (simp; done) | (simp; omega) | (intro hsc; have hs0 := hsc; (try have hsd := of_decide_eq_true hsc); (try simp only [Bool.not_eq_true', Bool.or_eq_false_iff, Bool.and_eq_true, Bool.or_eq_true, decide_eq_true_eq, decide_eq_false_iff_not] at hsc); (repeat' (with_reducible apply And.intro)) <;> (first | assumption | trivial | exact (fun hq => by rw [hq]; rfl) | exact i64_of (by omega) (by omega) | omega | (simp; done) | (simp; omega) | (intro hse; simp [hse, hs0]; done) | (intro hse; simp only [hse, hs0, Bool.true_and, Bool.and_true, Bool.not_false, Bool.not_true, Bool.and_self]; done))))))
  · have h3 : ¬ firstE [termsF ts, largeE t] = 0 := by simp only [firstE, if_neg h1]; exact h1
    have h4 : firstE [termsF ts, largeE t] = termsF ts := by simp only [firstE, if_neg h1]
    rw [if_neg h3, h4]
    simp only [ZZ, IsnK_some, Za, Zb, Zc, Zd, Ze, Zf, Zg, Zh, rd, AV.un, AV.unA, AV.ad, Zi, Zj, Zk, Zl, Zm, Zn, Zo, Zp, Zq, Zr, Zs, Zt, Zu, Zv, Zw, Zx, Zy, Zz, Zaa, Zab, Zac, Zad, Zae, Zaf, Zag, Zah, Zai, Zaj, Zak, Zal, Zam, Zan, wk1, wk, Zao, Zap, Zaq, Zar, Zas, Zat, Zau, Zav, AV.kill, AO.kill, AV.thaw, AO.thaw, Zaw, Zax, Zay, Zaz, Zba, Zbb, Zbc, Zbd, Zbe, ite_true, ite_false, reduceCtorEq, Nat.reduceAdd, Nat.reduceMul, Nat.reduceLeDiff, Nat.reduceLT, Nat.reduceEqDiff, forall_const, strs]
    refine br (fun h => absurd h (by simp [h1])) ?_
    intro _
    simp only [ZZ, IsnK_some, Za, Zb, Zc, Zd, Ze, Zf, Zg, Zh, rd, AV.un, AV.unA, AV.ad, Zi, Zj, Zk, Zl, Zm, Zn, Zo, Zp, Zq, Zr, Zs, Zt, Zu, Zv, Zw, Zx, Zy, Zz, Zaa, Zab, Zac, Zad, Zae, Zaf, Zag, Zah, Zai, Zaj, Zak, Zal, Zam, Zan, wk1, wk, Zao, Zap, Zaq, Zar, Zas, Zat, Zau, Zav, AV.kill, AO.kill, AV.thaw, AO.thaw, Zaw, Zax, Zay, Zaz, Zba, Zbb, Zbc, Zbd, Zbe, ite_true, ite_false, reduceCtorEq, Nat.reduceAdd, Nat.reduceMul, Nat.reduceLeDiff, Nat.reduceLT, Nat.reduceEqDiff, forall_const]
    refine cut_same (by simp only [ZZ, IsnK_some, Za, Zb, Zc, Zd, Ze, Zf, Zg, Zh, rd, AV.un, AV.unA, AV.ad, Zi, Zj, Zk, Zl, Zm, Zn, Zo, Zp, Zq, Zr, Zs, Zt, Zu, Zv, Zw, Zx, Zy, Zz, Zaa, Zab, Zac, Zad, Zae, Zaf, Zag, Zah, Zai, Zaj, Zak, Zal, Zam, Zan, wk1, wk, Zao, Zap, Zaq, Zar, Zas, Zat, Zau, Zav, AV.kill, AO.kill, AV.thaw, AO.thaw, Zaw, Zax, Zay, Zaz, Zba, Zbb, Zbc, Zbd, Zbe, ite_true, ite_false, reduceCtorEq, Nat.reduceAdd, Nat.reduceMul, Nat.reduceLeDiff, Nat.reduceLT, Nat.reduceEqDiff, forall_const]) ?_
    simp only [ZZ, IsnK_some, Za, Zb, Zc, Zd, Ze, Zf, Zg, Zh, rd, AV.un, AV.unA, AV.ad, Zi, Zj, Zk, Zl, Zm, Zn, Zo, Zp, Zq, Zr, Zs, Zt, Zu, Zv, Zw, Zx, Zy, Zz, Zaa, Zab, Zac, Zad, Zae, Zaf, Zag, Zah, Zai, Zaj, Zak, Zal, Zam, Zan, wk1, wk, Zao, Zap, Zaq, Zar, Zas, Zat, Zau, Zav, AV.kill, AO.kill, AV.thaw, AO.thaw, Zaw, Zax, Zay, Zaz, Zba, Zbb, Zbc, Zbd, Zbe, ite_true, ite_false, reduceCtorEq, Nat.reduceAdd, Nat.reduceMul, Nat.reduceLeDiff, Nat.reduceLT, Nat.reduceEqDiff, forall_const]
    refine use1 privileges_ok rfl (.inl rfl) ?_
    simp only [ZZ, IsnK_some, Za, Zb, Zc, Zd, Ze, Zf, Zg, Zh, rd, AV.un, AV.unA, AV.ad, Zi, Zj, Zk, Zl, Zm, Zn, Zo, Zp, Zq, Zr, Zs, Zt, Zu, Zv, Zw, Zx, Zy, Zz, Zaa, Zab, Zac, Zad, Zae, Zaf, Zag, Zah, Zai, Zaj, Zak, Zal, Zam, Zan, wk1, wk, Zao, Zap, Zaq, Zar, Zas, Zat, Zau, Zav, AV.kill, AO.kill, AV.thaw, AO.thaw, Zaw, Zax, Zay, Zaz, Zba, Zbb, Zbc, Zbd, Zbe, ite_true, ite_false, reduceCtorEq, Nat.reduceAdd, Nat.reduceMul, Nat.reduceLeDiff, Nat.reduceLT, Nat.reduceEqDiff, forall_const]
    refine useG (fun _ => MarksOf_ok ts t hl1 hb1 (by omega)) rfl (.inl rfl) ?_
    simp only [ZZ, IsnK_some, Za, Zb, Zc, Zd, Ze, Zf, Zg, Zh, rd, AV.un, AV.unA, AV.ad, Zi, Zj, Zk, Zl, Zm, Zn, Zo, Zp, Zq, Zr, Zs, Zt, Zu, Zv, Zw, Zx, Zy, Zz, Zaa, Zab, Zac, Zad, Zae, Zaf, Zag, Zah, Zai, Zaj, Zak, Zal, Zam, Zan, wk1, wk, Zao, Zap, Zaq, Zar, Zas, Zat, Zau, Zav, AV.kill, AO.kill, AV.thaw, AO.thaw, Zaw, Zax, Zay, Zaz, Zba, Zbb, Zbc, Zbd, Zbe, ite_true, ite_false, reduceCtorEq, Nat.reduceAdd, Nat.reduceMul, Nat.reduceLeDiff, Nat.reduceLT, Nat.reduceEqDiff, forall_const, strs]
    refine useG (fun _ => EqualT_ok [] (marksF ts t) (by first | exact hml | simp)) rfl (.inl rfl) ?_
    simp only [ZZ, IsnK_some, Za, Zb, Zc, Zd, Ze, Zf, Zg, Zh, rd, AV.un, AV.unA, AV.ad, Zi, Zj, Zk, Zl, Zm, Zn, Zo, Zp, Zq, Zr, Zs, Zt, Zu, Zv, Zw, Zx, Zy, Zz, Zaa, Zab, Zac, Zad, Zae, Zaf, Zag, Zah, Zai, Zaj, Zak, Zal, Zam, Zan, wk1, wk, Zao, Zap, Zaq, Zar, Zas, Zat, Zau, Zav, AV.kill, AO.kill, AV.thaw, AO.thaw, Zaw, Zax, Zay, Zaz, Zba, Zbb, Zbc, Zbd, Zbe, ite_true, ite_false, reduceCtorEq, Nat.reduceAdd, Nat.reduceMul, Nat.reduceLeDiff, Nat.reduceLT, Nat.reduceEqDiff, forall_const]
    ((repeat' (with_reducible apply And.intro)) <;> try ((first | first | assumption | trivial | exact (fun hq => by rw [hq]; rfl) | exact i64_of (by omega) (by omega) | omega | (simp; done) | (simp; omega) | (intro hsc; have hs0 := hsc; (try have hsd := of_decide_eq_true hsc); (try simp only [Bool.not_eq_true', Bool.or_eq_false_iff, Bool.and_eq_true, Bool.or_eq_true, decide_eq_true_eq, decide_eq_false_iff_not] at hsc); (repeat' (with_reducible apply And.intro)) <;> (first | assumption | trivial | exact (fun hq => by rw [hq]; rfl) | exact i64_of (by omega) (by omega) | omega | (simp; done) | (simp; omega) | (intro hse; simp [hse, hs0]; done) | (intro hse; simp only [hse, hs0, Bool.true_and, Bool.and_true, Bool.not_false, Bool.not_true, Bool.and_self]; done))))))
theorem termsMarked_walk (a0 : Option Addr) (len0 cap0 : Nat) (z0 : List Int) (w : World) (h0 : IsRow .i64 w a0 len0 cap0 z0) (he : E0.ok w ∧ ∀ b, E0.bl b → b < w.heap.size) :
    Calls Tryd.prog 3 #[.slice a0 len0 cap0] w fun e w' => e = .returned (.bool true) ∧ Below w.heap.size w w' :=
  walk_of termsMarked_ok a0 len0 cap0 z0 w h0 he.1 he.2
end Go.Proofs.YtndjmidmfmcbkaaDoor
