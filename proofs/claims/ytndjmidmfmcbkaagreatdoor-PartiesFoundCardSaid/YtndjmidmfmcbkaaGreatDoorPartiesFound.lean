
/- The law PartiesFound: it returns true. -/
import Derived.Test.YtndjmidmfmcbkaaGreatDoorM7
namespace Go.Proofs.YtndjmidmfmcbkaaGreatDoor
open Go.RowKit
set_option linter.unusedVariables false
set_option linter.unusedSimpArgs false
set_option linter.defProp false

/- paperchase/chaselaw1.PartiesFound -/
def ir_chaselaw1_PartiesFound : IC :=
  (.seq (.reg [⟨some 2, .mov (.c (.bool false)), none⟩])
    (.seq (.reg [⟨some 18, .mov (.t 0), none⟩,
      ⟨some 19, .bld [.nl 1, .int .i64 0] [(0, 1, .t 18)], none⟩,
      ⟨some 20, .box 25 (.t 19), none⟩,
      ⟨some 3, .mov (.t 20), none⟩])
    (.seq (.reg [⟨some 21, .mov (.t 3), none⟩,
      ⟨some 22, .call 9 [.t 21], none⟩,
      ⟨some 23, .mov (.t 3), none⟩,
      ⟨some 24, .bsl 1 [.c (.str [97, 110, 110, 64, 102, 105, 114, 109, 46, 100, 101]), .c (.str [98, 111, 64, 102, 105, 114, 109, 46, 100, 101]), .c (.str [100, 101, 101, 64, 120, 46, 102, 105, 114, 109, 46, 100, 101]), .c (.str [113, 64, 121, 46, 120, 46, 102, 105, 114, 109, 46, 100, 101]), .c (.str [99, 121, 64, 101, 108, 115, 101, 46, 100, 101]), .c (.str [120])], none⟩,
      ⟨some 25, .call 10 [.t 23, .t 24], none⟩,
      ⟨some 4, .alc 30 [.nl 3, .nl 3, .nl 1, .nl 1], none⟩,
      ⟨none, .st 4 (.t 4) (.t 22), none⟩,
      ⟨some 5, .mov (.t 25), none⟩])
    (.seq (.seq (.drg [⟨some 26, .fla 0 (.t 4), none⟩,
      ⟨some 27, .ld 1 false (.t 26), none⟩,
      ⟨some 28, .pcall 0 11 [.t 27], none⟩,
      ⟨some 29, .fla 0 (.t 4), none⟩,
      ⟨some 30, .ld 1 false (.t 29), none⟩,
      ⟨some 31, .pcall 1 12 [.t 30], none⟩,
      ⟨some 32, .bin .neq (.t 28) (.t 31), none⟩])
    (.cond (.t 32) (.seq (.reg [⟨some 2, .mov (.c (.bool false)), none⟩])
    .ret) .skip))
    (.seq (.reg [⟨some 34, .fla 0 (.t 4), none⟩,
      ⟨some 35, .ld 1 false (.t 34), none⟩,
      ⟨some 36, .mov (.t 5), none⟩,
      ⟨some 37, .call 13 [.t 35, .t 36], none⟩,
      ⟨some 33, .mov (.t 37), none⟩,
      ⟨some 38, .ext 0 (.t 33), none⟩,
      ⟨some 39, .ext 1 (.t 33), none⟩,
      ⟨some 40, .ext 2 (.t 33), none⟩,
      ⟨some 6, .alc 36 [.str [], .int .i64 0, .int .i64 0], none⟩,
      ⟨none, .st 3 (.t 6) (.t 38), none⟩,
      ⟨some 7, .mov (.t 39), none⟩,
      ⟨some 8, .mov (.t 40), none⟩])
    (.seq (.reg [⟨some 42, .fla 0 (.t 4), none⟩,
      ⟨some 43, .ld 1 false (.t 42), none⟩,
      ⟨some 44, .fla 1 (.t 4), none⟩,
      ⟨some 45, .ld 1 false (.t 44), none⟩,
      ⟨some 46, .mov (.t 5), none⟩,
      ⟨some 47, .call 14 [.t 43, .t 45, .t 46], none⟩,
      ⟨some 41, .mov (.t 47), none⟩,
      ⟨some 48, .ext 0 (.t 41), none⟩,
      ⟨some 49, .ext 1 (.t 41), none⟩,
      ⟨some 50, .ext 2 (.t 41), none⟩,
      ⟨some 9, .alc 36 [.str [], .int .i64 0, .int .i64 0], none⟩,
      ⟨none, .st 3 (.t 9) (.t 48), none⟩,
      ⟨some 10, .mov (.t 49), none⟩,
      ⟨some 11, .mov (.t 50), none⟩])
    (.seq (.reg [⟨some 51, .fla 0 (.t 4), none⟩,
      ⟨some 52, .ld 1 false (.t 51), none⟩,
      ⟨some 53, .call 12 [.t 52], none⟩,
      ⟨some 12, .mov (.t 53), none⟩])
    (.seq (.reg [⟨some 54, .mov (.t 12), none⟩,
      ⟨some 55, .fla 1 (.t 4), none⟩,
      ⟨some 56, .ld 1 false (.t 55), none⟩,
      ⟨some 57, .call 16 [.t 56], none⟩,
      ⟨some 58, .bsl 1 [.t 54, .t 57], none⟩,
      ⟨some 59, .call 15 [.t 58], none⟩,
      ⟨some 13, .mov (.t 59), none⟩])
    (.seq (.seq (.reg [⟨some 60, .mov (.t 5), none⟩,
      ⟨some 61, .call 17 [.t 60], none⟩,
      ⟨some 62, .not (.t 61), none⟩])
    (.cond (.t 62) (.reg [⟨some 63, .mov (.t 12), none⟩,
      ⟨some 64, .bsl 1 [.t 63, .c (.int .i64 3)], none⟩,
      ⟨some 65, .call 15 [.t 64], none⟩,
      ⟨some 66, .mov (.t 13), none⟩,
      ⟨some 67, .bsl 1 [.t 66, .c (.int .i64 3)], none⟩,
      ⟨some 68, .call 15 [.t 67], none⟩,
      ⟨some 12, .mov (.t 65), none⟩,
      ⟨some 13, .mov (.t 68), none⟩]) .skip))
    (.cut (.seq (.seq (.reg [⟨some 69, .mov (.t 8), none⟩,
      ⟨some 70, .mov (.t 12), none⟩,
      ⟨some 71, .bin .neq (.t 69) (.t 70), none⟩,
      ⟨some 72, .mov (.t 71), none⟩,
      ⟨some 73, .mov (.t 11), (some (72, false))⟩,
      ⟨some 74, .mov (.t 13), (some (72, false))⟩,
      ⟨some 75, .bin .neq (.t 73) (.t 74), (some (72, false))⟩,
      ⟨some 76, .pick (.t 72) (.c (.bool true)) (.t 75), none⟩])
    (.cond (.t 76) (.seq (.reg [⟨some 2, .mov (.c (.bool false)), none⟩])
    .ret) .skip))
    (.seq (.reg [⟨some 78, .fla 0 (.t 4), none⟩,
      ⟨some 79, .ld 1 false (.t 78), none⟩,
      ⟨some 80, .mov (.t 5), none⟩,
      ⟨some 81, .call 18 [.t 79, .c (.nl 3), .t 80], none⟩,
      ⟨some 77, .mov (.t 81), none⟩,
      ⟨some 82, .ext 0 (.t 77), none⟩,
      ⟨some 83, .ext 1 (.t 77), none⟩,
      ⟨some 14, .alc 36 [.str [], .int .i64 0, .int .i64 0], none⟩,
      ⟨none, .st 3 (.t 14) (.t 82), none⟩,
      ⟨some 15, .mov (.t 83), none⟩])
    (.seq (.reg [⟨some 85, .fla 0 (.t 4), none⟩,
      ⟨some 86, .ld 1 false (.t 85), none⟩,
      ⟨some 87, .fla 1 (.t 4), none⟩,
      ⟨some 88, .ld 1 false (.t 87), none⟩,
      ⟨some 89, .mov (.t 5), none⟩,
      ⟨some 90, .call 18 [.t 86, .t 88, .t 89], none⟩,
      ⟨some 84, .mov (.t 90), none⟩,
      ⟨some 91, .ext 0 (.t 84), none⟩,
      ⟨some 92, .ext 1 (.t 84), none⟩,
      ⟨some 16, .alc 36 [.str [], .int .i64 0, .int .i64 0], none⟩,
      ⟨none, .st 3 (.t 16) (.t 91), none⟩,
      ⟨some 17, .mov (.t 92), none⟩])
    (.seq (.reg [⟨some 93, .call 19 [], none⟩,
      ⟨some 94, .mov (.t 93), none⟩,
      ⟨some 95, .mov (.t 8), (some (94, true))⟩,
      ⟨some 96, .bin .neq (.t 95) (.c (.int .i64 0)), (some (94, true))⟩,
      ⟨some 97, .mov (.t 96), (some (94, true))⟩,
      ⟨some 98, .mov (.t 7), (some (97, false))⟩,
      ⟨some 99, .mov (.t 15), (some (97, false))⟩,
      ⟨some 100, .bnb .eql (.t 98) (.t 99), (some (97, false))⟩,
      ⟨some 101, .mov (.t 100), (some (97, false))⟩,
      ⟨some 102, .ld 3 true (.t 6), (some (101, true))⟩,
      ⟨some 103, .ld 3 true (.t 14), (some (101, true))⟩,
      ⟨some 104, .eqa false [.s, .i, .i] (.t 102) (.t 103), (some (101, true))⟩,
      ⟨some 105, .pick (.t 101) (.t 104) (.c (.bool false)), (some (97, false))⟩,
      ⟨some 106, .pick (.t 97) (.c (.bool true)) (.t 105), (some (94, true))⟩,
      ⟨some 107, .pick (.t 94) (.t 106) (.c (.bool false)), none⟩,
      ⟨some 108, .mov (.t 107), none⟩,
      ⟨some 109, .mov (.t 11), (some (108, true))⟩,
      ⟨some 110, .bin .neq (.t 109) (.c (.int .i64 0)), (some (108, true))⟩,
      ⟨some 111, .mov (.t 110), (some (108, true))⟩,
      ⟨some 112, .mov (.t 10), (some (111, false))⟩,
      ⟨some 113, .mov (.t 17), (some (111, false))⟩,
      ⟨some 114, .bnb .eql (.t 112) (.t 113), (some (111, false))⟩,
      ⟨some 115, .mov (.t 114), (some (111, false))⟩,
      ⟨some 116, .ld 3 true (.t 9), (some (115, true))⟩,
      ⟨some 117, .ld 3 true (.t 16), (some (115, true))⟩,
      ⟨some 118, .eqa false [.s, .i, .i] (.t 116) (.t 117), (some (115, true))⟩,
      ⟨some 119, .pick (.t 115) (.t 118) (.c (.bool false)), (some (111, false))⟩,
      ⟨some 120, .pick (.t 111) (.c (.bool true)) (.t 119), (some (108, true))⟩,
      ⟨some 121, .pick (.t 108) (.t 120) (.c (.bool false)), none⟩,
      ⟨some 2, .mov (.t 121), none⟩])
    .ret))))))))))))))
def rs_chaselaw1_PartiesFound : List IRes := [.t 2]
theorem ck_chaselaw1_PartiesFound : chkF Tryz.prog Tryz.f3 ir_chaselaw1_PartiesFound rs_chaselaw1_PartiesFound 122 = true := by kernel_rfl

def mS : List (List UInt8) := [[97, 110, 110, 64, 102, 105, 114, 109, 46, 100, 101], [98, 111, 64, 102, 105, 114, 109, 46, 100, 101], [100, 101, 101, 64, 120, 46, 102, 105, 114, 109, 46, 100, 101], [113, 64, 121, 46, 120, 46, 102, 105, 114, 109, 46, 100, 101], [99, 121, 64, 101, 108, 115, 101, 46, 100, 101], [120]]
theorem mS_len : ∀ s ∈ mS, s.length ≤ 1000000 := by decide +kernel
theorem pS_len : ∀ s ∈ pS, s.length ≤ 1000000 := by decide +kernel
theorem dS_len : ∀ s ∈ dS, s.length ≤ 1000000 := by decide +kernel
theorem RoleOf_q (l : List Par) (m : List UInt8) (hl : l.length ≤ 1000000) (hb : ∀ p ∈ l, p.1.length ≤ 1000000) (hm : m.length ≤ 1000000) : ∃ q : Par × Bool × Int, PCall Tryz.prog E0 13 [.sl 3 (parE l), .str m] (· = .tup [parA q.1, .bool q.2.1, int q.2.2]) ∧ q.2.2 = firstE [peopleF l, whenE (!mailF m) 3] ∧ (q.2.2 = 0 → q.1 = (roleF l m).1 ∧ q.2.1 = (roleF l m).2) := by
  have h := RoleOf_ok l m hl hb hm
  by_cases h0 : firstE [peopleF l, whenE (!mailF m) 3] = 0
  · exact ⟨((roleF l m).1, (roleF l m).2, 0), h.mono (fun x hx => by rw [if_pos h0] at hx; exact hx), h0.symm, fun _ => ⟨rfl, rfl⟩⟩
  · exact ⟨(p00, false, firstE [peopleF l, whenE (!mailF m) 3]), h.mono (fun x hx => by rw [if_neg h0] at hx; exact hx), rfl, fun h => absurd h h0⟩
theorem Domains_q (l some' : List Par) (m : List UInt8) (hl : l.length ≤ 1000000) (hb : ∀ p ∈ l, p.1.length ≤ 1000000) (hl2 : some'.length ≤ 1000000) (hb2 : ∀ p ∈ some', p.1.length ≤ 1000000) (hm : m.length ≤ 1000000) : ∃ q : Par × Bool × Int, PCall Tryz.prog E0 14 [.sl 3 (parE l), .sl 3 (parE some'), .str m] (· = .tup [parA q.1, .bool q.2.1, int q.2.2]) ∧ q.2.2 = domainsErr l some' m ∧ (q.2.2 = 0 → q.1 = (partyF l some' m).1 ∧ q.2.1 = (partyF l some' m).2) := by
  have h := Domains_ok l some' m hl hb hl2 hb2 hm
  by_cases h0 : domainsErr l some' m = 0
  · exact ⟨((partyF l some' m).1, (partyF l some' m).2, 0), h.mono (fun x hx => by rw [if_pos h0] at hx; exact hx), h0.symm, fun _ => ⟨rfl, rfl⟩⟩
  · exact ⟨(p00, false, domainsErr l some' m), h.mono (fun x hx => by rw [if_neg h0] at hx; exact hx), rfl, fun h => absurd h h0⟩
theorem mail_x : mailF (xAt []) = false := by decide +kernel
theorem domains_good {l : List Par} (h : domainsF l = 0) : (∀ d ∈ l, d.1 ≠ []) ∧ ∀ d ∈ l, ∀ e ∈ l, d.1 = e.1 → d = e := by
  have hE : ∀ k, k < l.length → domainE l k = 0 := by
    unfold domainsF at h
    split at h
    · cases h
    · exact fun k hk => firstE_zero h _ (List.mem_of_getElem? (tabE_get (domainE l) hk))
  have hno : ∀ (i k : Nat) (d e : Par), i < k → l[i]? = some d → l[k]? = some e → d.1 ≠ e.1 := by
    intro i k d e hik hd he hn
    have hk := (List.getElem?_eq_some_iff.1 he).1
    have h2 := whenE_zero (by decide) (firstE_zero (hE k hk) (whenE (twiceB l k) 6) (by simp))
    rw [twiceB, List.any_eq_false] at h2
    refine h2 d ?_ ?_
    · exact List.mem_of_getElem? (show (l.take k)[i]? = some d by rw [List.getElem?_take, if_pos hik]; exact hd)
    · simp [List.getD, he, hn]
  refine ⟨fun d hd hn => ?_, fun d hd e he hn => ?_⟩
  · obtain ⟨k, hk⟩ := List.getElem?_of_mem hd
    have h1 := whenE_zero (by decide) (firstE_zero (hE k (List.getElem?_eq_some_iff.1 hk).1) (whenE (!mailF (xAt (l.getD k p00).1)) 3) (by simp))
    have : l.getD k p00 = d := by simp [List.getD, hk]
    rw [this, hn, mail_x] at h1
    cases h1
  · obtain ⟨i, hi⟩ := List.getElem?_of_mem hd
    obtain ⟨k, hk⟩ := List.getElem?_of_mem he
    rcases Nat.lt_trichotomy i k with h1 | h1 | h1
    · exact absurd hn (hno i k d e h1 hi hk)
    · subst h1; rw [hi] at hk; cases hk; rfl
    · exact absurd hn.symm (hno k i e d h1 hk hi)
theorem partyR_nil (l : List Par) (m : List UInt8) : partyR l [] m = roleF l m := by
  have hr : roleF l m = match findN l m with | some p => (p, true) | none => (p00, false) := rfl
  rw [partyR, hr]
  cases findN l m with
  | some p => rfl
  | none =>
    simp only
    have : ∀ n s, refD [] n s = none := by
      intro n
      induction n with
      | zero => intro s; rfl
      | succ n ih => intro s; rw [refD_succ]; simp only [findN, List.find?_nil, ih]; split <;> rfl
    rw [this]
theorem partiesFound_ok (z : List Int) (hl : z.length ≤ 9223372036854775807) : PCall Tryz.prog E0 3 [ints z] (· = .bool true) := by
  refine pcallF mixed Tryz.func3 ck_chaselaw1_PartiesFound ?_
  simp only [a0, l0, OS.ao, List.map_cons, List.map_nil, List.length_cons, List.length_nil, List.cons_append, List.nil_append, Nat.reduceSub, Nat.reduceAdd, List.replicate_succ, List.replicate_zero, ir_chaselaw1_PartiesFound, rs_chaselaw1_PartiesFound, ZZ, FnG_some, IsnK_some, Za, Zb, Zc, Zd, Ze, Zf, Zg, Zh, rd, AV.un, AV.unA, AV.ad, Zi, Zj, Zk, Zl, Zm, Zn, Zo, Zp, Zq, Zr, Zs, Zt, Zu, Zv, Zw, Zx, Zy, Zz, Zaa, Zab, Zac, Zad, Zae, Zaf, Zag, Zah, Zai, Zaj, Zak, Zal, Zam, Zan, wk1, wk, Zao, Zap, Zaq, Zar, Zas, Zat, Zau, Zav, AV.kill, AO.kill, AV.thaw, AO.thaw, Zaw, Zax, Zay, Zaz, Zba, Zbb, Zbc, Zbd, Zbe, ite_true, ite_false, reduceCtorEq, Nat.reduceAdd, Nat.reduceMul, Nat.reduceLeDiff, Nat.reduceLT, Nat.reduceEqDiff, forall_const]
  simp only [ints, ZZ, FnG_some, IsnK_some, Za, Zb, Zc, Zd, Ze, Zf, Zg, Zh, rd, AV.un, AV.unA, AV.ad, Zi, Zj, Zk, Zl, Zm, Zn, Zo, Zp, Zq, Zr, Zs, Zt, Zu, Zv, Zw, Zx, Zy, Zz, Zaa, Zab, Zac, Zad, Zae, Zaf, Zag, Zah, Zai, Zaj, Zak, Zal, Zam, Zan, wk1, wk, Zao, Zap, Zaq, Zar, Zas, Zat, Zau, Zav, AV.kill, AO.kill, AV.thaw, AO.thaw, Zaw, Zax, Zay, Zaz, Zba, Zbb, Zbc, Zbd, Zbe, ite_true, ite_false, reduceCtorEq, Nat.reduceAdd, Nat.reduceMul, Nat.reduceLeDiff, Nat.reduceLT, Nat.reduceEqDiff, forall_const]
  refine useS (k := .l 20) (Circle_ok z 0 (by omega) hl) rfl rfl rfl (by simp only [ZZ, FnG_some, IsnK_some, Za, Zb, Zc, Zd, Ze, Zf, Zg, Zh, rd, AV.un, AV.unA, AV.ad, Zi, Zj, Zk, Zl, Zm, Zn, Zo, Zp, Zq, Zr, Zs, Zt, Zu, Zv, Zw, Zx, Zy, Zz, Zaa, Zab, Zac, Zad, Zae, Zaf, Zag, Zah, Zai, Zaj, Zak, Zal, Zam, Zan, wk1, wk, Zao, Zap, Zaq, Zar, Zas, Zat, Zau, Zav, AV.kill, AO.kill, AV.thaw, AO.thaw, Zaw, Zax, Zay, Zaz, Zba, Zbb, Zbc, Zbd, Zbe, ite_true, ite_false, reduceCtorEq, Nat.reduceAdd, Nat.reduceMul, Nat.reduceLeDiff, Nat.reduceLT, Nat.reduceEqDiff, forall_const]) ?_
  rintro x cs' ⟨P, D, Ts, X, k1, hC, rfl, rfl, hk1⟩
  simp only [circ, strs, show P.map par = parE P from rfl, show D.map par = parE D from rfl]
  simp only [ZZ, FnG_some, IsnK_some, Za, Zb, Zc, Zd, Ze, Zf, Zg, Zh, rd, AV.un, AV.unA, AV.ad, Zi, Zj, Zk, Zl, Zm, Zn, Zo, Zp, Zq, Zr, Zs, Zt, Zu, Zv, Zw, Zx, Zy, Zz, Zaa, Zab, Zac, Zad, Zae, Zaf, Zag, Zah, Zai, Zaj, Zak, Zal, Zam, Zan, wk1, wk, Zao, Zap, Zaq, Zar, Zas, Zat, Zau, Zav, AV.kill, AO.kill, AV.thaw, AO.thaw, Zaw, Zax, Zay, Zaz, Zba, Zbb, Zbc, Zbd, Zbe, ite_true, ite_false, reduceCtorEq, Nat.reduceAdd, Nat.reduceMul, Nat.reduceLeDiff, Nat.reduceLT, Nat.reduceEqDiff, forall_const]
  refine useS (k := .l 20) (One_ok z k1 mS (by omega) hl (by decide) (by decide)) rfl rfl rfl (by simp only [ZZ, FnG_some, IsnK_some, Za, Zb, Zc, Zd, Ze, Zf, Zg, Zh, rd, AV.un, AV.unA, AV.ad, Zi, Zj, Zk, Zl, Zm, Zn, Zo, Zp, Zq, Zr, Zs, Zt, Zu, Zv, Zw, Zx, Zy, Zz, Zaa, Zab, Zac, Zad, Zae, Zaf, Zag, Zah, Zai, Zaj, Zak, Zal, Zam, Zan, wk1, wk, Zao, Zap, Zaq, Zar, Zas, Zat, Zau, Zav, AV.kill, AO.kill, AV.thaw, AO.thaw, Zaw, Zax, Zay, Zaz, Zba, Zbb, Zbc, Zbd, Zbe, ite_true, ite_false, reduceCtorEq, Nat.reduceAdd, Nat.reduceMul, Nat.reduceLeDiff, Nat.reduceLT, Nat.reduceEqDiff, forall_const]) ?_
  rintro x cs' ⟨m, rfl, hmS, rfl⟩
  have hm := mS_len m hmS
  clear hmS
  have hPl : P.length ≤ 1000000 := by have := hC.1; omega
  have hDl : D.length ≤ 1000000 := by have := hC.2.2.1; omega
  have hPb : ∀ p ∈ P, p.1.length ≤ 1000000 := fun p hp => pS_len _ (hC.2.1 p hp).1
  have hDb : ∀ p ∈ D, p.1.length ≤ 1000000 := fun p hp => dS_len _ (hC.2.2.2.1 p hp).1
  clear hC
  simp only [ZZ, FnG_some, IsnK_some, Za, Zb, Zc, Zd, Ze, Zf, Zg, Zh, rd, AV.un, AV.unA, AV.ad, Zi, Zj, Zk, Zl, Zm, Zn, Zo, Zp, Zq, Zr, Zs, Zt, Zu, Zv, Zw, Zx, Zy, Zz, Zaa, Zab, Zac, Zad, Zae, Zaf, Zag, Zah, Zai, Zaj, Zak, Zal, Zam, Zan, wk1, wk, Zao, Zap, Zaq, Zar, Zas, Zat, Zau, Zav, AV.kill, AO.kill, AV.thaw, AO.thaw, Zaw, Zax, Zay, Zaz, Zba, Zbb, Zbc, Zbd, Zbe, ite_true, ite_false, reduceCtorEq, Nat.reduceAdd, Nat.reduceMul, Nat.reduceLeDiff, Nat.reduceLT, Nat.reduceEqDiff, forall_const]
  refine drg2 (x1 := int (peopleF P)) (x2 := int (peopleF P)) ?_
  simp only [ZZ, FnG_some, IsnK_some, Za, Zb, Zc, Zd, Ze, Zf, Zg, Zh, rd, AV.un, AV.unA, AV.ad, Zi, Zj, Zk, Zl, Zm, Zn, Zo, Zp, Zq, Zr, Zs, Zt, Zu, Zv, Zw, Zx, Zy, Zz, Zaa, Zab, Zac, Zad, Zae, Zaf, Zag, Zah, Zai, Zaj, Zak, Zal, Zam, Zan, wk1, wk, Zao, Zap, Zaq, Zar, Zas, Zat, Zau, Zav, AV.kill, AO.kill, AV.thaw, AO.thaw, Zaw, Zax, Zay, Zaz, Zba, Zbb, Zbc, Zbd, Zbe, ite_true, ite_false, reduceCtorEq, Nat.reduceAdd, Nat.reduceMul, Nat.reduceLeDiff, Nat.reduceLT, Nat.reduceEqDiff, forall_const]
  ((repeat' (with_reducible apply And.intro)) <;> try (first | exact usep (CheckPeople_ok P hPl hPb) rfl (.inl rfl) | exact usep (PeopleFault_ok P hPl hPb) rfl (.inl rfl) | (first | first | assumption | trivial | exact (fun hq => by rw [hq]; rfl) | exact i64_of (by omega) (by omega) | omega | (simp; done) | (simp; omega) | (intro hsc; have hs0 := hsc; (try have hsd := of_decide_eq_true hsc); (try simp only [Bool.not_eq_true', Bool.or_eq_false_iff, Bool.and_eq_true, Bool.or_eq_true, decide_eq_true_eq, decide_eq_false_iff_not] at hsc); (repeat' (with_reducible apply And.intro)) <;> (first | assumption | trivial | exact (fun hq => by rw [hq]; rfl) | exact i64_of (by omega) (by omega) | omega | (simp; done) | (simp; omega) | (intro hse; simp [hse, hs0]; done) | (intro hse; simp only [hse, hs0, Bool.true_and, Bool.and_true, Bool.not_false, Bool.not_true, Bool.and_self]; done))))))
  refine br (fun h => by simp at h) ?_
  intro _
  simp only [ZZ, FnG_some, IsnK_some, Za, Zb, Zc, Zd, Ze, Zf, Zg, Zh, rd, AV.un, AV.unA, AV.ad, Zi, Zj, Zk, Zl, Zm, Zn, Zo, Zp, Zq, Zr, Zs, Zt, Zu, Zv, Zw, Zx, Zy, Zz, Zaa, Zab, Zac, Zad, Zae, Zaf, Zag, Zah, Zai, Zaj, Zak, Zal, Zam, Zan, wk1, wk, Zao, Zap, Zaq, Zar, Zas, Zat, Zau, Zav, AV.kill, AO.kill, AV.thaw, AO.thaw, Zaw, Zax, Zay, Zaz, Zba, Zbb, Zbc, Zbd, Zbe, ite_true, ite_false, reduceCtorEq, Nat.reduceAdd, Nat.reduceMul, Nat.reduceLeDiff, Nat.reduceLT, Nat.reduceEqDiff, forall_const]
  obtain ⟨q, hq, hq1, hq2⟩ := RoleOf_q P m hPl hPb hm
  refine use1 hq rfl (.inl rfl) ?_
  simp only [parA, par]
  simp only [ZZ, FnG_some, IsnK_some, Za, Zb, Zc, Zd, Ze, Zf, Zg, Zh, rd, AV.un, AV.unA, AV.ad, Zi, Zj, Zk, Zl, Zm, Zn, Zo, Zp, Zq, Zr, Zs, Zt, Zu, Zv, Zw, Zx, Zy, Zz, Zaa, Zab, Zac, Zad, Zae, Zaf, Zag, Zah, Zai, Zaj, Zak, Zal, Zam, Zan, wk1, wk, Zao, Zap, Zaq, Zar, Zas, Zat, Zau, Zav, AV.kill, AO.kill, AV.thaw, AO.thaw, Zaw, Zax, Zay, Zaz, Zba, Zbb, Zbc, Zbd, Zbe, ite_true, ite_false, reduceCtorEq, Nat.reduceAdd, Nat.reduceMul, Nat.reduceLeDiff, Nat.reduceLT, Nat.reduceEqDiff, forall_const]
  obtain ⟨r, hr, hr1, hr2⟩ := Domains_q P D m hPl hPb hDl hDb hm
  refine use1 hr rfl (.inl rfl) ?_
  simp only [parA, par]
  simp only [ZZ, FnG_some, IsnK_some, Za, Zb, Zc, Zd, Ze, Zf, Zg, Zh, rd, AV.un, AV.unA, AV.ad, Zi, Zj, Zk, Zl, Zm, Zn, Zo, Zp, Zq, Zr, Zs, Zt, Zu, Zv, Zw, Zx, Zy, Zz, Zaa, Zab, Zac, Zad, Zae, Zaf, Zag, Zah, Zai, Zaj, Zak, Zal, Zam, Zan, wk1, wk, Zao, Zap, Zaq, Zar, Zas, Zat, Zau, Zav, AV.kill, AO.kill, AV.thaw, AO.thaw, Zaw, Zax, Zay, Zaz, Zba, Zbb, Zbc, Zbd, Zbe, ite_true, ite_false, reduceCtorEq, Nat.reduceAdd, Nat.reduceMul, Nat.reduceLeDiff, Nat.reduceLT, Nat.reduceEqDiff, forall_const]
  refine use1 (PeopleFault_ok P hPl hPb) rfl (.inl rfl) ?_
  simp only [ZZ, FnG_some, IsnK_some, Za, Zb, Zc, Zd, Ze, Zf, Zg, Zh, rd, AV.un, AV.unA, AV.ad, Zi, Zj, Zk, Zl, Zm, Zn, Zo, Zp, Zq, Zr, Zs, Zt, Zu, Zv, Zw, Zx, Zy, Zz, Zaa, Zab, Zac, Zad, Zae, Zaf, Zag, Zah, Zai, Zaj, Zak, Zal, Zam, Zan, wk1, wk, Zao, Zap, Zaq, Zar, Zas, Zat, Zau, Zav, AV.kill, AO.kill, AV.thaw, AO.thaw, Zaw, Zax, Zay, Zaz, Zba, Zbb, Zbc, Zbd, Zbe, ite_true, ite_false, reduceCtorEq, Nat.reduceAdd, Nat.reduceMul, Nat.reduceLeDiff, Nat.reduceLT, Nat.reduceEqDiff, forall_const]
  refine use1 (DomainsFault_ok D hDl hDb) rfl (.inl rfl) ?_
  simp only [ZZ, FnG_some, IsnK_some, Za, Zb, Zc, Zd, Ze, Zf, Zg, Zh, rd, AV.un, AV.unA, AV.ad, Zi, Zj, Zk, Zl, Zm, Zn, Zo, Zp, Zq, Zr, Zs, Zt, Zu, Zv, Zw, Zx, Zy, Zz, Zaa, Zab, Zac, Zad, Zae, Zaf, Zag, Zah, Zai, Zaj, Zak, Zal, Zam, Zan, wk1, wk, Zao, Zap, Zaq, Zar, Zas, Zat, Zau, Zav, AV.kill, AO.kill, AV.thaw, AO.thaw, Zaw, Zax, Zay, Zaz, Zba, Zbb, Zbc, Zbd, Zbe, ite_true, ite_false, reduceCtorEq, Nat.reduceAdd, Nat.reduceMul, Nat.reduceLeDiff, Nat.reduceLT, Nat.reduceEqDiff, forall_const]
  refine use1 (Or_ok [peopleF P, domainsF D] (by simp)) rfl (.inl rfl) ?_
  simp only [ZZ, FnG_some, IsnK_some, Za, Zb, Zc, Zd, Ze, Zf, Zg, Zh, rd, AV.un, AV.unA, AV.ad, Zi, Zj, Zk, Zl, Zm, Zn, Zo, Zp, Zq, Zr, Zs, Zt, Zu, Zv, Zw, Zx, Zy, Zz, Zaa, Zab, Zac, Zad, Zae, Zaf, Zag, Zah, Zai, Zaj, Zak, Zal, Zam, Zan, wk1, wk, Zao, Zap, Zaq, Zar, Zas, Zat, Zau, Zav, AV.kill, AO.kill, AV.thaw, AO.thaw, Zaw, Zax, Zay, Zaz, Zba, Zbb, Zbc, Zbd, Zbe, ite_true, ite_false, reduceCtorEq, Nat.reduceAdd, Nat.reduceMul, Nat.reduceLeDiff, Nat.reduceLT, Nat.reduceEqDiff, forall_const]
  refine use1 (MailOf_ok m (by omega)) rfl (.inl rfl) ?_
  simp only [ZZ, FnG_some, IsnK_some, Za, Zb, Zc, Zd, Ze, Zf, Zg, Zh, rd, AV.un, AV.unA, AV.ad, Zi, Zj, Zk, Zl, Zm, Zn, Zo, Zp, Zq, Zr, Zs, Zt, Zu, Zv, Zw, Zx, Zy, Zz, Zaa, Zab, Zac, Zad, Zae, Zaf, Zag, Zah, Zai, Zaj, Zak, Zal, Zam, Zan, wk1, wk, Zao, Zap, Zaq, Zar, Zas, Zat, Zau, Zav, AV.kill, AO.kill, AV.thaw, AO.thaw, Zaw, Zax, Zay, Zaz, Zba, Zbb, Zbc, Zbd, Zbe, ite_true, ite_false, reduceCtorEq, Nat.reduceAdd, Nat.reduceMul, Nat.reduceLeDiff, Nat.reduceLT, Nat.reduceEqDiff, forall_const]
  have hpo := PartyOf_ok P D m hPl hDl hDb hm
  have hpo0 := PartyOf_ok P [] m hPl (by simp) (by simp) hm
  have hsame : r.2.2 = 0 → partyF P D m = partyR P D m := by
    intro h0
    rw [hr1] at h0
    have hd := domains_good (firstE_zero h0 (domainsF D) (by simp))
    exact party_same m hd.1 hd.2
  rw [partyR_nil] at hpo0
  have he2 : r.2.2 = firstE [firstE [peopleF P, domainsF D], whenE (!mailF m) 3] := by
    rw [hr1, domainsErr]
    by_cases h1 : peopleF P = 0 <;> by_cases h2 : domainsF D = 0 <;> simp [firstE, h1, h2]
  refine br_join (fun fr L => fr = [.any, .any, .any, .any, .adr (.l 4) 0, .p (.str m), .adr (.l 6) 0, .p (.bool q.2.1), .p (int q.2.2), .adr (.l 9) 0, .p (.bool r.2.1), .p (int r.2.2), .p (int q.2.2), .p (int r.2.2), .any, .any, .any, .any, .any, .any, .any, .any, .any, .any, .any, .any, .any, .any, .any, .any, .any, .any, .any, .any, .any, .any, .any, .any, .any, .any, .any, .any, .any, .any, .any, .any, .any, .any, .any, .any, .any, .any, .any, .any, .any, .any, .any, .any, .any, .any, .any, .any, .any, .any, .any, .any, .any, .any, .any, .any, .any, .any, .any, .any, .any, .any, .any, .any, .any, .any, .any, .any, .any, .any, .any, .any, .any, .any, .any, .any, .any, .any, .any, .any, .any, .any, .any, .any, .any, .any, .any, .any, .any, .any, .any, .any, .any, .any, .any, .any, .any, .any, .any, .any, .any, .any, .any, .any, .any, .any, .any, .any] ∧ L = [(.l 4, .box [.p (.sl 3 (parE P)), .p (.sl 3 (parE D)), .p (.sl 1 (Ts.map fun x => [.str x])), .p (.sl 1 (X.map fun x => [.str x]))] tCircle), (.l 6, .box [.p (.str q.1.1), .p (int q.1.2.1), .p (int q.1.2.2)] tParty), (.l 9, .box [.p (.str r.1.1), .p (int r.1.2.1), .p (int r.1.2.2)] tParty)]) ?_ ?_ ?_
  · intro hmm
    have hmm : mailF m = false := by rwa [Bool.not_eq_true'] at hmm
    simp only [ZZ, FnG_some, IsnK_some, Za, Zb, Zc, Zd, Ze, Zf, Zg, Zh, rd, AV.un, AV.unA, AV.ad, Zi, Zj, Zk, Zl, Zm, Zn, Zo, Zp, Zq, Zr, Zs, Zt, Zu, Zv, Zw, Zx, Zy, Zz, Zaa, Zab, Zac, Zad, Zae, Zaf, Zag, Zah, Zai, Zaj, Zak, Zal, Zam, Zan, wk1, wk, Zao, Zap, Zaq, Zar, Zas, Zat, Zau, Zav, AV.kill, AO.kill, AV.thaw, AO.thaw, Zaw, Zax, Zay, Zaz, Zba, Zbb, Zbc, Zbd, Zbe, ite_true, ite_false, reduceCtorEq, Nat.reduceAdd, Nat.reduceMul, Nat.reduceLeDiff, Nat.reduceLT, Nat.reduceEqDiff, forall_const]
    refine use1 (Or_ok [peopleF P, 3] (by simp)) rfl (.inl rfl) ?_
    simp only [ZZ, FnG_some, IsnK_some, Za, Zb, Zc, Zd, Ze, Zf, Zg, Zh, rd, AV.un, AV.unA, AV.ad, Zi, Zj, Zk, Zl, Zm, Zn, Zo, Zp, Zq, Zr, Zs, Zt, Zu, Zv, Zw, Zx, Zy, Zz, Zaa, Zab, Zac, Zad, Zae, Zaf, Zag, Zah, Zai, Zaj, Zak, Zal, Zam, Zan, wk1, wk, Zao, Zap, Zaq, Zar, Zas, Zat, Zau, Zav, AV.kill, AO.kill, AV.thaw, AO.thaw, Zaw, Zax, Zay, Zaz, Zba, Zbb, Zbc, Zbd, Zbe, ite_true, ite_false, reduceCtorEq, Nat.reduceAdd, Nat.reduceMul, Nat.reduceLeDiff, Nat.reduceLT, Nat.reduceEqDiff, forall_const]
    refine use1 (Or_ok [firstE [peopleF P, domainsF D], 3] (by simp)) rfl (.inl rfl) ?_
    have e1 : firstE [peopleF P, 3] = q.2.2 := by rw [hq1, hmm]; rfl
    have e2 : firstE [firstE [peopleF P, domainsF D], 3] = r.2.2 := by rw [he2, hmm]; rfl
    rw [e1, e2]
    simp only [ZZ, FnG_some, IsnK_some, Za, Zb, Zc, Zd, Ze, Zf, Zg, Zh, rd, AV.un, AV.unA, AV.ad, Zi, Zj, Zk, Zl, Zm, Zn, Zo, Zp, Zq, Zr, Zs, Zt, Zu, Zv, Zw, Zx, Zy, Zz, Zaa, Zab, Zac, Zad, Zae, Zaf, Zag, Zah, Zai, Zaj, Zak, Zal, Zam, Zan, wk1, wk, Zao, Zap, Zaq, Zar, Zas, Zat, Zau, Zav, AV.kill, AO.kill, AV.thaw, AO.thaw, Zaw, Zax, Zay, Zaz, Zba, Zbb, Zbc, Zbd, Zbe, ite_true, ite_false, reduceCtorEq, Nat.reduceAdd, Nat.reduceMul, Nat.reduceLeDiff, Nat.reduceLT, Nat.reduceEqDiff, forall_const]
    exact to_mid _ _ (by (simp only [ZZ, FnG_some, IsnK_some, Za, Zb, Zc, Zd, Ze, Zf, Zg, Zh, rd, AV.un, AV.unA, AV.ad, Zi, Zj, Zk, Zl, Zm, Zn, Zo, Zp, Zq, Zr, Zs, Zt, Zu, Zv, Zw, Zx, Zy, Zz, Zaa, Zab, Zac, Zad, Zae, Zaf, Zag, Zah, Zai, Zaj, Zak, Zal, Zam, Zan, wk1, wk, Zao, Zap, Zaq, Zar, Zas, Zat, Zau, Zav, AV.kill, AO.kill, AV.thaw, AO.thaw, Zaw, Zax, Zay, Zaz, Zba, Zbb, Zbc, Zbd, Zbe, ite_true, ite_false, reduceCtorEq, Nat.reduceAdd, Nat.reduceMul, Nat.reduceLeDiff, Nat.reduceLT, Nat.reduceEqDiff, forall_const]; try trivial)) (by simp only [ZZ, FnG_some, IsnK_some, Za, Zb, Zc, Zd, Ze, Zf, Zg, Zh, rd, AV.un, AV.unA, AV.ad, Zi, Zj, Zk, Zl, Zm, Zn, Zo, Zp, Zq, Zr, Zs, Zt, Zu, Zv, Zw, Zx, Zy, Zz, Zaa, Zab, Zac, Zad, Zae, Zaf, Zag, Zah, Zai, Zaj, Zak, Zal, Zam, Zan, wk1, wk, Zao, Zap, Zaq, Zar, Zas, Zat, Zau, Zav, AV.kill, AO.kill, AV.thaw, AO.thaw, Zaw, Zax, Zay, Zaz, Zba, Zbb, Zbc, Zbd, Zbe, ite_true, ite_false, reduceCtorEq, Nat.reduceAdd, Nat.reduceMul, Nat.reduceLeDiff, Nat.reduceLT, Nat.reduceEqDiff, forall_const]) ⟨rfl, rfl⟩
  · intro hmm
    have hmm : mailF m = true := by rwa [Bool.not_eq_false'] at hmm
    simp only [ZZ, FnG_some, IsnK_some, Za, Zb, Zc, Zd, Ze, Zf, Zg, Zh, rd, AV.un, AV.unA, AV.ad, Zi, Zj, Zk, Zl, Zm, Zn, Zo, Zp, Zq, Zr, Zs, Zt, Zu, Zv, Zw, Zx, Zy, Zz, Zaa, Zab, Zac, Zad, Zae, Zaf, Zag, Zah, Zai, Zaj, Zak, Zal, Zam, Zan, wk1, wk, Zao, Zap, Zaq, Zar, Zas, Zat, Zau, Zav, AV.kill, AO.kill, AV.thaw, AO.thaw, Zaw, Zax, Zay, Zaz, Zba, Zbb, Zbc, Zbd, Zbe, ite_true, ite_false, reduceCtorEq, Nat.reduceAdd, Nat.reduceMul, Nat.reduceLeDiff, Nat.reduceLT, Nat.reduceEqDiff, forall_const]
    have e1 : peopleF P = q.2.2 := by rw [hq1, hmm]; simp [firstE, whenE]
    have e2 : firstE [peopleF P, domainsF D] = r.2.2 := by rw [he2, hmm]; simp [firstE, whenE]
    rw [e2, e1]
    exact to_mid _ _ (by (simp only [ZZ, FnG_some, IsnK_some, Za, Zb, Zc, Zd, Ze, Zf, Zg, Zh, rd, AV.un, AV.unA, AV.ad, Zi, Zj, Zk, Zl, Zm, Zn, Zo, Zp, Zq, Zr, Zs, Zt, Zu, Zv, Zw, Zx, Zy, Zz, Zaa, Zab, Zac, Zad, Zae, Zaf, Zag, Zah, Zai, Zaj, Zak, Zal, Zam, Zan, wk1, wk, Zao, Zap, Zaq, Zar, Zas, Zat, Zau, Zav, AV.kill, AO.kill, AV.thaw, AO.thaw, Zaw, Zax, Zay, Zaz, Zba, Zbb, Zbc, Zbd, Zbe, ite_true, ite_false, reduceCtorEq, Nat.reduceAdd, Nat.reduceMul, Nat.reduceLeDiff, Nat.reduceLT, Nat.reduceEqDiff, forall_const]; try trivial)) (by simp only [ZZ, FnG_some, IsnK_some, Za, Zb, Zc, Zd, Ze, Zf, Zg, Zh, rd, AV.un, AV.unA, AV.ad, Zi, Zj, Zk, Zl, Zm, Zn, Zo, Zp, Zq, Zr, Zs, Zt, Zu, Zv, Zw, Zx, Zy, Zz, Zaa, Zab, Zac, Zad, Zae, Zaf, Zag, Zah, Zai, Zaj, Zak, Zal, Zam, Zan, wk1, wk, Zao, Zap, Zaq, Zar, Zas, Zat, Zau, Zav, AV.kill, AO.kill, AV.thaw, AO.thaw, Zaw, Zax, Zay, Zaz, Zba, Zbb, Zbc, Zbd, Zbe, ite_true, ite_false, reduceCtorEq, Nat.reduceAdd, Nat.reduceMul, Nat.reduceLeDiff, Nat.reduceLT, Nat.reduceEqDiff, forall_const]) ⟨rfl, rfl⟩
  rintro fr L ⟨rfl, rfl⟩
  simp only [ZZ, FnG_some, IsnK_some, Za, Zb, Zc, Zd, Ze, Zf, Zg, Zh, rd, AV.un, AV.unA, AV.ad, Zi, Zj, Zk, Zl, Zm, Zn, Zo, Zp, Zq, Zr, Zs, Zt, Zu, Zv, Zw, Zx, Zy, Zz, Zaa, Zab, Zac, Zad, Zae, Zaf, Zag, Zah, Zai, Zaj, Zak, Zal, Zam, Zan, wk1, wk, Zao, Zap, Zaq, Zar, Zas, Zat, Zau, Zav, AV.kill, AO.kill, AV.thaw, AO.thaw, Zaw, Zax, Zay, Zaz, Zba, Zbb, Zbc, Zbd, Zbe, ite_true, ite_false, reduceCtorEq, Nat.reduceAdd, Nat.reduceMul, Nat.reduceLeDiff, Nat.reduceLT, Nat.reduceEqDiff, forall_const]
  refine ⟨fun h => by simp, ?_⟩
  refine br (fun h => by simp at h) ?_
  intro _
  simp only [ZZ, FnG_some, IsnK_some, Za, Zb, Zc, Zd, Ze, Zf, Zg, Zh, rd, AV.un, AV.unA, AV.ad, Zi, Zj, Zk, Zl, Zm, Zn, Zo, Zp, Zq, Zr, Zs, Zt, Zu, Zv, Zw, Zx, Zy, Zz, Zaa, Zab, Zac, Zad, Zae, Zaf, Zag, Zah, Zai, Zaj, Zak, Zal, Zam, Zan, wk1, wk, Zao, Zap, Zaq, Zar, Zas, Zat, Zau, Zav, AV.kill, AO.kill, AV.thaw, AO.thaw, Zaw, Zax, Zay, Zaz, Zba, Zbb, Zbc, Zbd, Zbe, ite_true, ite_false, reduceCtorEq, Nat.reduceAdd, Nat.reduceMul, Nat.reduceLeDiff, Nat.reduceLT, Nat.reduceEqDiff, forall_const]
  refine use1 hpo0 rfl (.inl rfl) ?_
  simp only [parA, par]
  simp only [ZZ, FnG_some, IsnK_some, Za, Zb, Zc, Zd, Ze, Zf, Zg, Zh, rd, AV.un, AV.unA, AV.ad, Zi, Zj, Zk, Zl, Zm, Zn, Zo, Zp, Zq, Zr, Zs, Zt, Zu, Zv, Zw, Zx, Zy, Zz, Zaa, Zab, Zac, Zad, Zae, Zaf, Zag, Zah, Zai, Zaj, Zak, Zal, Zam, Zan, wk1, wk, Zao, Zap, Zaq, Zar, Zas, Zat, Zau, Zav, AV.kill, AO.kill, AV.thaw, AO.thaw, Zaw, Zax, Zay, Zaz, Zba, Zbb, Zbc, Zbd, Zbe, ite_true, ite_false, reduceCtorEq, Nat.reduceAdd, Nat.reduceMul, Nat.reduceLeDiff, Nat.reduceLT, Nat.reduceEqDiff, forall_const]
  refine use1 hpo rfl (.inl rfl) ?_
  simp only [parA, par]
  simp only [ZZ, FnG_some, IsnK_some, Za, Zb, Zc, Zd, Ze, Zf, Zg, Zh, rd, AV.un, AV.unA, AV.ad, Zi, Zj, Zk, Zl, Zm, Zn, Zo, Zp, Zq, Zr, Zs, Zt, Zu, Zv, Zw, Zx, Zy, Zz, Zaa, Zab, Zac, Zad, Zae, Zaf, Zag, Zah, Zai, Zaj, Zak, Zal, Zam, Zan, wk1, wk, Zao, Zap, Zaq, Zar, Zas, Zat, Zau, Zav, AV.kill, AO.kill, AV.thaw, AO.thaw, Zaw, Zax, Zay, Zaz, Zba, Zbb, Zbc, Zbd, Zbe, ite_true, ite_false, reduceCtorEq, Nat.reduceAdd, Nat.reduceMul, Nat.reduceLeDiff, Nat.reduceLT, Nat.reduceEqDiff, forall_const]
  refine use1 privileges_ok rfl (.inl rfl) ?_
  simp only [ZZ, FnG_some, IsnK_some, Za, Zb, Zc, Zd, Ze, Zf, Zg, Zh, rd, AV.un, AV.unA, AV.ad, Zi, Zj, Zk, Zl, Zm, Zn, Zo, Zp, Zq, Zr, Zs, Zt, Zu, Zv, Zw, Zx, Zy, Zz, Zaa, Zab, Zac, Zad, Zae, Zaf, Zag, Zah, Zai, Zaj, Zak, Zal, Zam, Zan, wk1, wk, Zao, Zap, Zaq, Zar, Zas, Zat, Zau, Zav, AV.kill, AO.kill, AV.thaw, AO.thaw, Zaw, Zax, Zay, Zaz, Zba, Zbb, Zbc, Zbd, Zbe, ite_true, ite_false, reduceCtorEq, Nat.reduceAdd, Nat.reduceMul, Nat.reduceLeDiff, Nat.reduceLT, Nat.reduceEqDiff, forall_const]
  by_cases q0 : q.2.2 = 0 <;> by_cases r0 : r.2.2 = 0
  · obtain ⟨a1, a2⟩ := hq2 q0
    obtain ⟨b1, b2⟩ := hr2 r0
    rw [hsame r0] at b1 b2
    rw [a1, a2, b1, b2, q0, r0]
    simp
  · obtain ⟨a1, a2⟩ := hq2 q0
    rw [a1, a2, q0]
    simp [r0]
  · obtain ⟨b1, b2⟩ := hr2 r0
    rw [hsame r0] at b1 b2
    rw [b1, b2, r0]
    simp [q0]
  · simp [q0, r0]
theorem partiesFound_walk (a0 : Option Addr) (len0 cap0 : Nat) (z0 : List Int) (w : World) (h0 : IsRow .i64 w a0 len0 cap0 z0) (he : E0.ok w ∧ ∀ b, E0.bl b → b < w.heap.size) :
    Calls Tryz.prog 3 #[.slice a0 len0 cap0] w fun e w' => e = .returned (.bool true) ∧ Below w.heap.size w w' :=
  walk_of partiesFound_ok a0 len0 cap0 z0 w h0 he.1 he.2
end Go.Proofs.YtndjmidmfmcbkaaGreatDoor
