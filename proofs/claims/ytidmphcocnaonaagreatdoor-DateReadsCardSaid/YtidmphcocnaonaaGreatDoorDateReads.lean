
/- The law DateReads: its walk. -/
import Derived.Test.YtidmphcocnaonaaGreatDoorZ8
import Derived.Test.YtidmphcocnaonaaGreatDoorZ9
import Derived.Test.YtidmphcocnaonaaGreatDoorZ5
namespace Go.Proofs.YtidmphcocnaonaaGreatDoor
open Go.RowKit
set_option linter.unusedVariables false
set_option linter.unusedSimpArgs false
set_option linter.defProp false

/- paperchase/chaselaw1.DateReads -/
def ir_chaselaw1_DateReads : IC :=
  (.seq (.reg [⟨some 4, .mov (.c (.bool false)), none⟩])
    (.seq (.reg [⟨some 13, .mov (.t 0), none⟩,
      ⟨some 14, .bld [.nl 1, .int .i64 0] [(0, 1, .t 13)], none⟩,
      ⟨some 15, .box 25 (.t 14), none⟩,
      ⟨some 5, .mov (.t 15), none⟩])
    (.seq (.reg [⟨some 16, .mov (.t 5), none⟩,
      ⟨some 17, .call 27 [.t 16], none⟩,
      ⟨some 6, .mov (.t 17), none⟩])
    (.seq (.reg [⟨some 19, .mov (.t 6), none⟩,
      ⟨some 20, .call 28 [.t 19], none⟩,
      ⟨some 18, .mov (.t 20), none⟩,
      ⟨some 21, .ext 0 (.t 18), none⟩,
      ⟨some 22, .ext 1 (.t 18), none⟩,
      ⟨some 7, .mov (.t 21), none⟩,
      ⟨some 8, .mov (.t 22), none⟩])
    (.seq (.reg [⟨some 24, .mov (.t 6), none⟩,
      ⟨some 25, .call 29 [.t 24], none⟩,
      ⟨some 23, .mov (.t 25), none⟩,
      ⟨some 26, .ext 0 (.t 23), none⟩,
      ⟨some 27, .ext 1 (.t 23), none⟩,
      ⟨some 9, .mov (.t 26), none⟩,
      ⟨some 10, .mov (.t 27), none⟩])
    (.seq (.seq (.reg [⟨some 28, .mov (.t 8), none⟩,
      ⟨some 29, .mov (.t 10), none⟩,
      ⟨some 30, .bin .neq (.t 28) (.t 29), none⟩,
      ⟨some 31, .mov (.t 30), none⟩,
      ⟨some 32, .mov (.t 7), (some (31, false))⟩,
      ⟨some 33, .mov (.t 9), (some (31, false))⟩,
      ⟨some 34, .bin .neq (.t 32) (.t 33), (some (31, false))⟩,
      ⟨some 35, .pick (.t 31) (.c (.bool true)) (.t 34), none⟩])
    (.cond (.t 35) (.seq (.reg [⟨some 4, .mov (.c (.bool false)), none⟩])
    .ret) .skip))
    (.seq (.reg [⟨some 36, .mov (.t 1), none⟩,
      ⟨some 37, .call 30 [.t 36, .c (.int .i64 5761442)], none⟩,
      ⟨some 38, .bin .sub (.t 37) (.c (.int .i64 1)), none⟩,
      ⟨some 1, .mov (.t 38), none⟩])
    (.seq (.reg [⟨some 40, .mov (.t 1), none⟩,
      ⟨some 41, .call 31 [.t 40], none⟩,
      ⟨some 39, .mov (.t 41), none⟩,
      ⟨some 42, .ext 0 (.t 39), none⟩,
      ⟨some 43, .ext 1 (.t 39), none⟩,
      ⟨some 11, .mov (.t 42), none⟩,
      ⟨some 12, .mov (.t 43), none⟩])
    (.seq (.seq (.reg [⟨some 44, .mov (.t 1), none⟩,
      ⟨some 45, .call 32 [.t 44], none⟩,
      ⟨some 46, .not (.t 45), none⟩])
    (.cond (.t 46) (.seq (.reg [⟨some 47, .call 33 [], none⟩,
      ⟨some 48, .mov (.t 47), none⟩,
      ⟨some 49, .mov (.t 12), (some (48, true))⟩,
      ⟨some 50, .bin .eql (.t 49) (.c (.int .i64 1)), (some (48, true))⟩,
      ⟨some 51, .pick (.t 48) (.t 50) (.c (.bool false)), none⟩,
      ⟨some 4, .mov (.t 51), none⟩])
    .ret) .skip))
    (.seq (.reg [⟨some 52, .call 33 [], none⟩,
      ⟨some 53, .mov (.t 52), none⟩,
      ⟨some 54, .mov (.t 12), (some (53, true))⟩,
      ⟨some 55, .bin .eql (.t 54) (.c (.int .i64 0)), (some (53, true))⟩,
      ⟨some 56, .pick (.t 53) (.t 55) (.c (.bool false)), none⟩,
      ⟨some 57, .mov (.t 56), none⟩,
      ⟨some 58, .mov (.t 11), (some (57, true))⟩,
      ⟨some 59, .mov (.t 1), (some (57, true))⟩,
      ⟨some 60, .call 34 [.t 59], (some (57, true))⟩,
      ⟨some 61, .bin .eql (.t 58) (.t 60), (some (57, true))⟩,
      ⟨some 62, .pick (.t 57) (.t 61) (.c (.bool false)), none⟩,
      ⟨some 4, .mov (.t 62), none⟩])
    .ret))))))))))
def rs_chaselaw1_DateReads : List IRes := [.t 4]
theorem ck_chaselaw1_DateReads : chkF Tryz.prog Tryz.f5 ir_chaselaw1_DateReads rs_chaselaw1_DateReads 63 = true := by kernel_rfl

theorem dates_same (t : List UInt8) (ht : t.length ≤ 1000) : ∃ v e : Int, PCall Tryz.prog E5 28 [.str t] (· = .tup [int v, int e]) ∧ PCall Tryz.prog E5 29 [.str t] (· = .tup [int v, int e]) := by
  have h1 := Date_ok t ht
  have h2 := DateOf_ok t ht
  have h3 := date_eq (splF t 32)
  generalize dateT (splF t 32) = q at *
  generalize dateR (splF t 32) = r at *
  by_cases a1 : q.2 = false
  · rw [if_pos a1] at h1 h3
    rw [h3] at h2
    exact ⟨0, 9, h1, h2⟩
  · rw [if_neg a1] at h1 h3
    by_cases a2 : inE q.1 0 5761439 = true
    · rw [if_pos a2] at h1 h3
      rw [h3] at h2
      exact ⟨q.1, 0, h1, h2⟩
    · rw [if_neg a2] at h1 h3
      rw [h3] at h2
      exact ⟨0, 1, h1, h2⟩
set_option maxHeartbeats 4000000 in
set_option maxRecDepth 100000 in
theorem dateReads_ok (z : List Int) (av0 : Int) (hl : z.length ≤ 9223372036854775807) : PCall Tryz.prog E5 5 [ints z, int av0] (· = .bool true) := by
  refine pcallF mixed Tryz.func5 ck_chaselaw1_DateReads ?_
  simp only [a0, l0, OS.ao, List.map_cons, List.map_nil, List.length_cons, List.length_nil, List.cons_append, List.nil_append, Nat.reduceSub, Nat.reduceAdd, List.replicate_succ, List.replicate_zero, ir_chaselaw1_DateReads, rs_chaselaw1_DateReads, ZZ, YY, Ze, ite_true, ite_false, forall_const, reduceCtorEq, Nat.reduceAdd, Nat.reduceMul, Nat.reduceLeDiff, Nat.reduceLT, Nat.reduceEqDiff]
  simp only [ints, ZZ, YY, Ze, ite_true, ite_false, forall_const, reduceCtorEq, Nat.reduceAdd, Nat.reduceMul, Nat.reduceLeDiff, Nat.reduceLT, Nat.reduceEqDiff]
  refine useS (k := .l 15) (MDateText_ok z 0 (by omega) hl) rfl rfl rfl (by simp only [ZZ, YY, Ze, ite_true, ite_false, forall_const, reduceCtorEq, Nat.reduceAdd, Nat.reduceMul, Nat.reduceLeDiff, Nat.reduceLT, Nat.reduceEqDiff]) ?_
  rintro x cs' ⟨t, k1, rfl, ht, rfl, hk1⟩
  obtain ⟨v, e, h1, h2⟩ := dates_same t (by omega)
  simp only [ZZ, YY, Ze, ite_true, ite_false, forall_const, reduceCtorEq, Nat.reduceAdd, Nat.reduceMul, Nat.reduceLeDiff, Nat.reduceLT, Nat.reduceEqDiff]
  refine use1 h1 rfl (.inl rfl) ?_
  simp only [ZZ, YY, Ze, ite_true, ite_false, forall_const, reduceCtorEq, Nat.reduceAdd, Nat.reduceMul, Nat.reduceLeDiff, Nat.reduceLT, Nat.reduceEqDiff]
  refine use1 h2 rfl (.inl rfl) ?_
  simp only [ZZ, YY, Ze, ite_true, ite_false, forall_const, reduceCtorEq, Nat.reduceAdd, Nat.reduceMul, Nat.reduceLeDiff, Nat.reduceLT, Nat.reduceEqDiff]
  refine ⟨fun h => by simp, ?_⟩
  refine br (fun h => by simp at h) ?_
  intro _
  simp only [ZZ, YY, Ze, ite_true, ite_false, forall_const, reduceCtorEq, Nat.reduceAdd, Nat.reduceMul, Nat.reduceLeDiff, Nat.reduceLT, Nat.reduceEqDiff]
  refine use1 (Below_ok av0 5761442 (by decide)) rfl (.inl rfl) ?_
  have b1 := below_lo av0 5761442
  have b2 := below_hi av0 5761442 (by decide)
  obtain ⟨p, hp⟩ : ∃ p, p = below av0 5761442 - 1 := ⟨_, rfl⟩
  have hp1 : -1 ≤ p ∧ p ≤ 5761440 := by omega
  simp only [ZZ, YY, Ze, ite_true, ite_false, forall_const, reduceCtorEq, Nat.reduceAdd, Nat.reduceMul, Nat.reduceLeDiff, Nat.reduceLT, Nat.reduceEqDiff]
  rw [← hp]
  refine ⟨i64_of (by omega) (by omega), ?_⟩
  cases hin : inE p 0 5761439 with
  | false =>
    refine use1 (PrintDate_bad p hin) rfl (.inl rfl) ?_
    simp only [ZZ, YY, Ze, ite_true, ite_false, forall_const, reduceCtorEq, Nat.reduceAdd, Nat.reduceMul, Nat.reduceLeDiff, Nat.reduceLT, Nat.reduceEqDiff]
    refine use1 (MomentR_ok p) rfl (.inl rfl) ?_
    simp only [ZZ, YY, Ze, ite_true, ite_false, forall_const, reduceCtorEq, Nat.reduceAdd, Nat.reduceMul, Nat.reduceLeDiff, Nat.reduceLT, Nat.reduceEqDiff, hin]
    refine use1 (up5 threads_ok) rfl (.inl rfl) ?_
    simp only [ZZ, YY, Ze, ite_true, ite_false, forall_const, reduceCtorEq, Nat.reduceAdd, Nat.reduceMul, Nat.reduceLeDiff, Nat.reduceLT, Nat.reduceEqDiff]
    simp
  | true =>
    have hin2 := hin
    simp only [inE, Bool.and_eq_true, decide_eq_true_eq] at hin2
    obtain ⟨m, rfl⟩ : ∃ m : Nat, p = (m : Nat) := ⟨p.toNat, by omega⟩
    obtain ⟨i, hi1, hi2⟩ := Dn_ex (m / 1440)
    refine use1 (PrintDate_ok m i (by omega) hi1 hi2) rfl (.inl rfl) ?_
    simp only [ZZ, YY, Ze, ite_true, ite_false, forall_const, reduceCtorEq, Nat.reduceAdd, Nat.reduceMul, Nat.reduceLeDiff, Nat.reduceLT, Nat.reduceEqDiff]
    refine use1 (MomentR_ok (m : Nat)) rfl (.inl rfl) ?_
    simp only [ZZ, YY, Ze, ite_true, ite_false, forall_const, reduceCtorEq, Nat.reduceAdd, Nat.reduceMul, Nat.reduceLeDiff, Nat.reduceLT, Nat.reduceEqDiff, hin]
    refine use1 (up5 threads_ok) rfl (.inl rfl) ?_
    simp only [ZZ, YY, Ze, ite_true, ite_false, forall_const, reduceCtorEq, Nat.reduceAdd, Nat.reduceMul, Nat.reduceLeDiff, Nat.reduceLT, Nat.reduceEqDiff]
    refine useG (fun _ => DateText_ok m i (by omega) hi1 hi2) rfl (.inl rfl) ?_
    simp only [ZZ, YY, Ze, ite_true, ite_false, forall_const, reduceCtorEq, Nat.reduceAdd, Nat.reduceMul, Nat.reduceLeDiff, Nat.reduceLT, Nat.reduceEqDiff]
    simp
theorem walk_of2 {P : Program} {E : Envt} {f : FuncId} (n : Int) (h : ∀ z : List Int, z.length ≤ 9223372036854775807 → PCall P E f [ints z, int n] (· = .bool true)) (a0 : Option Addr) (len0 cap0 : Nat) (z0 : List Int) (w : World) (h0 : IsRow .i64 w a0 len0 cap0 z0) (hok : E.ok w) (hbl : ∀ b, E.bl b → b < w.heap.size) :
    Calls P f #[.slice a0 len0 cap0, .int .i64 n] w fun e w' => e = .returned (.bool true) ∧ Below w.heap.size w w' := by
  obtain ⟨h1, h2⟩ := isRow_rep h0
  refine (h _ h2 w (fun _ => False) [.slice a0 len0 cap0, .int .i64 n] (fun _ h => h.elim) hok hbl ⟨_, _, rfl, h1, _, [], rfl, rfl, rfl⟩).mono ?_
  rintro e w' ⟨v, x, rfl, rfl, hv, hg⟩
  refine ⟨by rw [PRep.bool_eq hv], ⟨hg.os, hg.tape, hg.output, hg.size, fun k hk => hg.block k hk (fun h => h)⟩⟩
theorem dateReads_walk (a0 : Option Addr) (len0 cap0 : Nat) (z0 : List Int) (n1 : Int) (w : World) (h0 : IsRow .i64 w a0 len0 cap0 z0) (he : E5.ok w ∧ ∀ b, E5.bl b → b < w.heap.size) :
    Calls Tryz.prog 5 #[.slice a0 len0 cap0, .int .i64 n1] w fun e w' => e = .returned (.bool true) ∧ Below w.heap.size w w' :=
  walk_of2 n1 (fun z hl => dateReads_ok z n1 hl) a0 len0 cap0 z0 w h0 he.1 he.2
end Go.Proofs.YtidmphcocnaonaaGreatDoor
