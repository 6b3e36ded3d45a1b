
/- The law SubjectReads: it returns true. -/
import Derived.Test.YtndjmidmfmcbkaaDoorM8
namespace Go.Proofs.YtndjmidmfmcbkaaDoor
open Go.RowKit
set_option linter.unusedVariables false
set_option linter.unusedSimpArgs false
set_option linter.defProp false

/- paperchase/chaselaw1.SubjectReads -/
def ir_chaselaw1_SubjectReads_L0 : IC :=
  (.seq (.reg [⟨some 21, .bin .lss (.t 20) (.t 19), none⟩])
    (.seq (.cond (.t 21) .skip (.exit 0))
    (.seq (.block 1 (.seq (.reg [⟨some 22, .ixa 1 (.t 18) (.t 20), none⟩,
      ⟨some 23, .ld 1 false (.t 22), none⟩,
      ⟨some 7, .mov (.t 23), none⟩])
    (.seq (.reg [⟨some 25, .mov (.t 7), none⟩,
      ⟨some 26, .call 28 [.t 25], none⟩,
      ⟨some 24, .mov (.t 26), none⟩,
      ⟨some 27, .ext 0 (.t 24), none⟩,
      ⟨some 28, .ext 1 (.t 24), none⟩,
      ⟨some 8, .mov (.t 27), none⟩,
      ⟨some 9, .mov (.t 28), none⟩])
    (.seq (.reg [⟨some 30, .mov (.t 7), none⟩,
      ⟨some 31, .call 29 [.t 30], none⟩,
      ⟨some 29, .mov (.t 31), none⟩,
      ⟨some 32, .ext 0 (.t 29), none⟩,
      ⟨some 33, .ext 1 (.t 29), none⟩,
      ⟨some 10, .mov (.t 32), none⟩,
      ⟨some 11, .mov (.t 33), none⟩])
    (.seq (.reg [⟨some 34, .mov (.t 8), none⟩,
      ⟨some 35, .mov (.t 10), none⟩,
      ⟨some 36, .bin .neq (.t 34) (.t 35), none⟩,
      ⟨some 37, .mov (.t 36), none⟩,
      ⟨some 38, .mov (.t 9), (some (37, false))⟩,
      ⟨some 39, .mov (.t 11), (some (37, false))⟩,
      ⟨some 40, .bin .neq (.t 38) (.t 39), (some (37, false))⟩,
      ⟨some 41, .pick (.t 37) (.c (.bool true)) (.t 40), none⟩])
    (.cond (.t 41) (.seq (.reg [⟨some 4, .mov (.c (.bool false)), none⟩])
    .ret) .skip))))))
    (.reg [⟨some 42, .bin .add (.t 20) (.c (.int .i64 1)), none⟩,
      ⟨some 20, .mov (.t 42), none⟩]))))
def ir_chaselaw1_SubjectReads : IC :=
  (.seq (.reg [⟨some 4, .mov (.c (.bool false)), none⟩])
    (.seq (.reg [⟨some 12, .mov (.t 0), none⟩,
      ⟨some 13, .bld [.nl 1, .int .i64 0] [(0, 1, .t 12)], none⟩,
      ⟨some 14, .box 25 (.t 13), none⟩,
      ⟨some 5, .mov (.t 14), none⟩])
    (.seq (.seq (.reg [⟨some 15, .mov (.t 5), none⟩,
      ⟨some 16, .call 27 [.t 15], none⟩,
      ⟨some 17, .mov (.t 1), none⟩,
      ⟨none, .fz (.t 16), none⟩,
      ⟨some 18, .bsl 1 [.t 16, .t 17], none⟩,
      ⟨some 19, .len (.t 18), none⟩,
      ⟨some 20, .mov (.c (.int .i64 0)), none⟩])
    (.block 0 (.loop ir_chaselaw1_SubjectReads_L0)))
    (.seq (.reg [⟨some 43, .call 30 [], none⟩,
      ⟨some 4, .mov (.t 43), none⟩])
    .ret))))
def rs_chaselaw1_SubjectReads : List IRes := [.t 4]
theorem ck_chaselaw1_SubjectReads : chkF Tryd.prog Tryd.f5 ir_chaselaw1_SubjectReads rs_chaselaw1_SubjectReads 44 = true := by kernel_rfl

theorem subjectReads_ok (z : List Int) (s : List UInt8) (hl : z.length ≤ 9223372036854775807) (hs : s.length ≤ 1048576) : PCall Tryd.prog E0 5 [ints z, .str s] (· = .bool true) := by
  refine pcallF mixed Tryd.func5 ck_chaselaw1_SubjectReads ?_
  simp only [a0, l0, OS.ao, List.map_cons, List.map_nil, List.length_cons, List.length_nil, List.cons_append, List.nil_append, Nat.reduceSub, Nat.reduceAdd, List.replicate_succ, List.replicate_zero, ir_chaselaw1_SubjectReads, rs_chaselaw1_SubjectReads, ZZ, YY, Zd, ite_true, ite_false, forall_const, reduceCtorEq, Nat.reduceAdd, Nat.reduceMul, Nat.reduceLeDiff, Nat.reduceLT, Nat.reduceEqDiff]
  simp only [ints, ZZ, YY, Zd, ite_true, ite_false, forall_const, reduceCtorEq, Nat.reduceAdd, Nat.reduceMul, Nat.reduceLeDiff, Nat.reduceLT, Nat.reduceEqDiff]
  refine useS (k := .l 14) (SubjectText_ok z 0 (by omega) hl) rfl rfl rfl (by simp only [ZZ, YY, Zd, ite_true, ite_false, forall_const, reduceCtorEq, Nat.reduceAdd, Nat.reduceMul, Nat.reduceLeDiff, Nat.reduceLT, Nat.reduceEqDiff]) ?_
  rintro x cs' ⟨u, k1, rfl, hu, rfl, hk1⟩
  simp only [ZZ, YY, Zd, ite_true, ite_false, forall_const, reduceCtorEq, Nat.reduceAdd, Nat.reduceMul, Nat.reduceLeDiff, Nat.reduceLT, Nat.reduceEqDiff]
  have hmem : ∀ x ∈ [u, s], x.length ≤ 1048576 := by
    intro x hx
    simp only [List.mem_cons, List.not_mem_nil, or_false] at hx
    rcases hx with rfl | rfl <;> omega
  rw [show [[PV.str u], [PV.str s]] = strE [u, s] from rfl]
  generalize hls : [u, s] = ls at hmem
  have hll : ls.length = 2 := by rw [← hls]; rfl
  refine loop_intro (fun n fr L => ∃ (k : Nat), k ≤ 2 ∧ n = 2 - k ∧ fr = [.any, .any, .any, .any, .any, .any, .any, .any, .any, .any, .any, .any, .any, .any, .any, .any, .any, .any, .p (.sl 1 (strE ls)), .p (int (2 : Nat)), .p (int (k : Nat)), .any, .any, .any, .any, .any, .any, .any, .any, .any, .any, .any, .any, .any, .any, .any, .any, .any, .any, .any, .any, .any, .any, .any] ∧ L = []) (2) [.any, .any, .any, .any, .any, .any, .any, .any, .any, .any, .any, .any, .any, .any, .any, .any, .any, .any, .p (.sl 1 (strE ls)), .p (int (2 : Nat)), .p (int (0 : Nat)), .any, .any, .any, .any, .any, .any, .any, .any, .any, .any, .any, .any, .any, .any, .any, .any, .any, .any, .any, .any, .any, .any, .any] [] (by simp only [ZZ, YY, Zd, ite_true, ite_false, forall_const, reduceCtorEq, Nat.reduceAdd, Nat.reduceMul, Nat.reduceLeDiff, Nat.reduceLT, Nat.reduceEqDiff, strE_len]; try trivial) (by (simp only [ZZ, YY, Zd, ite_true, ite_false, forall_const, reduceCtorEq, Nat.reduceAdd, Nat.reduceMul, Nat.reduceLeDiff, Nat.reduceLT, Nat.reduceEqDiff]; try trivial)) ⟨0, by omega, by omega, rfl, rfl⟩ ?_
  rintro n fr L ⟨k, hk, rfl, rfl, rfl⟩
  simp only [ir_chaselaw1_SubjectReads_L0, ZZ, YY, Zd, ite_true, ite_false, forall_const, reduceCtorEq, Nat.reduceAdd, Nat.reduceMul, Nat.reduceLeDiff, Nat.reduceLT, Nat.reduceEqDiff]
  refine br ?_ ?_
  · intro h
    have hk2 : k < 2 := by have := of_decide_eq_true h; omega
    have hlt : k < ls.length := by omega
    obtain ⟨x, hx⟩ : ∃ x, ls[k]? = some x := ⟨_, List.getElem?_eq_getElem hlt⟩
    have hg := strE_get hx
    have hxl := hmem x (List.mem_of_getElem? hx)
    simp only [ZZ, YY, Zd, ite_true, ite_false, forall_const, reduceCtorEq, Nat.reduceAdd, Nat.reduceMul, Nat.reduceLeDiff, Nat.reduceLT, Nat.reduceEqDiff, hg, strE_len]
    ((repeat' (with_reducible apply And.intro)) <;> try ((first | first | assumption | trivial | exact (fun hq => by rw [hq]; rfl) | exact i64_of (by omega) (by omega) | omega | (simp; done) | (simp; omega) | (intro hsc; have hs0 := hsc; (try have hsd := of_decide_eq_true hsc); (try simp only [Bool.not_eq_true', Bool.or_eq_false_iff, Bool.and_eq_true, Bool.or_eq_true, decide_eq_true_eq, decide_eq_false_iff_not] at hsc); (repeat' (with_reducible apply And.intro)) <;> (first | assumption | trivial | exact (fun hq => by rw [hq]; rfl) | exact i64_of (by omega) (by omega) | omega | (simp; done) | (simp; omega) | (intro hse; simp [hse, hs0]; done) | (intro hse; simp only [hse, hs0, Bool.true_and, Bool.and_true, Bool.not_false, Bool.not_true, Bool.and_self]; done))))))
    refine use1 (Subject_ok x (by omega)) rfl (.inl rfl) ?_
    simp only [ZZ, YY, Zd, ite_true, ite_false, forall_const, reduceCtorEq, Nat.reduceAdd, Nat.reduceMul, Nat.reduceLeDiff, Nat.reduceLT, Nat.reduceEqDiff]
    refine use1 (SubjectOf_ok x (by omega)) rfl (.inl rfl) ?_
    generalize subjF (x.length + 1) x 0 = q at *
    simp only [ZZ, YY, Zd, ite_true, ite_false, forall_const, reduceCtorEq, Nat.reduceAdd, Nat.reduceMul, Nat.reduceLeDiff, Nat.reduceLT, Nat.reduceEqDiff]
    refine ⟨fun _ => by simp, ?_⟩
    refine br (fun h => by simp at h) ?_
    intro _
    simp only [ZZ, YY, Zd, ite_true, ite_false, forall_const, reduceCtorEq, Nat.reduceAdd, Nat.reduceMul, Nat.reduceLeDiff, Nat.reduceLT, Nat.reduceEqDiff]
    refine ⟨i64_of (by omega) (by omega), ?_⟩
    refine end_round (2 - (k + 1)) [.any, .any, .any, .any, .any, .any, .any, .any, .any, .any, .any, .any, .any, .any, .any, .any, .any, .any, .p (.sl 1 (strE ls)), .p (int (2 : Nat)), .p (int ((k + 1) : Nat)), .any, .any, .any, .any, .any, .any, .any, .any, .any, .any, .any, .any, .any, .any, .any, .any, .any, .any, .any, .any, .any, .any, .any] [] (by omega) (by (simp only [ZZ, YY, Zd, ite_true, ite_false, forall_const, reduceCtorEq, Nat.reduceAdd, Nat.reduceMul, Nat.reduceLeDiff, Nat.reduceLT, Nat.reduceEqDiff]; try trivial)) (by (simp only [ZZ, YY, Zd, ite_true, ite_false, forall_const, reduceCtorEq, Nat.reduceAdd, Nat.reduceMul, Nat.reduceLeDiff, Nat.reduceLT, Nat.reduceEqDiff]; try trivial)) ⟨k + 1, by omega, rfl, rfl, rfl⟩
  · intro h
    simp only [ZZ, YY, Zd, ite_true, ite_false, forall_const, reduceCtorEq, Nat.reduceAdd, Nat.reduceMul, Nat.reduceLeDiff, Nat.reduceLT, Nat.reduceEqDiff]
    refine use1 threads_ok rfl (.inl rfl) ?_
    simp only [ZZ, YY, Zd, ite_true, ite_false, forall_const, reduceCtorEq, Nat.reduceAdd, Nat.reduceMul, Nat.reduceLeDiff, Nat.reduceLT, Nat.reduceEqDiff]
theorem subjectReads_walk (a0 : Option Addr) (len0 cap0 : Nat) (z0 : List Int) (s1 : ByteArray) (w : World) (h0 : IsRow .i64 w a0 len0 cap0 z0) (hb1 : s1.size ≤ 1048576) (he : E0.ok w ∧ ∀ b, E0.bl b → b < w.heap.size) :
    Calls Tryd.prog 5 #[.slice a0 len0 cap0, .string s1] w fun e w' => e = .returned (.bool true) ∧ Below w.heap.size w w' := by
  obtain ⟨h1, h2⟩ := isRow_rep h0
  refine (subjectReads_ok _ s1.data.toList h2 (by simpa using hb1) w (fun _ => False) [.slice a0 len0 cap0, .string s1] (fun _ h => h.elim) he.1 he.2 ⟨_, [.string s1], rfl, h1, _, [], rfl, rfl, rfl⟩).mono ?_
  rintro e w' ⟨v, x, rfl, rfl, hv, hg⟩
  refine ⟨by rw [PRep.bool_eq hv], ⟨hg.os, hg.tape, hg.output, hg.size, fun k hk => hg.block k hk (fun h => h)⟩⟩
end Go.Proofs.YtndjmidmfmcbkaaDoor
