
/- The law WordsPatched: its walk. -/
import Derived.Test.YthfpehmbellmcaaGreatDoorZ8
import Derived.Test.YthfpehmbellmcaaGreatDoorZ9
namespace Go.Proofs.YthfpehmbellmcaaGreatDoor
open Go.RowKit
set_option linter.unusedVariables false
set_option linter.unusedSimpArgs false
set_option linter.defProp false

/- paperchase/chaselaw1.WordsPatched -/
def ir_chaselaw1_WordsPatched : IC :=
  (.seq (.reg [⟨some 2, .mov (.c (.bool false)), none⟩])
    (.seq (.reg [⟨some 14, .mov (.t 0), none⟩,
      ⟨some 15, .bld [.nl 1, .int .i64 0] [(0, 1, .t 14)], none⟩,
      ⟨some 16, .box 25 (.t 15), none⟩,
      ⟨some 3, .mov (.t 16), none⟩])
    (.seq (.reg [⟨some 17, .mov (.t 3), none⟩,
      ⟨some 18, .call 15 [.t 17, .c (.int .i64 14)], none⟩,
      ⟨some 4, .mov (.t 18), none⟩])
    (.seq (.reg [⟨some 19, .mov (.t 3), none⟩,
      ⟨some 20, .mov (.t 4), none⟩,
      ⟨none, .fz (.t 20), none⟩,
      ⟨some 21, .call 16 [.t 19, .t 20], none⟩,
      ⟨some 5, .mov (.t 21), none⟩])
    (.seq (.reg [⟨some 23, .mov (.t 4), none⟩,
      ⟨some 24, .mov (.t 5), none⟩,
      ⟨some 25, .call 17 [.t 23, .t 24], none⟩,
      ⟨some 22, .mov (.t 25), none⟩,
      ⟨some 26, .ext 0 (.t 22), none⟩,
      ⟨some 27, .ext 1 (.t 22), none⟩,
      ⟨some 6, .mov (.t 26), none⟩,
      ⟨some 7, .mov (.t 27), none⟩])
    (.seq (.reg [⟨some 29, .mov (.t 4), none⟩,
      ⟨some 30, .mov (.t 5), none⟩,
      ⟨none, .fz (.t 29), none⟩,
      ⟨none, .fz (.t 30), none⟩,
      ⟨some 31, .call 18 [.t 29, .t 30], none⟩,
      ⟨some 28, .mov (.t 31), none⟩,
      ⟨some 32, .ext 0 (.t 28), none⟩,
      ⟨some 33, .ext 1 (.t 28), none⟩,
      ⟨some 8, .mov (.t 32), none⟩,
      ⟨some 9, .mov (.t 33), none⟩])
    (.seq (.reg [⟨some 35, .mov (.t 4), none⟩,
      ⟨some 36, .mov (.t 5), none⟩,
      ⟨some 37, .call 19 [.t 35, .t 36], none⟩,
      ⟨some 34, .mov (.t 37), none⟩,
      ⟨some 38, .ext 0 (.t 34), none⟩,
      ⟨some 39, .ext 1 (.t 34), none⟩,
      ⟨some 10, .mov (.t 38), none⟩,
      ⟨some 11, .mov (.t 39), none⟩])
    (.seq (.reg [⟨some 41, .mov (.t 4), none⟩,
      ⟨some 42, .mov (.t 5), none⟩,
      ⟨none, .fz (.t 41), none⟩,
      ⟨none, .fz (.t 42), none⟩,
      ⟨some 43, .call 20 [.t 41, .t 42], none⟩,
      ⟨some 40, .mov (.t 43), none⟩,
      ⟨some 44, .ext 0 (.t 40), none⟩,
      ⟨some 45, .ext 1 (.t 40), none⟩,
      ⟨some 12, .mov (.t 44), none⟩,
      ⟨some 13, .mov (.t 45), none⟩])
    (.seq (.reg [⟨some 46, .call 21 [], none⟩,
      ⟨some 47, .mov (.t 46), none⟩,
      ⟨some 48, .mov (.t 7), (some (47, true))⟩,
      ⟨some 49, .mov (.t 11), (some (47, true))⟩,
      ⟨some 50, .bin .eql (.t 48) (.t 49), (some (47, true))⟩,
      ⟨some 51, .pick (.t 47) (.t 50) (.c (.bool false)), none⟩,
      ⟨some 52, .mov (.t 51), none⟩,
      ⟨some 53, .mov (.t 9), (some (52, true))⟩,
      ⟨some 54, .mov (.t 13), (some (52, true))⟩,
      ⟨some 55, .bin .eql (.t 53) (.t 54), (some (52, true))⟩,
      ⟨some 56, .pick (.t 52) (.t 55) (.c (.bool false)), none⟩,
      ⟨some 57, .mov (.t 56), none⟩,
      ⟨some 58, .mov (.t 6), (some (57, true))⟩,
      ⟨some 59, .mov (.t 10), (some (57, true))⟩,
      ⟨some 60, .bin .eql (.t 58) (.t 59), (some (57, true))⟩,
      ⟨some 61, .pick (.t 57) (.t 60) (.c (.bool false)), none⟩,
      ⟨some 62, .mov (.t 61), none⟩,
      ⟨some 63, .mov (.t 8), (some (62, true))⟩,
      ⟨some 64, .mov (.t 12), (some (62, true))⟩,
      ⟨some 65, .call 22 [.t 63, .t 64], (some (62, true))⟩,
      ⟨some 66, .pick (.t 62) (.t 65) (.c (.bool false)), none⟩,
      ⟨some 2, .mov (.t 66), none⟩])
    .ret)))))))))
def rs_chaselaw1_WordsPatched : List IRes := [.t 2]
theorem ck_chaselaw1_WordsPatched : chkF Tryz.prog Tryz.f4 ir_chaselaw1_WordsPatched rs_chaselaw1_WordsPatched 67 = true := by kernel_rfl

theorem PatchOf_ok (s : List UInt8) (l : List ChI) (hs : s.length ≤ 1000000) (hl : ChB l) : PCall Tryz.prog E0 19 [.str s, .sl 3 (ciE l)] (fun r => r = .tup [.str (if pE s l = 0 then jnF (paT (tokF s) l 0 []) else []), int (pE s l)]) := by
  refine pcallF mixed Tryz.func19 ck_chaseref1_PatchOf ?_
  simp only [a0, l0, OS.ao, List.map_cons, List.map_nil, List.length_cons, List.length_nil, List.cons_append, List.nil_append, Nat.reduceSub, Nat.reduceAdd, List.replicate_succ, List.replicate_zero, ir_chaseref1_PatchOf, rs_chaseref1_PatchOf, ZZ, YY, Ze, ite_true, ite_false, forall_const, reduceCtorEq, Nat.reduceAdd, Nat.reduceMul, Nat.reduceLeDiff, Nat.reduceLT, Nat.reduceEqDiff]
  refine use (patchedOf_ok s l hs hl) rfl (.inl rfl) ?_
  rintro r ⟨bk, rfl, h1, h2, h3, h4⟩
  simp only [ZZ, YY, Ze, ite_true, ite_false, forall_const, reduceCtorEq, Nat.reduceAdd, Nat.reduceMul, Nat.reduceLeDiff, Nat.reduceLT, Nat.reduceEqDiff]
theorem TurnOf_ok (s : List UInt8) (l : List ChI) (hs : s.length ≤ 1000000) (hl : ChB l) : PCall Tryz.prog E0 20 [.str s, .sl 3 (ciE l)] (fun r => ∃ bk : List Chg, r = .tup [.sl 3 (chE bk), int (pE s l)] ∧ (pE s l = 0 → chE bk = ciE (baT l 0)) ∧ (¬ pE s l = 0 → bk = []) ∧ bk.length ≤ 2000 ∧ ∀ c ∈ bk, c.2.1.length ≤ 100000 ∧ c.2.2.length ≤ 100000) := by
  refine pcallF mixed Tryz.func20 ck_chaseref1_TurnOf ?_
  simp only [a0, l0, OS.ao, List.map_cons, List.map_nil, List.length_cons, List.length_nil, List.cons_append, List.nil_append, Nat.reduceSub, Nat.reduceAdd, List.replicate_succ, List.replicate_zero, ir_chaseref1_TurnOf, rs_chaseref1_TurnOf, ZZ, YY, Ze, ite_true, ite_false, forall_const, reduceCtorEq, Nat.reduceAdd, Nat.reduceMul, Nat.reduceLeDiff, Nat.reduceLT, Nat.reduceEqDiff]
  refine use (patchedOf_ok s l hs hl) rfl (.inl rfl) ?_
  rintro r ⟨bk, rfl, h1, h2, h3, h4⟩
  simp only [ZZ, YY, Ze, ite_true, ite_false, forall_const, reduceCtorEq, Nat.reduceAdd, Nat.reduceMul, Nat.reduceLeDiff, Nat.reduceLT, Nat.reduceEqDiff]
  exact ⟨bk, rfl, h1, h2, h3, h4⟩
theorem wordsPatched_ok (z : List Int) (hl : z.length ≤ 9223372036854775807) : PCall Tryz.prog E0 4 [ints z] (· = .bool true) := by
  refine pcallF mixed Tryz.func4 ck_chaselaw1_WordsPatched ?_
  simp only [a0, l0, OS.ao, List.map_cons, List.map_nil, List.length_cons, List.length_nil, List.cons_append, List.nil_append, Nat.reduceSub, Nat.reduceAdd, List.replicate_succ, List.replicate_zero, ir_chaselaw1_WordsPatched, rs_chaselaw1_WordsPatched, ZZ, YY, Ze, ite_true, ite_false, forall_const, reduceCtorEq, Nat.reduceAdd, Nat.reduceMul, Nat.reduceLeDiff, Nat.reduceLT, Nat.reduceEqDiff]
  simp only [ints, ZZ, YY, Ze, ite_true, ite_false, forall_const, reduceCtorEq, Nat.reduceAdd, Nat.reduceMul, Nat.reduceLeDiff, Nat.reduceLT, Nat.reduceEqDiff]
  refine useS (k := .l 16) (Prose_ok z 0 14 (by omega) hl (by omega) (by omega)) rfl rfl rfl (by simp only [ZZ, YY, Ze, ite_true, ite_false, forall_const, reduceCtorEq, Nat.reduceAdd, Nat.reduceMul, Nat.reduceLeDiff, Nat.reduceLT, Nat.reduceEqDiff]) ?_
  rintro x cs' ⟨a, k1, rfl, ha, rfl, hk1⟩
  simp only [ZZ, YY, Ze, ite_true, ite_false, forall_const, reduceCtorEq, Nat.reduceAdd, Nat.reduceMul, Nat.reduceLeDiff, Nat.reduceLT, Nat.reduceEqDiff]
  refine useS (k := .l 16) (Changes_ok z k1 a (by omega) hl (by omega)) rfl rfl rfl (by simp only [ZZ, YY, Ze, ite_true, ite_false, forall_const, reduceCtorEq, Nat.reduceAdd, Nat.reduceMul, Nat.reduceLeDiff, Nat.reduceLT, Nat.reduceEqDiff]) ?_
  rintro x cs' ⟨cl, k2, rfl, hcl, rfl, hk2⟩
  have ha6 : a.length ≤ 1000000 := by omega
  simp only [ZZ, YY, Ze, ite_true, ite_false, forall_const, reduceCtorEq, Nat.reduceAdd, Nat.reduceMul, Nat.reduceLeDiff, Nat.reduceLT, Nat.reduceEqDiff]
  refine use (Patch_ok a cl ha6 hcl) rfl (.inl rfl) ?_
  rintro r rfl
  simp only [ZZ, YY, Ze, ite_true, ite_false, forall_const, reduceCtorEq, Nat.reduceAdd, Nat.reduceMul, Nat.reduceLeDiff, Nat.reduceLT, Nat.reduceEqDiff]
  refine use (Turn_ok a cl ha6 hcl) rfl (.inl rfl) ?_
  rintro r rfl
  simp only [ZZ, YY, Ze, ite_true, ite_false, forall_const, reduceCtorEq, Nat.reduceAdd, Nat.reduceMul, Nat.reduceLeDiff, Nat.reduceLT, Nat.reduceEqDiff]
  refine use (PatchOf_ok a cl ha6 hcl) rfl (.inl rfl) ?_
  rintro r rfl
  simp only [ZZ, YY, Ze, ite_true, ite_false, forall_const, reduceCtorEq, Nat.reduceAdd, Nat.reduceMul, Nat.reduceLeDiff, Nat.reduceLT, Nat.reduceEqDiff]
  refine use (TurnOf_ok a cl ha6 hcl) rfl (.inl rfl) ?_
  rintro r ⟨bk, rfl, h1, h2, h3, h4⟩
  have hbd : (if pE a cl = 0 then ciE (baT cl 0) else []) = chE bk := by
    split
    · rename_i h; exact (h1 h).symm
    · rename_i h; rw [h2 h]; rfl
  rw [hbd]
  simp only [ZZ, YY, Ze, ite_true, ite_false, forall_const, reduceCtorEq, Nat.reduceAdd, Nat.reduceMul, Nat.reduceLeDiff, Nat.reduceLT, Nat.reduceEqDiff]
  refine use1 nears_ok rfl (.inl rfl) ?_
  simp only [ZZ, YY, Ze, ite_true, ite_false, forall_const, reduceCtorEq, Nat.reduceAdd, Nat.reduceMul, Nat.reduceLeDiff, Nat.reduceLT, Nat.reduceEqDiff]
  refine useG (fun _ => SameChanges_ok bk (by omega) (fun c hc => by have := h4 c hc; omega)) rfl (.inl rfl) ?_
  simp only [ZZ, YY, Ze, ite_true, ite_false, forall_const, reduceCtorEq, Nat.reduceAdd, Nat.reduceMul, Nat.reduceLeDiff, Nat.reduceLT, Nat.reduceEqDiff]
  simp
theorem wordsPatched_walk (a0 : Option Addr) (len0 cap0 : Nat) (z0 : List Int) (w : World) (h0 : IsRow .i64 w a0 len0 cap0 z0) (he : E0.ok w ∧ ∀ b, E0.bl b → b < w.heap.size) :
    Calls Tryz.prog 4 #[.slice a0 len0 cap0] w fun e w' => e = .returned (.bool true) ∧ Below w.heap.size w w' :=
  walk_of wordsPatched_ok a0 len0 cap0 z0 w h0 he.1 he.2
end Go.Proofs.YthfpehmbellmcaaGreatDoor
