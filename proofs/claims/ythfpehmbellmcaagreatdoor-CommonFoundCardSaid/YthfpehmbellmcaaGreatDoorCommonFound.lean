
/- The law CommonFound: its walk. -/
import Derived.Test.YthfpehmbellmcaaGreatDoorZ9
import Derived.Test.YthfpehmbellmcaaGreatDoorZ11
import Derived.Test.YthfpehmbellmcaaGreatDoorZ12
namespace Go.Proofs.YthfpehmbellmcaaGreatDoor
open Go.RowKit
set_option linter.unusedVariables false
set_option linter.unusedSimpArgs false
set_option linter.defProp false

/- paperchase/chaselaw1.CommonFound -/
def ir_chaselaw1_CommonFound : IC :=
  (.seq (.reg [⟨some 2, .mov (.c (.bool false)), none⟩])
    (.seq (.reg [⟨some 16, .mov (.t 0), none⟩,
      ⟨some 17, .bld [.nl 1, .int .i64 0] [(0, 1, .t 16)], none⟩,
      ⟨some 18, .box 25 (.t 17), none⟩,
      ⟨some 3, .mov (.t 18), none⟩])
    (.seq (.reg [⟨some 19, .mov (.t 3), none⟩,
      ⟨some 20, .call 23 [.t 19, .c (.int .i64 6)], none⟩,
      ⟨some 21, .mov (.t 3), none⟩,
      ⟨some 22, .bsl 1 [.c (.int .i64 2), .c (.int .i64 2), .c (.int .i64 3), .c (.int .i64 5), .c (.int .i64 1), .c (.int .i64 301)], none⟩,
      ⟨some 23, .call 24 [.t 21, .t 22], none⟩,
      ⟨some 4, .mov (.t 20), none⟩,
      ⟨some 5, .mov (.t 23), none⟩])
    (.seq (.reg [⟨some 25, .mov (.t 4), none⟩,
      ⟨some 26, .mov (.t 5), none⟩,
      ⟨none, .fz (.t 25), none⟩,
      ⟨none, .fz (.t 26), none⟩,
      ⟨some 27, .call 25 [.t 25, .t 26], none⟩,
      ⟨some 24, .mov (.t 27), none⟩,
      ⟨some 28, .ext 0 (.t 24), none⟩,
      ⟨some 29, .ext 1 (.t 24), none⟩,
      ⟨some 6, .mov (.t 28), none⟩,
      ⟨some 7, .mov (.t 29), none⟩])
    (.seq (.reg [⟨some 31, .mov (.t 4), none⟩,
      ⟨some 32, .mov (.t 5), none⟩,
      ⟨none, .fz (.t 31), none⟩,
      ⟨none, .fz (.t 32), none⟩,
      ⟨some 33, .call 26 [.t 31, .t 32], none⟩,
      ⟨some 30, .mov (.t 33), none⟩,
      ⟨some 34, .ext 0 (.t 30), none⟩,
      ⟨some 35, .ext 1 (.t 30), none⟩,
      ⟨some 8, .mov (.t 34), none⟩,
      ⟨some 9, .mov (.t 35), none⟩])
    (.seq (.seq (.reg [⟨some 36, .mov (.t 7), none⟩,
      ⟨some 37, .mov (.t 9), none⟩,
      ⟨some 38, .bin .neq (.t 36) (.t 37), none⟩,
      ⟨some 39, .mov (.t 38), none⟩,
      ⟨some 40, .mov (.t 6), (some (39, false))⟩,
      ⟨some 41, .mov (.t 8), (some (39, false))⟩,
      ⟨some 42, .call 11 [.t 40, .t 41], (some (39, false))⟩,
      ⟨some 43, .not (.t 42), (some (39, false))⟩,
      ⟨some 44, .pick (.t 39) (.c (.bool true)) (.t 43), none⟩])
    (.cond (.t 44) (.seq (.reg [⟨some 2, .mov (.c (.bool false)), none⟩])
    .ret) .skip))
    (.seq (.reg [⟨some 45, .mov (.t 3), none⟩,
      ⟨some 46, .call 15 [.t 45, .c (.int .i64 20)], none⟩,
      ⟨some 47, .mov (.t 3), none⟩,
      ⟨some 48, .call 27 [.t 47], none⟩,
      ⟨some 10, .mov (.t 46), none⟩,
      ⟨some 11, .mov (.t 48), none⟩])
    (.seq (.seq (.reg [⟨some 49, .mov (.t 3), none⟩,
      ⟨some 50, .call 28 [.t 49, .c (.int .i64 2)], none⟩])
    (.cond (.t 50) (.reg [⟨some 51, .mov (.t 8), none⟩,
      ⟨some 11, .mov (.t 51), none⟩]) .skip))
    (.cut (.seq (.reg [⟨some 53, .mov (.t 10), none⟩,
      ⟨some 54, .mov (.t 11), none⟩,
      ⟨some 55, .call 29 [.t 53, .t 54], none⟩,
      ⟨some 52, .mov (.t 55), none⟩,
      ⟨some 56, .ext 0 (.t 52), none⟩,
      ⟨some 57, .ext 1 (.t 52), none⟩,
      ⟨some 12, .mov (.t 56), none⟩,
      ⟨some 13, .mov (.t 57), none⟩])
    (.seq (.reg [⟨some 59, .mov (.t 10), none⟩,
      ⟨some 60, .mov (.t 11), none⟩,
      ⟨some 61, .call 30 [.t 59, .t 60], none⟩,
      ⟨some 58, .mov (.t 61), none⟩,
      ⟨some 62, .ext 0 (.t 58), none⟩,
      ⟨some 63, .ext 1 (.t 58), none⟩,
      ⟨some 14, .mov (.t 62), none⟩,
      ⟨some 15, .mov (.t 63), none⟩])
    (.seq (.reg [⟨some 64, .call 21 [], none⟩,
      ⟨some 65, .mov (.t 64), none⟩,
      ⟨some 66, .mov (.t 13), (some (65, true))⟩,
      ⟨some 67, .mov (.t 15), (some (65, true))⟩,
      ⟨some 68, .bin .eql (.t 66) (.t 67), (some (65, true))⟩,
      ⟨some 69, .pick (.t 65) (.t 68) (.c (.bool false)), none⟩,
      ⟨some 70, .mov (.t 69), none⟩,
      ⟨some 71, .mov (.t 12), (some (70, true))⟩,
      ⟨some 72, .mov (.t 14), (some (70, true))⟩,
      ⟨some 73, .bin .eql (.t 71) (.t 72), (some (70, true))⟩,
      ⟨some 74, .pick (.t 70) (.t 73) (.c (.bool false)), none⟩,
      ⟨some 2, .mov (.t 74), none⟩])
    .ret))))))))))))
def rs_chaselaw1_CommonFound : List IRes := [.t 2]
theorem ck_chaselaw1_CommonFound : chkF Tryz.prog Tryz.f5 ir_chaselaw1_CommonFound rs_chaselaw1_CommonFound 75 = true := by kernel_rfl

theorem bodT_B {bl : List Bod} (h : bl.length ≤ 40) (ht : BodT bl) : BodB bl := ⟨by omega, fun b hb => by have := ht b hb; omega⟩
theorem bodT_sum : ∀ {bl : List Bod}, BodT bl → sumB bl ≤ bl.length * 100000
  | [], _ => by simp [sumB]
  | b :: r, ht => by
    have ih := bodT_sum (bl := r) fun c hc => ht c (List.mem_cons_of_mem _ hc)
    have h1 := (ht b (by simp)).2
    have : sumB (b :: r) = b.2.length + sumB r := by simp [sumB]
    simp only [List.length_cons]
    omega
theorem comF_B {bl : List Bod} (least : Int) (h : bl.length ≤ 40) (ht : BodT bl) : FsB (comF bl least) := by
  have h1 := fms_total bl
  have h2 := bodT_sum ht
  have h3 := sortF_le (bl.flatMap fmsF)
  have h4 : (comF bl least).length ≤ (sortF (bl.flatMap fmsF)).length := List.length_filter_le _ _
  refine ⟨by omega, fun f hf => ?_⟩
  rw [comF, List.mem_filter, sortF_mem, List.mem_flatMap] at hf
  obtain ⟨⟨b, hb, hx⟩, _⟩ := hf
  rw [fmsF, List.mem_map] at hx
  obtain ⟨p, hp, rfl⟩ := hx
  have a1 := formF_len p
  have a2 := parF_mem b.2 p hp
  have a3 := (ht b hb).2
  omega
set_option maxHeartbeats 4000000 in
theorem commonFound_ok (z : List Int) (hl : z.length ≤ 9223372036854775807) : PCall Tryz.prog E0 5 [ints z] (· = .bool true) := by
  refine pcallF mixed Tryz.func5 ck_chaselaw1_CommonFound ?_
  simp only [a0, l0, OS.ao, List.map_cons, List.map_nil, List.length_cons, List.length_nil, List.cons_append, List.nil_append, Nat.reduceSub, Nat.reduceAdd, List.replicate_succ, List.replicate_zero, ir_chaselaw1_CommonFound, rs_chaselaw1_CommonFound, ZZ, YY, Ze, ite_true, ite_false, forall_const, reduceCtorEq, Nat.reduceAdd, Nat.reduceMul, Nat.reduceLeDiff, Nat.reduceLT, Nat.reduceEqDiff]
  simp only [ints, ZZ, YY, Ze, ite_true, ite_false, forall_const, reduceCtorEq, Nat.reduceAdd, Nat.reduceMul, Nat.reduceLeDiff, Nat.reduceLT, Nat.reduceEqDiff]
  refine useS (k := .l 18) (Bodies_ok z 0 6 (by omega) hl (by omega)) rfl rfl rfl (by simp only [ZZ, YY, Ze, ite_true, ite_false, forall_const, reduceCtorEq, Nat.reduceAdd, Nat.reduceMul, Nat.reduceLeDiff, Nat.reduceLT, Nat.reduceEqDiff]) ?_
  rintro x cs' ⟨bl, k1, rfl, hbl, hbt, rfl, hk1⟩
  simp only [ZZ, YY, Ze, ite_true, ite_false, forall_const, reduceCtorEq, Nat.reduceAdd, Nat.reduceMul, Nat.reduceLeDiff, Nat.reduceLT, Nat.reduceEqDiff]
  refine useS (k := .l 18) (Pick_ok z k1 [2, 2, 3, 5, 1, 301] (by omega) hl (by simp) (by simp)) rfl rfl rfl (by simp only [ZZ, YY, Ze, ite_true, ite_false, forall_const, reduceCtorEq, Nat.reduceAdd, Nat.reduceMul, Nat.reduceLeDiff, Nat.reduceLT, Nat.reduceEqDiff]) ?_
  rintro x cs' ⟨least, rfl, hle, rfl⟩
  have hB := bodT_B hbl hbt
  obtain ⟨e, he⟩ : ∃ e, e = comE bl least := ⟨_, rfl⟩
  obtain ⟨d, hd⟩ : ∃ d, d = if comE bl least = 0 then comF bl least else [] := ⟨_, rfl⟩
  have hres : (if comE bl least = 0 then PV.tup [.sl 1 (strE (comF bl least)), int 0] else .tup [.sl 1 [], int (comE bl least)]) = .tup [.sl 1 (strE d), int e] := by
    rw [hd, he]
    split
    · rename_i h; rw [h]
    · rfl
  have hdB : FsB d := by
    rw [hd]
    split
    · exact comF_B least hbl hbt
    · exact ⟨by simp, by simp⟩
  have hdl := hdB.1
  clear hd he
  simp only [ZZ, YY, Ze, ite_true, ite_false, forall_const, reduceCtorEq, Nat.reduceAdd, Nat.reduceMul, Nat.reduceLeDiff, Nat.reduceLT, Nat.reduceEqDiff]
  refine use1 (Common_ok bl least hB) rfl (.inl rfl) ?_
  rw [hres]
  simp only [ZZ, YY, Ze, ite_true, ite_false, forall_const, reduceCtorEq, Nat.reduceAdd, Nat.reduceMul, Nat.reduceLeDiff, Nat.reduceLT, Nat.reduceEqDiff]
  refine use1 (CommonOf_ok bl least hB) rfl (.inl rfl) ?_
  rw [hres]
  simp only [ZZ, YY, Ze, ite_true, ite_false, forall_const, reduceCtorEq, Nat.reduceAdd, Nat.reduceMul, Nat.reduceLeDiff, Nat.reduceLT, Nat.reduceEqDiff]
  have hEq := EqualT_ok (E := E0) d d (by omega)
  rw [decide_eq_true rfl] at hEq
  refine useG (fun _ => hEq) rfl (.inl rfl) ?_
  simp only [ZZ, YY, Ze, ite_true, ite_false, forall_const, reduceCtorEq, Nat.reduceAdd, Nat.reduceMul, Nat.reduceLeDiff, Nat.reduceLT, Nat.reduceEqDiff, decide_true, Bool.not_true]
  ((repeat' (with_reducible apply And.intro)) <;> try ((first | first | assumption | trivial | exact (fun hq => by rw [hq]; rfl) | exact i64_of (by omega) (by omega) | omega | (simp; done) | (simp; omega) | (intro hsc; have hs0 := hsc; (try have hsd := of_decide_eq_true hsc); (try simp only [Bool.not_eq_true', Bool.or_eq_false_iff, Bool.and_eq_true, Bool.or_eq_true, decide_eq_true_eq, decide_eq_false_iff_not] at hsc); (repeat' (with_reducible apply And.intro)) <;> (first | assumption | trivial | exact (fun hq => by rw [hq]; rfl) | exact i64_of (by omega) (by omega) | omega | (simp; done) | (simp; omega) | (intro hse; simp [hse, hs0]; done) | (intro hse; simp only [hse, hs0, Bool.true_and, Bool.and_true, Bool.not_false, Bool.not_true, Bool.and_self]; done))))))
  refine useS (k := .l 18) (Prose_ok z (k1 + 1) 20 (by omega) hl (by omega) (by omega)) rfl rfl rfl (by simp only [ZZ, YY, Ze, ite_true, ite_false, forall_const, reduceCtorEq, Nat.reduceAdd, Nat.reduceMul, Nat.reduceLeDiff, Nat.reduceLT, Nat.reduceEqDiff]) ?_
  rintro x cs' ⟨t, k2, rfl, ht, rfl, hk2⟩
  simp only [ZZ, YY, Ze, ite_true, ite_false, forall_const, reduceCtorEq, Nat.reduceAdd, Nat.reduceMul, Nat.reduceLeDiff, Nat.reduceLT, Nat.reduceEqDiff]
  refine useS (k := .l 18) (Forms_ok z k2 (by omega) hl) rfl rfl rfl (by simp only [ZZ, YY, Ze, ite_true, ite_false, forall_const, reduceCtorEq, Nat.reduceAdd, Nat.reduceMul, Nat.reduceLeDiff, Nat.reduceLT, Nat.reduceEqDiff]) ?_
  rintro x cs' ⟨fl, k3, rfl, hf1, hf2, rfl, hk3⟩
  simp only [ZZ, YY, Ze, ite_true, ite_false, forall_const, reduceCtorEq, Nat.reduceAdd, Nat.reduceMul, Nat.reduceLeDiff, Nat.reduceLT, Nat.reduceEqDiff]
  refine useS (k := .l 18) (Flip_ok z k3 2 (by omega) hl (by omega)) rfl rfl rfl (by simp only [ZZ, YY, Ze, ite_true, ite_false, forall_const, reduceCtorEq, Nat.reduceAdd, Nat.reduceMul, Nat.reduceLeDiff, Nat.reduceLT, Nat.reduceEqDiff]) ?_
  rintro x cs' ⟨b, rfl, rfl⟩
  simp only [ZZ, YY, Ze, ite_true, ite_false, forall_const, reduceCtorEq, Nat.reduceAdd, Nat.reduceMul, Nat.reduceLeDiff, Nat.reduceLT, Nat.reduceEqDiff]
  refine br_join (fun fr L => ∃ fs, FsB fs ∧ fr = [.any, .any, .any, .any, .any, .any, .any, .any, .any, .any, .p (.str t), .p (.sl 1 (strE fs)), .any, .any, .any, .any, .any, .any, .any, .any, .any, .any, .any, .any, .any, .any, .any, .any, .any, .any, .any, .any, .any, .any, .any, .any, .any, .any, .any, .any, .any, .any, .any, .any, .any, .any, .any, .any, .any, .any, .any, .any, .any, .any, .any, .any, .any, .any, .any, .any, .any, .any, .any, .any, .any, .any, .any, .any, .any, .any, .any, .any, .any, .any, .any] ∧ L = []) ?_ ?_ ?_
  · intro _
    simp only [ZZ, YY, Ze, ite_true, ite_false, forall_const, reduceCtorEq, Nat.reduceAdd, Nat.reduceMul, Nat.reduceLeDiff, Nat.reduceLT, Nat.reduceEqDiff]
    exact to_mid _ _ (by (simp only [ZZ, YY, Ze, ite_true, ite_false, forall_const, reduceCtorEq, Nat.reduceAdd, Nat.reduceMul, Nat.reduceLeDiff, Nat.reduceLT, Nat.reduceEqDiff]; try trivial)) (by simp only [ZZ, YY, Ze, ite_true, ite_false, forall_const, reduceCtorEq, Nat.reduceAdd, Nat.reduceMul, Nat.reduceLeDiff, Nat.reduceLT, Nat.reduceEqDiff]) ⟨d, hdB, rfl, rfl⟩
  · intro _
    simp only [ZZ, YY, Ze, ite_true, ite_false, forall_const, reduceCtorEq, Nat.reduceAdd, Nat.reduceMul, Nat.reduceLeDiff, Nat.reduceLT, Nat.reduceEqDiff]
    exact to_mid _ _ (by (simp only [ZZ, YY, Ze, ite_true, ite_false, forall_const, reduceCtorEq, Nat.reduceAdd, Nat.reduceMul, Nat.reduceLeDiff, Nat.reduceLT, Nat.reduceEqDiff]; try trivial)) (by simp only [ZZ, YY, Ze, ite_true, ite_false, forall_const, reduceCtorEq, Nat.reduceAdd, Nat.reduceMul, Nat.reduceLeDiff, Nat.reduceLT, Nat.reduceEqDiff]) ⟨fl, ⟨by omega, fun s hs => by have := hf2 s hs; omega⟩, rfl, rfl⟩
  rintro fr L ⟨fs, hfs, rfl, rfl⟩
  obtain ⟨g, hg⟩ : ∃ g, g = stE t fs := ⟨_, rfl⟩
  obtain ⟨u, hu⟩ : ∃ u, u = if stE t fs = 0 then stF t fs else [] := ⟨_, rfl⟩
  have hres2 : (if stE t fs = 0 then PV.tup [.str (stF t fs), int 0] else .tup [.str [], int (stE t fs)]) = .tup [.str u, int g] := by
    rw [hu, hg]
    split
    · rename_i h; rw [h]
    · rfl
  simp only [ZZ, YY, Ze, ite_true, ite_false, forall_const, reduceCtorEq, Nat.reduceAdd, Nat.reduceMul, Nat.reduceLeDiff, Nat.reduceLT, Nat.reduceEqDiff]
  refine use1 (Strip_ok t fs (by omega) hfs) rfl (.inl rfl) ?_
  rw [hres2]
  simp only [ZZ, YY, Ze, ite_true, ite_false, forall_const, reduceCtorEq, Nat.reduceAdd, Nat.reduceMul, Nat.reduceLeDiff, Nat.reduceLT, Nat.reduceEqDiff]
  refine use1 (StripOf_ok t fs (by omega) hfs) rfl (.inl rfl) ?_
  rw [hres2]
  simp only [ZZ, YY, Ze, ite_true, ite_false, forall_const, reduceCtorEq, Nat.reduceAdd, Nat.reduceMul, Nat.reduceLeDiff, Nat.reduceLT, Nat.reduceEqDiff]
  refine use1 nears_ok rfl (.inl rfl) ?_
  simp only [ZZ, YY, Ze, ite_true, ite_false, forall_const, reduceCtorEq, Nat.reduceAdd, Nat.reduceMul, Nat.reduceLeDiff, Nat.reduceLT, Nat.reduceEqDiff]
  simp
theorem commonFound_walk (a0 : Option Addr) (len0 cap0 : Nat) (z0 : List Int) (w : World) (h0 : IsRow .i64 w a0 len0 cap0 z0) (he : E0.ok w ∧ ∀ b, E0.bl b → b < w.heap.size) :
    Calls Tryz.prog 5 #[.slice a0 len0 cap0] w fun e w' => e = .returned (.bool true) ∧ Below w.heap.size w w' :=
  walk_of commonFound_ok a0 len0 cap0 z0 w h0 he.1 he.2
end Go.Proofs.YthfpehmbellmcaaGreatDoor
