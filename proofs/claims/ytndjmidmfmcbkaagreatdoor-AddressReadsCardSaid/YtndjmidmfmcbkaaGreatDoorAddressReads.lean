
/- The law AddressReads: it returns true. -/
import Derived.Test.YtndjmidmfmcbkaaGreatDoorM10
namespace Go.Proofs.YtndjmidmfmcbkaaGreatDoor
open Go.RowKit
set_option linter.unusedVariables false
set_option linter.unusedSimpArgs false
set_option linter.defProp false

/- paperchase/chaselaw1.AddressReads -/
def ir_chaselaw1_AddressReads : IC :=
  (.seq (.reg [⟨some 2, .mov (.c (.bool false)), none⟩])
    (.seq (.reg [⟨some 15, .mov (.t 0), none⟩,
      ⟨some 16, .bld [.nl 1, .int .i64 0] [(0, 1, .t 15)], none⟩,
      ⟨some 17, .box 25 (.t 16), none⟩,
      ⟨some 3, .mov (.t 17), none⟩])
    (.seq (.reg [⟨some 18, .mov (.t 3), none⟩,
      ⟨some 19, .call 20 [.t 18], none⟩,
      ⟨some 4, .mov (.t 19), none⟩])
    (.seq (.reg [⟨some 21, .mov (.t 4), none⟩,
      ⟨some 22, .call 21 [.t 21], none⟩,
      ⟨some 20, .mov (.t 22), none⟩,
      ⟨some 23, .ext 0 (.t 20), none⟩,
      ⟨some 24, .ext 1 (.t 20), none⟩,
      ⟨some 5, .alc 49 [.str [], .str []], none⟩,
      ⟨none, .st 2 (.t 5) (.t 23), none⟩,
      ⟨some 6, .mov (.t 24), none⟩])
    (.seq (.reg [⟨some 26, .mov (.t 4), none⟩,
      ⟨some 27, .call 22 [.t 26], none⟩,
      ⟨some 25, .mov (.t 27), none⟩,
      ⟨some 28, .ext 0 (.t 25), none⟩,
      ⟨some 29, .ext 1 (.t 25), none⟩,
      ⟨some 7, .alc 49 [.str [], .str []], none⟩,
      ⟨none, .st 2 (.t 7) (.t 28), none⟩,
      ⟨some 8, .mov (.t 29), none⟩])
    (.seq (.seq (.reg [⟨some 30, .mov (.t 6), none⟩,
      ⟨some 31, .mov (.t 8), none⟩,
      ⟨some 32, .bin .neq (.t 30) (.t 31), none⟩,
      ⟨some 33, .mov (.t 32), none⟩,
      ⟨some 34, .ld 2 true (.t 5), (some (33, false))⟩,
      ⟨some 35, .ld 2 true (.t 7), (some (33, false))⟩,
      ⟨some 36, .eqa true [.s, .s] (.t 34) (.t 35), (some (33, false))⟩,
      ⟨some 37, .pick (.t 33) (.c (.bool true)) (.t 36), none⟩])
    (.cond (.t 37) (.seq (.reg [⟨some 2, .mov (.c (.bool false)), none⟩])
    .ret) .skip))
    (.seq (.reg [⟨some 38, .mov (.t 3), none⟩,
      ⟨some 39, .call 23 [.t 38], none⟩,
      ⟨some 4, .mov (.t 39), none⟩])
    (.seq (.reg [⟨some 41, .mov (.t 4), none⟩,
      ⟨none, .fz (.t 41), none⟩,
      ⟨some 42, .call 24 [.t 41], none⟩,
      ⟨some 40, .mov (.t 42), none⟩,
      ⟨some 43, .ext 0 (.t 40), none⟩,
      ⟨some 44, .ext 1 (.t 40), none⟩,
      ⟨some 9, .mov (.t 43), none⟩,
      ⟨some 10, .mov (.t 44), none⟩])
    (.seq (.reg [⟨some 46, .mov (.t 4), none⟩,
      ⟨none, .fz (.t 46), none⟩,
      ⟨some 47, .call 25 [.t 46], none⟩,
      ⟨some 45, .mov (.t 47), none⟩,
      ⟨some 48, .ext 0 (.t 45), none⟩,
      ⟨some 49, .ext 1 (.t 45), none⟩,
      ⟨some 11, .mov (.t 48), none⟩,
      ⟨some 12, .mov (.t 49), none⟩])
    (.seq (.seq (.reg [⟨some 50, .mov (.t 10), none⟩,
      ⟨some 51, .mov (.t 12), none⟩,
      ⟨some 52, .bin .neq (.t 50) (.t 51), none⟩,
      ⟨some 53, .mov (.t 52), none⟩,
      ⟨some 54, .mov (.t 9), (some (53, false))⟩,
      ⟨some 55, .mov (.t 11), (some (53, false))⟩,
      ⟨some 56, .call 26 [.t 54, .t 55], (some (53, false))⟩,
      ⟨some 57, .not (.t 56), (some (53, false))⟩,
      ⟨some 58, .pick (.t 53) (.c (.bool true)) (.t 57), none⟩])
    (.cond (.t 58) (.seq (.reg [⟨some 2, .mov (.c (.bool false)), none⟩])
    .ret) .skip))
    (.seq (.seq (.reg [⟨some 59, .mov (.t 3), none⟩,
      ⟨some 60, .call 27 [.t 59, .c (.int .i64 4)], none⟩])
    (.cond (.t 60) (.reg [⟨some 61, .mov (.t 3), none⟩,
      ⟨some 62, .bsl 1 [.c (.str []), .c (.str [32, 120]), .c (.str [97, 60, 98]), .c (.str [65, 110, 110]), .c (.str [97, 34, 98])], none⟩,
      ⟨some 63, .call 10 [.t 61, .t 62], none⟩,
      ⟨some 64, .fla 0 (.t 7), none⟩,
      ⟨none, .st 1 (.t 64) (.t 63), none⟩]) .skip))
    (.cut (.seq (.reg [⟨some 66, .ld 2 true (.t 7), none⟩,
      ⟨some 67, .call 28 [.t 66], none⟩,
      ⟨some 65, .mov (.t 67), none⟩,
      ⟨some 68, .ext 0 (.t 65), none⟩,
      ⟨some 69, .ext 1 (.t 65), none⟩,
      ⟨some 13, .mov (.t 68), none⟩,
      ⟨some 14, .mov (.t 69), none⟩])
    (.seq (.seq (.reg [⟨some 70, .ld 2 true (.t 7), none⟩,
      ⟨some 71, .call 29 [.t 70], none⟩,
      ⟨some 72, .not (.t 71), none⟩])
    (.cond (.t 72) (.seq (.reg [⟨some 73, .call 30 [], none⟩,
      ⟨some 74, .mov (.t 73), none⟩,
      ⟨some 75, .mov (.t 14), (some (74, true))⟩,
      ⟨some 76, .bin .eql (.t 75) (.c (.int .i64 3)), (some (74, true))⟩,
      ⟨some 77, .pick (.t 74) (.t 76) (.c (.bool false)), none⟩,
      ⟨some 2, .mov (.t 77), none⟩])
    .ret) .skip))
    (.seq (.reg [⟨some 78, .call 30 [], none⟩,
      ⟨some 79, .mov (.t 78), none⟩,
      ⟨some 80, .mov (.t 14), (some (79, true))⟩,
      ⟨some 81, .bin .eql (.t 80) (.c (.int .i64 0)), (some (79, true))⟩,
      ⟨some 82, .pick (.t 79) (.t 81) (.c (.bool false)), none⟩,
      ⟨some 83, .mov (.t 82), none⟩,
      ⟨some 84, .mov (.t 13), (some (83, true))⟩,
      ⟨some 85, .ld 2 true (.t 7), (some (83, true))⟩,
      ⟨some 86, .call 31 [.t 85], (some (83, true))⟩,
      ⟨some 87, .bin .eql (.t 84) (.t 86), (some (83, true))⟩,
      ⟨some 88, .pick (.t 83) (.t 87) (.c (.bool false)), none⟩,
      ⟨some 2, .mov (.t 88), none⟩])
    .ret)))))))))))))))
def rs_chaselaw1_AddressReads : List IRes := [.t 2]
theorem ck_chaselaw1_AddressReads : chkF Tryz.prog Tryz.f4 ir_chaselaw1_AddressReads rs_chaselaw1_AddressReads 89 = true := by kernel_rfl

def arA : List (List UInt8) := [[], [32, 120], [97, 60, 98], [65, 110, 110], [97, 34, 98]]
theorem arA_len : ∀ s ∈ arA, s.length ≤ 500 := by decide +kernel
theorem adL_len (t : List UInt8) : (adL t).1.length ≤ 2 * t.length + 1 ∧ (adL t).2.1.length ≤ t.length := by
  rw [adL]
  split
  · simp
  · have := adE_len (Lib.trimS t [32])
    have := trimS_len t [32]
    omega
theorem adsF_len (s : List UInt8) : (adsF s).1.length ≤ 1000000 := by
  have key : ∀ (p : List (List UInt8)) (o r : List AdT), adsG p o = some r → r.length ≤ o.length + p.length := by
    intro p
    induction p with
    | nil => intro o r h; rw [adsG] at h; cases h; simp
    | cons x p ih =>
      intro o r h
      rw [adsG] at h
      split at h
      · cases h
      · split at h
        · have := ih _ _ h; simp only [List.length_cons]; omega
        · have := ih _ _ h; simp only [List.length_append, List.length_cons, List.length_nil] at this ⊢; omega
  rw [adsF]
  split
  · simp
  · split
    · simp
    · rename_i h1 h2
      cases h : adsG (pieceF s) [] with
      | none => simp [adsE]
      | some r => have := key _ _ _ h; simp only [adsE, List.length_nil] at this ⊢; omega
set_option maxHeartbeats 4000000 in
theorem addressReads_ok (z : List Int) (hl : z.length ≤ 9223372036854775807) : PCall Tryz.prog E0 4 [ints z] (· = .bool true) := by
  refine pcallF mixed Tryz.func4 ck_chaselaw1_AddressReads ?_
  simp only [a0, l0, OS.ao, List.map_cons, List.map_nil, List.length_cons, List.length_nil, List.cons_append, List.nil_append, Nat.reduceSub, Nat.reduceAdd, List.replicate_succ, List.replicate_zero, ir_chaselaw1_AddressReads, rs_chaselaw1_AddressReads, ZZ, YY, Zd, ite_true, ite_false, forall_const, reduceCtorEq, Nat.reduceAdd, Nat.reduceMul, Nat.reduceLeDiff, Nat.reduceLT, Nat.reduceEqDiff]
  simp only [ints, ZZ, YY, Zd, ite_true, ite_false, forall_const, reduceCtorEq, Nat.reduceAdd, Nat.reduceMul, Nat.reduceLeDiff, Nat.reduceLT, Nat.reduceEqDiff]
  refine useS (k := .l 17) (AddressText_ok' z 0 (by omega) hl) rfl rfl rfl (by simp only [ZZ, YY, Zd, ite_true, ite_false, forall_const, reduceCtorEq, Nat.reduceAdd, Nat.reduceMul, Nat.reduceLeDiff, Nat.reduceLT, Nat.reduceEqDiff]) ?_
  rintro x cs' ⟨t, k1, rfl, ht, rfl, hk1⟩
  simp only [ZZ, YY, Zd, ite_true, ite_false, forall_const, reduceCtorEq, Nat.reduceAdd, Nat.reduceMul, Nat.reduceLeDiff, Nat.reduceLT, Nat.reduceEqDiff]
  refine use1 (Address_ok t (by omega)) rfl (.inl rfl) ?_
  simp only [ZZ, YY, Zd, ite_true, ite_false, forall_const, reduceCtorEq, Nat.reduceAdd, Nat.reduceMul, Nat.reduceLeDiff, Nat.reduceLT, Nat.reduceEqDiff]
  refine use1 (AddressOf_ok t (by omega)) rfl (.inl rfl) ?_
  have hql := adL_len t
  generalize adL t = q at *
  obtain ⟨n, m, e⟩ := q
  simp only at hql
  simp only [ZZ, YY, Zd, ite_true, ite_false, forall_const, reduceCtorEq, Nat.reduceAdd, Nat.reduceMul, Nat.reduceLeDiff, Nat.reduceLT, Nat.reduceEqDiff]
  refine ⟨fun _ => by simp, ?_⟩
  refine br (fun h => by simp at h) ?_
  intro _
  simp only [ZZ, YY, Zd, ite_true, ite_false, forall_const, reduceCtorEq, Nat.reduceAdd, Nat.reduceMul, Nat.reduceLeDiff, Nat.reduceLT, Nat.reduceEqDiff]
  refine useS (k := .l 17) (AddressList_ok z k1 (by omega) hl) rfl rfl rfl (by simp only [ZZ, YY, Zd, ite_true, ite_false, forall_const, reduceCtorEq, Nat.reduceAdd, Nat.reduceMul, Nat.reduceLeDiff, Nat.reduceLT, Nat.reduceEqDiff]) ?_
  rintro x cs' ⟨t2, k2, rfl, ht2, rfl, hk2⟩
  simp only [ZZ, YY, Zd, ite_true, ite_false, forall_const, reduceCtorEq, Nat.reduceAdd, Nat.reduceMul, Nat.reduceLeDiff, Nat.reduceLT, Nat.reduceEqDiff]
  refine use1 (Addresses_ok t2 (by omega)) rfl (.inl rfl) ?_
  simp only [ZZ, YY, Zd, ite_true, ite_false, forall_const, reduceCtorEq, Nat.reduceAdd, Nat.reduceMul, Nat.reduceLeDiff, Nat.reduceLT, Nat.reduceEqDiff]
  refine use1 (AddressesOf_ok t2 (by omega)) rfl (.inl rfl) ?_
  have hrl := adsF_len t2
  generalize adsF t2 = r at *
  obtain ⟨o, e2⟩ := r
  simp only at hrl
  have hEq := EqualA_ok (E := E0) o o (by omega)
  rw [decide_eq_true rfl] at hEq
  simp only [ZZ, YY, Zd, ite_true, ite_false, forall_const, reduceCtorEq, Nat.reduceAdd, Nat.reduceMul, Nat.reduceLeDiff, Nat.reduceLT, Nat.reduceEqDiff]
  refine useG (fun _ => hEq) rfl (.inl rfl) ?_
  simp only [ZZ, YY, Zd, ite_true, ite_false, forall_const, reduceCtorEq, Nat.reduceAdd, Nat.reduceMul, Nat.reduceLeDiff, Nat.reduceLT, Nat.reduceEqDiff]
  refine ⟨fun _ => by simp, ?_⟩
  refine br (fun h => by simp at h) ?_
  intro _
  simp only [ZZ, YY, Zd, ite_true, ite_false, forall_const, reduceCtorEq, Nat.reduceAdd, Nat.reduceMul, Nat.reduceLeDiff, Nat.reduceLT, Nat.reduceEqDiff]
  refine useS (k := .l 17) (Flip_ok z k2 4 (by omega) hl (by decide)) rfl rfl rfl (by simp only [ZZ, YY, Zd, ite_true, ite_false, forall_const, reduceCtorEq, Nat.reduceAdd, Nat.reduceMul, Nat.reduceLeDiff, Nat.reduceLT, Nat.reduceEqDiff]) ?_
  rintro x cs' ⟨b, rfl, rfl⟩
  simp only [ZZ, YY, Zd, ite_true, ite_false, forall_const, reduceCtorEq, Nat.reduceAdd, Nat.reduceMul, Nat.reduceLeDiff, Nat.reduceLT, Nat.reduceEqDiff]
  refine br_join (fun fr L => ∃ n', n'.length ≤ 100000 ∧ fr = [.any, .any, .any, .any, .any, .any, .any, .adr (.l 7) 0, .any, .any, .any, .any, .any, .any, .any, .any, .any, .any, .any, .any, .any, .any, .any, .any, .any, .any, .any, .any, .any, .any, .any, .any, .any, .any, .any, .any, .any, .any, .any, .any, .any, .any, .any, .any, .any, .any, .any, .any, .any, .any, .any, .any, .any, .any, .any, .any, .any, .any, .any, .any, .any, .any, .any, .any, .any, .any, .any, .any, .any, .any, .any, .any, .any, .any, .any, .any, .any, .any, .any, .any, .any, .any, .any, .any, .any, .any, .any, .any, .any] ∧ L = [(.l 7, .box [.p (.str n'), .p (.str m)] tAddr)]) ?_ ?_ ?_
  · intro _
    simp only [ZZ, YY, Zd, ite_true, ite_false, forall_const, reduceCtorEq, Nat.reduceAdd, Nat.reduceMul, Nat.reduceLeDiff, Nat.reduceLT, Nat.reduceEqDiff]
    refine useS (k := .l 17) (One_ok z (k2 + 1) arA (by omega) hl (by decide) (by decide)) rfl rfl rfl (by simp only [ZZ, YY, Zd, ite_true, ite_false, forall_const, reduceCtorEq, Nat.reduceAdd, Nat.reduceMul, Nat.reduceLeDiff, Nat.reduceLT, Nat.reduceEqDiff]) ?_
    rintro x cs' ⟨n', rfl, hn, rfl⟩
    have hn := arA_len n' hn
    simp only [ZZ, YY, Zd, ite_true, ite_false, forall_const, reduceCtorEq, Nat.reduceAdd, Nat.reduceMul, Nat.reduceLeDiff, Nat.reduceLT, Nat.reduceEqDiff]
    exact to_mid _ _ (by (simp only [ZZ, YY, Zd, ite_true, ite_false, forall_const, reduceCtorEq, Nat.reduceAdd, Nat.reduceMul, Nat.reduceLeDiff, Nat.reduceLT, Nat.reduceEqDiff]; try trivial)) (by simp only [ZZ, YY, Zd, ite_true, ite_false, forall_const, reduceCtorEq, Nat.reduceAdd, Nat.reduceMul, Nat.reduceLeDiff, Nat.reduceLT, Nat.reduceEqDiff]) ⟨n', by omega, rfl, rfl⟩
  · intro _
    simp only [ZZ, YY, Zd, ite_true, ite_false, forall_const, reduceCtorEq, Nat.reduceAdd, Nat.reduceMul, Nat.reduceLeDiff, Nat.reduceLT, Nat.reduceEqDiff]
    exact to_mid _ _ (by (simp only [ZZ, YY, Zd, ite_true, ite_false, forall_const, reduceCtorEq, Nat.reduceAdd, Nat.reduceMul, Nat.reduceLeDiff, Nat.reduceLT, Nat.reduceEqDiff]; try trivial)) (by simp only [ZZ, YY, Zd, ite_true, ite_false, forall_const, reduceCtorEq, Nat.reduceAdd, Nat.reduceMul, Nat.reduceLeDiff, Nat.reduceLT, Nat.reduceEqDiff]) ⟨n, by omega, rfl, rfl⟩
  rintro fr L ⟨n', hn', rfl, rfl⟩
  simp only [ZZ, YY, Zd, ite_true, ite_false, forall_const, reduceCtorEq, Nat.reduceAdd, Nat.reduceMul, Nat.reduceLeDiff, Nat.reduceLT, Nat.reduceEqDiff]
  refine use1 (PrintAddress_ok n' m (by omega) (by omega)) rfl (.inl rfl) ?_
  simp only [ZZ, YY, Zd, ite_true, ite_false, forall_const, reduceCtorEq, Nat.reduceAdd, Nat.reduceMul, Nat.reduceLeDiff, Nat.reduceLT, Nat.reduceEqDiff]
  refine use1 (AddressRight_ok n' m (by omega) (by omega)) rfl (.inl rfl) ?_
  generalize (nameB n' && mailF m) = g at *
  simp only [ZZ, YY, Zd, ite_true, ite_false, forall_const, reduceCtorEq, Nat.reduceAdd, Nat.reduceMul, Nat.reduceLeDiff, Nat.reduceLT, Nat.reduceEqDiff]
  refine br ?_ ?_
  · intro hg
    have hg : g = false := by simpa using hg
    subst hg
    simp only [ZZ, YY, Zd, ite_true, ite_false, forall_const, reduceCtorEq, Nat.reduceAdd, Nat.reduceMul, Nat.reduceLeDiff, Nat.reduceLT, Nat.reduceEqDiff]
    refine use1 threads_ok rfl (.inl rfl) ?_
    simp only [ZZ, YY, Zd, ite_true, ite_false, forall_const, reduceCtorEq, Nat.reduceAdd, Nat.reduceMul, Nat.reduceLeDiff, Nat.reduceLT, Nat.reduceEqDiff]
    simp
  · intro hg
    have hg : g = true := by simpa using hg
    subst hg
    simp only [ZZ, YY, Zd, ite_true, ite_false, forall_const, reduceCtorEq, Nat.reduceAdd, Nat.reduceMul, Nat.reduceLeDiff, Nat.reduceLT, Nat.reduceEqDiff]
    refine use1 threads_ok rfl (.inl rfl) ?_
    simp only [ZZ, YY, Zd, ite_true, ite_false, forall_const, reduceCtorEq, Nat.reduceAdd, Nat.reduceMul, Nat.reduceLeDiff, Nat.reduceLT, Nat.reduceEqDiff]
    refine useG (fun _ => AddressText_ok n' m (by omega) (by omega)) rfl (.inl rfl) ?_
    simp only [ZZ, YY, Zd, ite_true, ite_false, forall_const, reduceCtorEq, Nat.reduceAdd, Nat.reduceMul, Nat.reduceLeDiff, Nat.reduceLT, Nat.reduceEqDiff]
    simp
theorem addressReads_walk (a0 : Option Addr) (len0 cap0 : Nat) (z0 : List Int) (w : World) (h0 : IsRow .i64 w a0 len0 cap0 z0) (he : E0.ok w ∧ ∀ b, E0.bl b → b < w.heap.size) :
    Calls Tryz.prog 4 #[.slice a0 len0 cap0] w fun e w' => e = .returned (.bool true) ∧ Below w.heap.size w w' :=
  walk_of addressReads_ok a0 len0 cap0 z0 w h0 he.1 he.2
end Go.Proofs.YtndjmidmfmcbkaaGreatDoor
