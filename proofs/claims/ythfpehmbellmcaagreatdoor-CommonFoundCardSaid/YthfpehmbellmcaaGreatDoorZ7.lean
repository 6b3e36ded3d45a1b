
/- Own texts, put together: N3 M3 M4 H1 H2 H3 M5 G1 M6 C2. -/
import Derived.Test.YthfpehmbellmcaaGreatDoorZ5
import Derived.Test.YthfpehmbellmcaaGreatDoorZ6
import Derived.Test.YthfpehmbellmcaaGreatDoorZ3
import Derived.Test.YthfpehmbellmcaaGreatDoorZ4
import Derived.WalkKit
import Derived.OwnWalk
import Derived.Lib.Builder
import Derived.Laws.Externs
import Derived.Maps.AppendAt
import Derived.Shelf.RegionOpenPlain
import Derived.Lib.Strings
import Derived.Lib.Slices
import Derived.Lib.Walk
import Derived.Lib.MakeNoZero
import Derived.Laws.IdiomCopy
import Derived.Laws.BitsLemmas
import Derived.KernelRfl
import Derived.Lib.Join
import Derived.Test.YthfpehmbellmcaaGreatDoorRep
import Derived.Lib.IndexMore
/- slices.Index and Contains at strings. -/
namespace Go.Proofs.YthfpehmbellmcaaGreatDoor
open Go.RowKit
set_option linter.unusedVariables false
set_option linter.unusedSimpArgs false
set_option linter.defProp false

/- slices.Index[[]string,string] -/
def ir_slices_Index_string_string_L0 : IC :=
  (.seq (.reg [⟨some 9, .bin .lss (.t 8) (.t 7), none⟩])
    (.seq (.cond (.t 9) .skip (.exit 0))
    (.seq (.block 1 (.seq (.reg [⟨some 10, .mov (.t 8), none⟩,
      ⟨some 5, .mov (.t 10), none⟩])
    (.seq (.reg [⟨some 11, .mov (.t 1), none⟩,
      ⟨some 12, .mov (.t 0), none⟩,
      ⟨some 13, .mov (.t 5), none⟩,
      ⟨some 14, .ixa 1 (.t 12) (.t 13), none⟩,
      ⟨some 15, .ld 1 false (.t 14), none⟩,
      ⟨some 16, .bin .eql (.t 11) (.t 15), none⟩])
    (.cond (.t 16) (.seq (.reg [⟨some 17, .mov (.t 5), none⟩,
      ⟨some 4, .mov (.t 17), none⟩])
    .ret) .skip))))
    (.reg [⟨some 18, .bin .add (.t 8) (.c (.int .i64 1)), none⟩,
      ⟨some 8, .mov (.t 18), none⟩]))))
def ir_slices_Index_string_string : IC :=
  (.seq (.reg [⟨some 4, .mov (.c (.int .i64 0)), none⟩])
    (.seq (.seq (.reg [⟨some 6, .mov (.t 0), none⟩,
      ⟨some 7, .len (.t 6), none⟩,
      ⟨some 8, .mov (.c (.int .i64 0)), none⟩])
    (.block 0 (.loop ir_slices_Index_string_string_L0)))
    (.seq (.reg [⟨some 4, .mov (.c (.int .i64 (-1))), none⟩])
    .ret)))
def rs_slices_Index_string_string : List IRes := [.t 4]
theorem ck_slices_Index_string_string : chkF Tryz.prog Tryz.f124 ir_slices_Index_string_string rs_slices_Index_string_string 19 = true := by kernel_rfl

/- slices.Contains[[]string,string] -/
def ir_slices_Contains_string_string : IC :=
  (.seq (.reg [⟨some 4, .mov (.c (.bool false)), none⟩])
    (.seq (.reg [⟨some 5, .mov (.t 0), none⟩,
      ⟨some 6, .mov (.t 1), none⟩,
      ⟨some 7, .call 124 [.t 5, .t 6], none⟩,
      ⟨some 8, .bin .geq (.t 7) (.c (.int .i64 0)), none⟩,
      ⟨some 4, .mov (.t 8), none⟩])
    .ret))
def rs_slices_Contains_string_string : List IRes := [.t 4]
theorem ck_slices_Contains_string_string : chkF Tryz.prog Tryz.f71 ir_slices_Contains_string_string rs_slices_Contains_string_string 9 = true := by kernel_rfl

def idxS (l : List (List UInt8)) (x : List UInt8) (k : Nat) : Int := if h : k < l.length then (if x = l[k] then k else idxS l x (k + 1)) else -1
termination_by l.length - k
theorem IndexS_ok (l : List (List UInt8)) (x : List UInt8) (hl : l.length ≤ 1000000000) : PCall Tryz.prog E0 124 [.sl 1 (strE l), .str x] (· = int (idxS l x 0)) := by
  refine pcallF mixed Tryz.func124 ck_slices_Index_string_string ?_
  simp only [a0, l0, OS.ao, List.map_cons, List.map_nil, List.length_cons, List.length_nil, List.cons_append, List.nil_append, Nat.reduceSub, Nat.reduceAdd, List.replicate_succ, List.replicate_zero, ir_slices_Index_string_string, rs_slices_Index_string_string, ZZ, YY, Ze, ite_true, ite_false, forall_const, reduceCtorEq, Nat.reduceAdd, Nat.reduceMul, Nat.reduceLeDiff, Nat.reduceLT, Nat.reduceEqDiff]
  simp only [ZZ, YY, Ze, ite_true, ite_false, forall_const, reduceCtorEq, Nat.reduceAdd, Nat.reduceMul, Nat.reduceLeDiff, Nat.reduceLT, Nat.reduceEqDiff, strE_len]
  refine loop_intro (fun n fr L => ∃ (k : Nat), k ≤ l.length ∧ n = l.length - k ∧ (idxS l x 0 = idxS l x k) ∧ fr = [.p (.sl 1 (strE l)), .p (.str x), .any, .any, .any, .any, .any, .p (int (l.length : Nat)), .p (int (k : Nat)), .any, .any, .any, .any, .any, .any, .any, .any, .any, .any] ∧ L = []) (l.length) [.p (.sl 1 (strE l)), .p (.str x), .any, .any, .any, .any, .any, .p (int (l.length : Nat)), .p (int (0 : Nat)), .any, .any, .any, .any, .any, .any, .any, .any, .any, .any] [] (by simp only [ZZ, YY, Ze, ite_true, ite_false, forall_const, reduceCtorEq, Nat.reduceAdd, Nat.reduceMul, Nat.reduceLeDiff, Nat.reduceLT, Nat.reduceEqDiff, strE_len]; try trivial) (by (simp only [ZZ, YY, Ze, ite_true, ite_false, forall_const, reduceCtorEq, Nat.reduceAdd, Nat.reduceMul, Nat.reduceLeDiff, Nat.reduceLT, Nat.reduceEqDiff]; try trivial)) ⟨0, by omega, by omega, rfl, rfl, rfl⟩ ?_
  rintro n fr L ⟨k, hk, rfl, hf, rfl, rfl⟩
  simp only [ir_slices_Index_string_string_L0, ZZ, YY, Ze, ite_true, ite_false, forall_const, reduceCtorEq, Nat.reduceAdd, Nat.reduceMul, Nat.reduceLeDiff, Nat.reduceLT, Nat.reduceEqDiff]
  refine br ?_ ?_
  · intro h
    have hlt : k < l.length := by have := of_decide_eq_true h; omega
    have hg := strE_get (List.getElem?_eq_getElem hlt)
    simp only [ZZ, YY, Ze, ite_true, ite_false, forall_const, reduceCtorEq, Nat.reduceAdd, Nat.reduceMul, Nat.reduceLeDiff, Nat.reduceLT, Nat.reduceEqDiff, hg, strE_len]
    ((repeat' (with_reducible apply And.intro)) <;> try ((first | first | assumption | trivial | exact (fun hq => by rw [hq]; rfl) | exact i64_of (by omega) (by omega) | omega | (simp; done) | (simp; omega) | (intro hsc; have hs0 := hsc; (try have hsd := of_decide_eq_true hsc); (try simp only [Bool.not_eq_true', Bool.or_eq_false_iff, Bool.and_eq_true, Bool.or_eq_true, decide_eq_true_eq, decide_eq_false_iff_not] at hsc); (repeat' (with_reducible apply And.intro)) <;> (first | assumption | trivial | exact (fun hq => by rw [hq]; rfl) | exact i64_of (by omega) (by omega) | omega | (simp; done) | (simp; omega) | (intro hse; simp [hse, hs0]; done) | (intro hse; simp only [hse, hs0, Bool.true_and, Bool.and_true, Bool.not_false, Bool.not_true, Bool.and_self]; done))))))
    refine br ?_ ?_
    · intro h2
      have h2 : x = l[k] := of_decide_eq_true h2
      simp only [ZZ, YY, Ze, ite_true, ite_false, forall_const, reduceCtorEq, Nat.reduceAdd, Nat.reduceMul, Nat.reduceLeDiff, Nat.reduceLT, Nat.reduceEqDiff]
      rw [hf, idxS, dif_pos hlt, if_pos h2]
    · intro h2
      have h2 : ¬ x = l[k] := of_decide_eq_false h2
      simp only [ZZ, YY, Ze, ite_true, ite_false, forall_const, reduceCtorEq, Nat.reduceAdd, Nat.reduceMul, Nat.reduceLeDiff, Nat.reduceLT, Nat.reduceEqDiff]
      ((repeat' (with_reducible apply And.intro)) <;> try ((first | first | assumption | trivial | exact (fun hq => by rw [hq]; rfl) | exact i64_of (by omega) (by omega) | omega | (simp; done) | (simp; omega) | (intro hsc; have hs0 := hsc; (try have hsd := of_decide_eq_true hsc); (try simp only [Bool.not_eq_true', Bool.or_eq_false_iff, Bool.and_eq_true, Bool.or_eq_true, decide_eq_true_eq, decide_eq_false_iff_not] at hsc); (repeat' (with_reducible apply And.intro)) <;> (first | assumption | trivial | exact (fun hq => by rw [hq]; rfl) | exact i64_of (by omega) (by omega) | omega | (simp; done) | (simp; omega) | (intro hse; simp [hse, hs0]; done) | (intro hse; simp only [hse, hs0, Bool.true_and, Bool.and_true, Bool.not_false, Bool.not_true, Bool.and_self]; done))))))
      refine end_round (l.length - (k + 1)) [.p (.sl 1 (strE l)), .p (.str x), .any, .any, .any, .any, .any, .p (int (l.length : Nat)), .p (int ((k + 1) : Nat)), .any, .any, .any, .any, .any, .any, .any, .any, .any, .any] [] (by omega) (by (simp only [ZZ, YY, Ze, ite_true, ite_false, forall_const, reduceCtorEq, Nat.reduceAdd, Nat.reduceMul, Nat.reduceLeDiff, Nat.reduceLT, Nat.reduceEqDiff]; try trivial)) (by (simp only [ZZ, YY, Ze, ite_true, ite_false, forall_const, reduceCtorEq, Nat.reduceAdd, Nat.reduceMul, Nat.reduceLeDiff, Nat.reduceLT, Nat.reduceEqDiff]; try trivial)) ⟨k + 1, by omega, rfl, by rw [hf, idxS, dif_pos hlt, if_neg h2], rfl, rfl⟩
  · intro h
    have hge : ¬ k < l.length := by have := of_decide_eq_false h; omega
    simp only [ZZ, YY, Ze, ite_true, ite_false, forall_const, reduceCtorEq, Nat.reduceAdd, Nat.reduceMul, Nat.reduceLeDiff, Nat.reduceLT, Nat.reduceEqDiff]
    rw [hf, idxS, dif_neg hge]
theorem idxS_mem (l : List (List UInt8)) (x : List UInt8) : ∀ (n k : Nat), l.length - k ≤ n → (0 ≤ idxS l x k ↔ x ∈ l.drop k) := by
  intro n
  induction n with
  | zero =>
    intro k hk
    rw [idxS, dif_neg (by omega), List.drop_eq_nil_of_le (by omega)]
    simp
  | succ n ih =>
    intro k hk
    rw [idxS]
    split
    · rename_i h
      rw [List.drop_eq_getElem_cons h, List.mem_cons]
      split
      · rename_i e; simp [e]
      · rename_i e
        rw [ih (k + 1) (by omega)]
        simp [e]
    · rename_i h
      rw [List.drop_eq_nil_of_le (by omega)]
      simp
theorem ContainsS_ok (l : List (List UInt8)) (x : List UInt8) (hl : l.length ≤ 1000000000) : PCall Tryz.prog E0 71 [.sl 1 (strE l), .str x] (· = .bool (decide (x ∈ l))) := by
  refine pcallF mixed Tryz.func71 ck_slices_Contains_string_string ?_
  simp only [a0, l0, OS.ao, List.map_cons, List.map_nil, List.length_cons, List.length_nil, List.cons_append, List.nil_append, Nat.reduceSub, Nat.reduceAdd, List.replicate_succ, List.replicate_zero, ir_slices_Contains_string_string, rs_slices_Contains_string_string, ZZ, YY, Ze, ite_true, ite_false, forall_const, reduceCtorEq, Nat.reduceAdd, Nat.reduceMul, Nat.reduceLeDiff, Nat.reduceLT, Nat.reduceEqDiff]
  refine use1 (IndexS_ok l x hl) rfl (.inl rfl) ?_
  simp only [ZZ, YY, Ze, ite_true, ite_false, forall_const, reduceCtorEq, Nat.reduceAdd, Nat.reduceMul, Nat.reduceLeDiff, Nat.reduceLT, Nat.reduceEqDiff]
  have := idxS_mem l x _ 0 (Nat.le_refl _)
  rw [List.drop_zero] at this
  simp only [this]
end Go.Proofs.YthfpehmbellmcaaGreatDoor

/- Kept tokens: near.kept. -/
namespace Go.Proofs.YthfpehmbellmcaaGreatDoor
open Go.RowKit
set_option linter.unusedVariables false
set_option linter.unusedSimpArgs false
set_option linter.defProp false

abbrev Toks := List (List UInt8)
theorem drop_at {x : Toks} {i : Nat} {s : List UInt8} (h : x[i]? = some s) : x.drop i = s :: x.drop (i + 1) := by
  obtain ⟨hl, rfl⟩ := List.getElem?_eq_some_iff.1 h
  exact List.drop_eq_getElem_cons hl
end Go.Proofs.YthfpehmbellmcaaGreatDoor

/- Kept tokens: chaseref1.keptOf, whose table is a row of rows. -/
namespace Go.Proofs.YthfpehmbellmcaaGreatDoor
open Go.RowKit
set_option linter.unusedVariables false
set_option linter.unusedSimpArgs false
set_option linter.defProp false

end Go.Proofs.YthfpehmbellmcaaGreatDoor

/- strings.Builder at this cut, with the exact blocks that change: turned from the library's own walks (Derived/Shelf/Strings: Builder1, Builder2) to this program. -/
namespace Go.Proofs.YthfpehmbellmcaaGreatDoor
open Go.RowKit
set_option linter.unusedVariables false
set_option linter.unusedSimpArgs false
set_option linter.defProp false

theorem b_info : (Tryz.prog.info? 5).map (fun i => (i.zero, i.size, i.bytes)) = some (some (.int .u8 0), 1, 1) := by kernel_rfl
theorem b_sizeB : (Tryz.prog.info? 109).map (·.size) = some 2 := by kernel_rfl
theorem b_liesB : liesAt Tryz.prog Tryz.prog.depth 109 (2 / Tryz.prog.cellsOf 109) 0 109 1 = true := by kernel_rfl
theorem b_usNone (W : World) (q : Option Addr) : (Builtin.unsafeString_ #[156, 3] 9 #[.pointer q, .int .i64 0]).run Tryz.prog W = .ok (.string .empty) W := Lib.run_unsafeString_none W _ _ _ q
theorem b_mixed : Tryz.prog.follows .mixedOrders = true := by kernel_rfl
theorem b_cells : Tryz.prog.cellsOf 5 = 1 := by kernel_rfl
theorem b_size : (Tryz.prog.info? 5).map (·.size) = some 1 := by kernel_rfl
abbrev tSb : TypeId := 109
abbrev tU8 : TypeId := 5

set_option maxHeartbeats 1000000 in
set_option maxRecDepth 100000 in
theorem b_ccUsed (b : Nat) (w : World) (h0 : w.cell? ⟨b, 0, none⟩ = some (.pointer (some ⟨b, 0, none⟩))) :
    Calls Tryz.prog 128 #[.pointer (some ⟨b, 0, none⟩)] w fun e w' => e = .returned (.tuple #[]) ∧ w' = w := by
  obtain ⟨j, hj, _⟩ := Option.map_eq_some_iff.1 b_sizeB
  go_enter Tryz.func128, Tryz.ntmps128
  go_wp2
  rw [Lib.run_neq_ptr_same w _ Tryz.underlying106 hj]
  go_wp2
  go_end0
  exact ⟨rfl, rfl⟩

set_option maxHeartbeats 1000000 in
set_option maxRecDepth 100000 in
theorem b_ccFresh (b : Nat) (w : World) (h0 : w.cell? ⟨b, 0, none⟩ = some (.pointer none)) (hsh : w.shape? b = some (109, 2)) (hfz : w.frozen? ⟨b, 0, none⟩ = false) :
    Calls Tryz.prog 128 #[.pointer (some ⟨b, 0, none⟩)] w fun e w' => e = .returned (.tuple #[]) ∧ w' = w.setCell ⟨b, 0, none⟩ (.pointer (some ⟨b, 0, none⟩)) := by
  obtain ⟨j, hj, hjs⟩ := Option.map_eq_some_iff.1 b_sizeB
  go_enter Tryz.func128, Tryz.ntmps128
  go_wp2
  rw [Lib.run_to_unsafe w ⟨b, 0, none⟩ Tryz.underlying106 Tryz.underlying172 hj (by rw [hjs]; decide) hsh (Nat.zero_lt_succ 1)]
  simp only [Result.andThen]
  rw [Oper.upon_value]
  go_wp2
  rw [run_callFunc_extern Tryz.func161 (by kernel_rfl) (by kernel_rfl) (by kernel_rfl) (e := Extern.AbiNoEscape.same) (by kernel_rfl)]
  rw [Lib.run_noEscape]
  simp only [Result.andThen]
  rw [Oper.upon_value]
  go_wp2
  rw [Lib.run_from_unsafe w ⟨b, 0, none⟩ Tryz.underlying172 Tryz.underlying106 hj hsh b_liesB]
  simp only [Result.andThen]
  rw [Oper.upon_value]
  go_wp2
  go_end0
  exact ⟨rfl, rfl⟩

theorem b_cc (b : Nat) (bs : List Value) (w : World) (h : Lib.IsBuilder 109 5 0 b bs w) :
    Calls Tryz.prog 128 #[.pointer (some ⟨b, 0, none⟩)] w fun e w' => e = .returned (.tuple #[]) ∧ CcPost 109 5 b bs w w' := by
  rcases h with h | h
  · refine (b_ccFresh b w h.cell0 h.shape h.frozen0).mono ?_
    rintro e w' ⟨rfl, rfl⟩
    exact ⟨rfl, ccpost_fresh h⟩
  · refine (b_ccUsed b w h.cell0).mono ?_
    rintro e w' ⟨rfl, rfl⟩
    exact ⟨rfl, ccpost_used h⟩

set_option maxHeartbeats 2000000 in
set_option maxRecDepth 100000 in
theorem sb_WriteString (b : Nat) (s t : List UInt8) (w : World) (h : Lib.IsBuilder 109 5 0 b (Lib.byteCells s) w) (hlen : s.length + t.length ≤ 140737488355328) :
    Calls Tryz.prog 75 #[.pointer (some ⟨b, 0, none⟩), .string ⟨t.toArray⟩] w fun e w' => e = .returned (.tuple #[.int .i64 t.length, .nilIface]) ∧ SbPost 109 5 b (s ++ t) w w' := by
  obtain ⟨i0, hi, hz0, hz1, hz2⟩ := info_parts b_info
  have hsz : (⟨t.toArray⟩ : ByteArray).size = t.length := by simp [ByteArray.size]
  have hcl : Lib.strCells ⟨t.toArray⟩ = Lib.byteCells t := by simp [Lib.strCells, Lib.byteCells]
  generalize hst : (⟨t.toArray⟩ : ByteArray) = st at hsz hcl ⊢
  rw [← hsz] at hlen ⊢
  go_enter Tryz.func75, Tryz.ntmps75
  go_wp2_with (go_at_call 128; refine (b_cc b _ _ h).mono ?_)
  rintro e w1 ⟨rfl, v, hbk, hown, hne, hG1, hbf⟩
  rw [Lib.byteCells_length] at hown
  have c0 : w1.cell? ⟨b, 0, none⟩ = some (.pointer (some ⟨b, 0, none⟩)) := by rw [Lib.cell_of_heap hbk]; rfl
  have c1 : w1.cell? ⟨b, 1, none⟩ = some v := by rw [Lib.cell_of_heap hbk]; rfl
  go_wp2_with (at_builtin; refine wpList_app_str rfl _ _ 107 9 rfl 0 5 i0 Tryz.underlying107 Tryz.underlying9 hi hz0 hz1 hz2 _ _ _ rfl hown st rfl (by unfold maxLen; omega) (by omega) (Nat.zero_le _) ?_)
  intro v' w2 hown' hgrow hat
  have hlt := lt_of_heap hbk
  have hb2 : w2.heap[b]? = some (.cells #[.pointer (some ⟨b, 0, none⟩), v] 109 (0, 0)) := by
    rw [hgrow.block b hlt (fun e => hne e.symm)]
    exact hbk
  have d0 : w2.cell? ⟨b, 0, none⟩ = some (.pointer (some ⟨b, 0, none⟩)) := by rw [Lib.cell_of_heap hb2]; rfl
  have d1 : w2.cell? ⟨b, 1, none⟩ = some v := by rw [Lib.cell_of_heap hb2]; rfl
  have f1 : w2.frozen? ⟨b, 1, none⟩ = false := Lib.frozen_of_heap hb2 1
  have hP : SbPost 109 5 b (s ++ t) w (w2.setCell ⟨b, 1, none⟩ v') :=
    sbpost_mk (by decide) hG1 hbf hbk hgrow hne hat (by first | (rw [hcl, hsz] at hown'; simpa [Lib.byteCells] using hown') | simpa [Lib.byteCells] using hown')
  obtain ⟨ao, n', cap, rfl⟩ : ∃ ao n' cap, v' = .slice ao n' cap := by
    rcases hown'.2 with ⟨hv, _⟩ | ⟨g, cap, cur, hv, _⟩
    · exact ⟨_, _, _, hv⟩
    · exact ⟨_, _, _, hv⟩
  go_wp2
  go_ret2
  exact ⟨by first | rfl | (rw [hsz]; rfl), hP⟩

end Go.Proofs.YthfpehmbellmcaaGreatDoor

/- strings.Builder at this cut, its string, its length, its growth: turned from the library's own walks (Derived/Shelf/Strings: Builder1, Builder2) to this program. -/
namespace Go.Proofs.YthfpehmbellmcaaGreatDoor
open Go.RowKit
set_option linter.unusedVariables false
set_option linter.unusedSimpArgs false
set_option linter.defProp false

set_option maxHeartbeats 1000000 in
set_option maxRecDepth 100000 in
theorem b_String (B b : Nat) (l : List UInt8) (w : World) (h : Lib.IsBuilder 109 5 B b (Lib.byteCells l) w) (h0 : l ≠ []) :
    Calls Tryz.prog 77 #[.pointer (some ⟨b, 0, none⟩)] w fun e w' => e = .returned (.string ⟨l.toArray⟩) ∧ Grow w w' (fun x => x = b ∨ bufOf w 109 b x) := by
  obtain ⟨p, hB, v, hbk, hown, hne⟩ : ∃ p, Lib.BuilderAt 109 5 B b p (Lib.byteCells l) w := by
    rcases h with h | h
    · exact ⟨_, h⟩
    · exact ⟨_, h⟩
  have hl0 : l.length ≠ 0 := by simpa using h0
  rw [Lib.byteCells_length] at hown
  obtain ⟨g, cap, cur, rfl, hbg, hg, hnc, hcm, hcs, htake⟩ : ∃ g cap cur, v = .slice (some ⟨g, 0, none⟩) l.length cap ∧ B ≤ g ∧ w.heap[g]? = some (.cells cur 5 (0, 0)) ∧ l.length ≤ cap ∧ cap ≤ maxLen ∧ cur.size = cap * 1 ∧ cur.toList.take (l.length * 1) = Lib.byteCells l := by
    rcases hown.2 with ⟨_, hz⟩ | ⟨g, cap, cur, hv, r⟩
    · exact absurd hz hl0
    · exact ⟨g, cap, cur, hv, r⟩
  have c1 : w.drew.cell? ⟨b, 1, none⟩ = some (.slice (some ⟨g, 0, none⟩) l.length cap) := by
    have : w.drew.heap[b]? = some (.cells #[p, .slice (some ⟨g, 0, none⟩) l.length cap] 109 (0, 0)) := hbk
    rw [Lib.cell_of_heap this]; rfl
  have hSD : (Builtin.unsafeSliceData_ #[107] 156 #[.slice (some ⟨g, 0, none⟩) l.length cap]).run Tryz.prog w.drew = .ok (.pointer (some ⟨g, 0, none⟩)) w.drew :=
    Lib.run_unsafeSliceData_row _ _ _ _ _ _ (by omega)
  have hUS : (Builtin.unsafeString_ #[156, 3] 9 #[.pointer (some ⟨g, 0, none⟩), .int .i64 l.length]).run Tryz.prog w.drew = .ok (.string ⟨l.toArray⟩) (w.drew.freeze ⟨g, 0, none⟩ l.length) := by
    refine Lib.run_unsafeString_row w.drew 156 3 9 5 Tryz.underlying156 b_cells g cur.size (by have hg' : w.drew.heap[g]? = some (.cells cur 5 (0, 0)) := hg; simp [World.shape?, hg']) l h0 (by omega) (by unfold maxLen at hcm; omega) ?_
    intro j x hx
    have := hown.cells (g := g) rfl j (.int .u8 x.toNat) (by simp [Lib.byteCells, hx])
    exact this
  have mixed := b_mixed
  go_enter Tryz.func77, Tryz.ntmps77
  go_wp2
  go_region_o
  all_goals (go_wp2; go_ret; exact ⟨rfl, grow_freeze (.inr ⟨_, _, hbk, rfl⟩)⟩)

set_option maxHeartbeats 2000000 in
set_option maxRecDepth 100000 in
theorem b_String_nil (B b : Nat) (p : Value) (w : World) (hbk : w.heap[b]? = some (.cells #[p, .slice none 0 0] 109 (0, 0))) :
    Calls Tryz.prog 77 #[.pointer (some ⟨b, 0, none⟩)] w fun e w' => e = .returned (.string ⟨#[]⟩) ∧ Grow w w' (fun x => x = b ∨ bufOf w 109 b x) := by
  have hUS := b_usNone
  have c1 : w.drew.cell? ⟨b, 1, none⟩ = some (.slice none 0 0) := by
    have : w.drew.heap[b]? = some (.cells #[p, .slice none 0 0] 109 (0, 0)) := hbk
    rw [Lib.cell_of_heap this]; rfl
  have hSD : (Builtin.unsafeSliceData_ #[107] 156 #[.slice none 0 0]).run Tryz.prog w.drew = .ok (.pointer none) w.drew := rfl
  have mixed := b_mixed
  go_enter Tryz.func77, Tryz.ntmps77
  go_wp2
  go_region_o
  all_goals (go_wp2; go_ret; exact ⟨rfl, (Grow.refl w _).drew⟩)

set_option maxHeartbeats 2000000 in
set_option maxRecDepth 100000 in
theorem b_String_noroom (B b g : Nat) (p : Value) (cur : Array Value) (w : World) (hBw : B ≤ w.heap.size) (hbk : w.heap[b]? = some (.cells #[p, .slice (some ⟨g, 0, none⟩) 0 0] 109 (0, 0))) (hg : w.heap[g]? = some (.cells cur 5 (0, 0))) :
    Calls Tryz.prog 77 #[.pointer (some ⟨b, 0, none⟩)] w fun e w' => e = .returned (.string ⟨#[]⟩) ∧ Grow w w' (fun x => x = b ∨ bufOf w 109 b x) := by
  have hUS := b_usNone
  have hlt : b < w.heap.size := by
    rcases Nat.lt_or_ge b w.heap.size with h' | h'
    · exact h'
    · simp [Array.getElem?_eq_none h'] at hbk
  have c1 : w.drew.cell? ⟨b, 1, none⟩ = some (.slice (some ⟨g, 0, none⟩) 0 0) := by
    have : w.drew.heap[b]? = some (.cells #[p, .slice (some ⟨g, 0, none⟩) 0 0] 109 (0, 0)) := hbk
    rw [Lib.cell_of_heap this]; rfl
  have hSD : (Builtin.unsafeSliceData_ #[107] 156 #[.slice (some ⟨g, 0, none⟩) 0 0]).run Tryz.prog w.drew = .ok (.pointer (some ⟨w.drew.heap.size, 0, none⟩)) (w.drew.alloc (.view ⟨g, 0, none⟩ 5)) :=
    Lib.run_unsafeSliceData_zero w.drew _ _ 5 Tryz.underlying156 ⟨g, 0, none⟩ 0 (5, cur.size) (by have hg' : w.drew.heap[g]? = some (.cells cur 5 (0, 0)) := hg; simp [World.shape?, hg'])
  have c2 : (w.drew.alloc (.view ⟨g, 0, none⟩ 5)).cell? ⟨b, 1, none⟩ = some (.slice (some ⟨g, 0, none⟩) 0 0) := by
    have : (w.drew.alloc (.view ⟨g, 0, none⟩ 5)).heap[b]? = _ := (Lib.alloc_old w.drew _ b hlt).trans hbk
    rw [Lib.cell_of_heap this]; rfl
  have c3 : (w.alloc (.view ⟨g, 0, none⟩ 5)).drew.cell? ⟨b, 1, none⟩ = some (.slice (some ⟨g, 0, none⟩) 0 0) := c2
  have c0 : w.cell? ⟨b, 1, none⟩ = some (.slice (some ⟨g, 0, none⟩) 0 0) := c1
  have mixed := b_mixed
  go_enter Tryz.func77, Tryz.ntmps77
  go_wp2
  go_region_o
  all_goals (go_wp2; go_ret; exact ⟨rfl, grow_alloc'⟩)

set_option maxHeartbeats 2000000 in
set_option maxRecDepth 100000 in
theorem b_String_room (B b g cap : Nat) (p : Value) (w : World) (hc0 : cap ≠ 0) (hbk : w.heap[b]? = some (.cells #[p, .slice (some ⟨g, 0, none⟩) 0 cap] 109 (0, 0))) :
    Calls Tryz.prog 77 #[.pointer (some ⟨b, 0, none⟩)] w fun e w' => e = .returned (.string ⟨#[]⟩) ∧ Grow w w' (fun x => x = b ∨ bufOf w 109 b x) := by
  have hUS := b_usNone
  have c1 : w.drew.cell? ⟨b, 1, none⟩ = some (.slice (some ⟨g, 0, none⟩) 0 cap) := by
    have : w.drew.heap[b]? = some (.cells #[p, .slice (some ⟨g, 0, none⟩) 0 cap] 109 (0, 0)) := hbk
    rw [Lib.cell_of_heap this]; rfl
  have hSD : (Builtin.unsafeSliceData_ #[107] 156 #[.slice (some ⟨g, 0, none⟩) 0 cap]).run Tryz.prog w.drew = .ok (.pointer (some ⟨g, 0, none⟩)) w.drew :=
    Lib.run_unsafeSliceData_row _ _ _ _ _ _ hc0
  clear hc0
  have mixed := b_mixed
  go_enter Tryz.func77, Tryz.ntmps77
  go_wp2
  go_region_o
  all_goals (go_wp2; go_ret; exact ⟨rfl, (Grow.refl w _).drew⟩)

theorem b_String_empty (B b : Nat) (w : World) (h : Lib.IsBuilder 109 5 B b [] w) (hBw : B ≤ w.heap.size) :
    Calls Tryz.prog 77 #[.pointer (some ⟨b, 0, none⟩)] w fun e w' => e = .returned (.string ⟨#[]⟩) ∧ Grow w w' (fun x => x = b ∨ bufOf w 109 b x) := by
  obtain ⟨p, hB, v, hbk, hown, hne⟩ : ∃ p, Lib.BuilderAt 109 5 B b p [] w := by
    rcases h with h | h
    · exact ⟨_, h⟩
    · exact ⟨_, h⟩
  rcases hown.2 with ⟨rfl, _⟩ | ⟨g, cap, cur, rfl, hbg, hg, _, _, _, _⟩
  · exact b_String_nil B b p w hbk
  · by_cases hc0 : cap = 0
    · subst hc0
      exact b_String_noroom B b g p cur w hBw hbk hg
    · exact b_String_room B b g cap p w hc0 hbk

theorem b_String_any (B b : Nat) (l : List UInt8) (w : World) (h : Lib.IsBuilder 109 5 B b (Lib.byteCells l) w) (hBw : B ≤ w.heap.size) :
    Calls Tryz.prog 77 #[.pointer (some ⟨b, 0, none⟩)] w fun e w' => e = .returned (.string ⟨l.toArray⟩) ∧ Grow w w' (fun x => x = b ∨ bufOf w 109 b x) := by
  cases l with
  | nil => exact b_String_empty B b w h hBw
  | cons x r => exact b_String B b (x :: r) w h (by simp)

set_option maxHeartbeats 2000000 in
set_option maxRecDepth 1000000 in
theorem b_grow_fresh (B b n : Nat) (w : World) (hB : B ≤ b) (hbk : w.heap[b]? = some (.cells #[.pointer (some ⟨b, 0, none⟩), .slice none 0 0] 109 (0, 0))) (hBw : B ≤ w.heap.size) (hn : n ≤ 281474976710656) :
    Calls Tryz.prog 129 #[.pointer (some ⟨b, 0, none⟩), .int .i64 n] w fun e w' => e = .returned (.tuple #[]) ∧ SbPost 109 5 b [] w w' := by
  obtain ⟨cs, hrun, hle, hmax⟩ := Lib.run_makeNoZero (P := Tryz.prog) w.drew #[3] 107 5 Tryz.underlying107 n hn
  have hw : IntKind.i64.wrap (IntKind.i64.wrap 0 + (n : Int)) = n := by
    rw [IntKind.wrap_i64, IntKind.wrap_i64]
    omega
  have hcall : (callFunc 162 #[.int .i64 (IntKind.i64.wrap (IntKind.i64.wrap 0 + (n : Int)))]).run Tryz.prog w.drew = .ok (.value (.slice (some ⟨w.drew.heap.size, 0, none⟩) n cs.size)) (w.drew.drew.drew.alloc (.cells cs 5)) := by
    rw [hw, run_callFunc_extern Tryz.func162 (by kernel_rfl) (by kernel_rfl) (by kernel_rfl) (e := Extern.BytealgMakeNoZero.makeNoZero #[3] #[107]) (by kernel_rfl), hrun]
    rfl
  have c1 : w.drew.cell? ⟨b, 1, none⟩ = some (.slice none 0 0) := by
    have : w.drew.heap[b]? = _ := hbk
    rw [Lib.cell_of_heap this]; rfl
  have c2 : (w.alloc (.cells cs 5)).cell? ⟨b, 1, none⟩ = some (.slice none 0 0) := by
    have hlt : b < w.heap.size := by
      rcases Nat.lt_or_ge b w.heap.size with h' | h'
      · exact h'
      · simp [Array.getElem?_eq_none h'] at hbk
    have : (w.alloc (.cells cs 5)).heap[b]? = _ := (Lib.alloc_old w _ b hlt).trans hbk
    rw [Lib.cell_of_heap this]; rfl
  have f2 : (w.alloc (.cells cs 5)).frozen? ⟨b, 1, none⟩ = false := by
    have hlt : b < w.heap.size := by
      rcases Nat.lt_or_ge b w.heap.size with h' | h'
      · exact h'
      · simp [Array.getElem?_eq_none h'] at hbk
    exact Lib.frozen_of_heap ((Lib.alloc_old w _ b hlt).trans hbk) 1
  have hcopy : ∀ W : World, (Builtin.copy_ #[107, 107] 3 #[.slice (some ⟨w.heap.size, 0, none⟩) 0 cs.size, .slice none 0 0]).run Tryz.prog W = .ok (goInt 0) W :=
    fun W => run_copy_none W 107 107 3 5 _ _ 0 cs.size 0 0 Tryz.underlying107 b_size rfl
  clear hw
  have mixed := b_mixed
  go_enter Tryz.func129, Tryz.ntmps129
  go_wp2
  have hfin := SbPost.of_grown (T := 109) (e := 5) (cs := cs) (by decide) hbk (hmax (by unfold maxLen; omega))
  go_region_o
  all_goals (go_wp2; go_end0; exact ⟨rfl, hfin⟩)

set_option maxHeartbeats 2000000 in
set_option maxRecDepth 1000000 in
theorem b_Grow_fresh (B b n : Nat) (w : World) (hB : B ≤ b) (hbk : w.heap[b]? = some (.cells #[.pointer none, .slice none 0 0] 109 (0, 0))) (hBw : B ≤ w.heap.size) (hn : n ≤ 281474976710656) :
    Calls Tryz.prog 74 #[.pointer (some ⟨b, 0, none⟩), .int .i64 n] w fun e w' => e = .returned (.tuple #[]) ∧ SbPost 109 5 b [] w w' := by
  have hbk1 : (w.setCell ⟨b, 0, none⟩ (.pointer (some ⟨b, 0, none⟩))).heap[b]? = some (.cells #[.pointer (some ⟨b, 0, none⟩), .slice none 0 0] 109 (0, 0)) := by
    simp [World.setCell, Array.getElem?_modify, hbk]
  have c1 : (w.setCell ⟨b, 0, none⟩ (.pointer (some ⟨b, 0, none⟩))).cell? ⟨b, 1, none⟩ = some (.slice none 0 0) := by rw [Lib.cell_of_heap hbk1]; rfl
  have mixed := b_mixed
  go_enter Tryz.func74, Tryz.ntmps74
  have c1' : (w.setCell ⟨b, 0, none⟩ (.pointer (some ⟨b, 0, none⟩))).drew.cell? ⟨b, 1, none⟩ = some (.slice none 0 0) := c1
  go_wp2_with (go_at_call 128; refine (b_ccFresh b w (by rw [Lib.cell_of_heap hbk]; rfl) (by simp [World.shape?, hbk]) (Lib.frozen_of_heap hbk 0)).mono ?_; rintro e w' ⟨rfl, rfl⟩)
  go_region_o
  all_goals go_wp2_with (go_at_call 129; refine (b_grow_fresh B b n (w.setCell ⟨b, 0, none⟩ (.pointer (some ⟨b, 0, none⟩))).drew hB hbk1 (by simpa [World.setCell, World.drew, -World.drew_eq] using hBw) hn).mono ?_; rintro e w' ⟨rfl, h1⟩)
  all_goals first
    | (go_end0; exact ⟨rfl, SbPost.behind hbk h1⟩)
    | (go_end0; exact ⟨rfl, SbPost.of_used hbk⟩)

end Go.Proofs.YthfpehmbellmcaaGreatDoor

/- strings.Builder at calls of the layer; strings.Join. -/
namespace Go.Proofs.YthfpehmbellmcaaGreatDoor
open Go.RowKit
set_option linter.unusedVariables false
set_option linter.unusedSimpArgs false
set_option linter.defProp false

/- strings.Join -/
def ir_strings_Join_L1 : IC :=
  (.seq (.reg [⟨some 66, .bin .lss (.t 65) (.t 64), none⟩])
    (.seq (.cond (.t 66) .skip (.exit 3))
    (.seq (.block 4 (.seq (.reg [⟨some 67, .ixa 1 (.t 63) (.t 65), none⟩,
      ⟨some 68, .ld 1 false (.t 67), none⟩,
      ⟨some 10, .mov (.t 68), none⟩])
    (.seq (.reg [⟨some 69, .mov (.t 1), none⟩,
      ⟨some 70, .call 75 [.t 8, .t 69], none⟩])
    (.reg [⟨some 71, .mov (.t 10), none⟩,
      ⟨some 72, .call 75 [.t 8, .t 71], none⟩]))))
    (.reg [⟨some 73, .bin .add (.t 65) (.c (.int .i64 1)), none⟩,
      ⟨some 65, .mov (.t 73), none⟩]))))
def ir_strings_Join_L0 : IC :=
  (.seq (.reg [⟨some 42, .bin .lss (.t 41) (.t 40), none⟩])
    (.seq (.cond (.t 42) .skip (.exit 1))
    (.seq (.block 2 (.seq (.reg [⟨some 43, .ixa 1 (.t 39) (.t 41), none⟩,
      ⟨some 44, .ld 1 false (.t 43), none⟩,
      ⟨some 7, .mov (.t 44), none⟩])
    (.seq (.seq (.reg [⟨some 45, .mov (.t 7), none⟩,
      ⟨some 46, .sln (.t 45), none⟩,
      ⟨some 47, .mov (.t 5), none⟩,
      ⟨some 48, .bin .sub (.c (.int .i64 9223372036854775807)) (.t 47), none⟩,
      ⟨some 49, .bin .gtr (.t 46) (.t 48), none⟩])
    (.cond (.t 49) (.reg [⟨some 50, .dead, none⟩,
      ⟨none, .dead, none⟩]) .skip))
    (.cut (.reg [⟨some 51, .mov (.t 5), none⟩,
      ⟨some 52, .mov (.t 7), none⟩,
      ⟨some 53, .sln (.t 52), none⟩,
      ⟨some 54, .bin .add (.t 51) (.t 53), none⟩,
      ⟨some 5, .mov (.t 54), none⟩])))))
    (.reg [⟨some 55, .bin .add (.t 41) (.c (.int .i64 1)), none⟩,
      ⟨some 41, .mov (.t 55), none⟩]))))
def ir_strings_Join : IC :=
  (.seq (.reg [⟨some 4, .mov (.c (.str [])), none⟩])
    (.seq (.seq (.reg [⟨some 11, .mov (.t 0), none⟩,
      ⟨some 12, .len (.t 11), none⟩])
    (.block 0 (.seq (.reg [⟨some 14, .bin .eql (.t 12) (.c (.int .i64 0)), none⟩,
      ⟨some 13, .mov (.t 14), none⟩])
    (.cond (.t 13) (.seq (.reg [⟨some 4, .mov (.c (.str [])), none⟩])
    .ret) (.seq (.reg [⟨some 16, .bin .eql (.t 12) (.c (.int .i64 1)), none⟩,
      ⟨some 15, .mov (.t 16), none⟩])
    (.cond (.t 15) (.seq (.reg [⟨some 17, .mov (.t 0), none⟩,
      ⟨some 18, .ixa 1 (.t 17) (.c (.int .i64 0)), none⟩,
      ⟨some 19, .ld 1 false (.t 18), none⟩,
      ⟨some 4, .mov (.t 19), none⟩])
    .ret) .skip))))))
    (.seq (.reg [⟨some 5, .mov (.c (.int .i64 0)), none⟩])
    (.seq (.seq (.reg [⟨some 20, .mov (.t 1), none⟩,
      ⟨some 21, .sln (.t 20), none⟩,
      ⟨some 22, .bin .gtr (.t 21) (.c (.int .i64 0)), none⟩])
    (.cond (.t 22) (.seq (.seq (.reg [⟨some 23, .mov (.t 1), none⟩,
      ⟨some 24, .sln (.t 23), none⟩,
      ⟨some 25, .mov (.t 0), none⟩,
      ⟨some 26, .len (.t 25), none⟩,
      ⟨some 27, .bin .sub (.t 26) (.c (.int .i64 1)), none⟩,
      ⟨some 28, .bin .quo (.c (.int .i64 9223372036854775807)) (.t 27), none⟩,
      ⟨some 29, .bin .geq (.t 24) (.t 28), none⟩])
    (.cond (.t 29) (.reg [⟨some 30, .dead, none⟩,
      ⟨none, .dead, none⟩]) .skip))
    (.cut (.reg [⟨some 31, .mov (.t 5), none⟩,
      ⟨some 32, .mov (.t 1), none⟩,
      ⟨some 33, .sln (.t 32), none⟩,
      ⟨some 34, .mov (.t 0), none⟩,
      ⟨some 35, .len (.t 34), none⟩,
      ⟨some 36, .bin .sub (.t 35) (.c (.int .i64 1)), none⟩,
      ⟨some 37, .bin .mul (.t 33) (.t 36), none⟩,
      ⟨some 38, .bin .add (.t 31) (.t 37), none⟩,
      ⟨some 5, .mov (.t 38), none⟩]))) .skip))
    (.cut (.seq (.seq (.reg [⟨some 39, .mov (.t 0), none⟩,
      ⟨some 40, .len (.t 39), none⟩,
      ⟨some 41, .mov (.c (.int .i64 0)), none⟩])
    (.block 1 (.loop ir_strings_Join_L0)))
    (.seq (.reg [⟨some 8, .alc 109 [.raw (.pointer none), .nl 1], none⟩])
    (.seq (.reg [⟨some 56, .mov (.t 5), none⟩,
      ⟨some 57, .call 74 [.t 8, .t 56], none⟩])
    (.seq (.reg [⟨some 58, .mov (.t 0), none⟩,
      ⟨some 59, .ixa 1 (.t 58) (.c (.int .i64 0)), none⟩,
      ⟨some 60, .ld 1 false (.t 59), none⟩,
      ⟨some 61, .call 75 [.t 8, .t 60], none⟩])
    (.seq (.seq (.reg [⟨some 62, .mov (.t 0), none⟩,
      ⟨some 63, .vsl 1 (.t 62) (some (.c (.int .i64 1))) none, none⟩,
      ⟨some 64, .len (.t 63), none⟩,
      ⟨some 65, .mov (.c (.int .i64 0)), none⟩])
    (.block 3 (.loop ir_strings_Join_L1)))
    (.seq (.reg [⟨some 74, .call 77 [.t 8], none⟩,
      ⟨some 4, .mov (.t 74), none⟩])
    .ret)))))))))))
def rs_strings_Join : List IRes := [.t 4]
theorem ck_strings_Join : chkF Tryz.prog Tryz.f69 ir_strings_Join rs_strings_Join 75 = true := by kernel_rfl


section
variable {E : Envt} {L : Objs} {k : Key} {i : Nat} {fr : List AV} {d : Option Nat} {is : List IOper} {Y : List PV} {K : List AV → Objs → Prop}
theorem useBS (i : Nat) (s t : List UInt8) (hat : SbAt L k i tSb tU8 s) (hki : k ≠ .l i) (hlen : s.length + t.length ≤ 140737488355328)
    (hk : awpOps Tryz.prog E Y is (Zg (fr.map (·.kill (.l i))) d (.p (.tup [int (t.length : Nat), .raw .nilIface]))) (putSb L k i tSb tU8 (s ++ t)) K) : CallOp Tryz.prog E 75 [.adr k 0, .p (.str t)] L d fr (contO Tryz.prog E Y is K) :=
  useW (vr := [.string ⟨t.toArray⟩]) (x := .tup [int (t.length : Nat), .raw .nilIface]) (v := .tuple #[.int .i64 t.length, .nilIface]) i tSb tU8 s (s ++ t) hat hki (fun w U ι vs h => by obtain ⟨v, r, rfl, h1, h2⟩ := h; simp only [ARep, PRep, ARepL] at h1 h2; rw [h1, h2]) (fun w U => ⟨[_, _], rfl, _, _, rfl, rfl, _, _, rfl, ⟨rfl, rfl⟩, rfl⟩)
    (fun b w h _ => sb_WriteString b s t w h hlen) hk
theorem useBG (i : Nat) (n : Nat) (hat : SbAt L k i tSb tU8 []) (hf : Zas L k = some (.box [.p nilP, .p (.nl 1)] tSb)) (hki : k ≠ .l i) (hn : n ≤ 281474976710656)
    (hk : awpOps Tryz.prog E Y is (Zg (fr.map (·.kill (.l i))) d (.p (.tup []))) (putSb L k i tSb tU8 []) K) : CallOp Tryz.prog E 74 [.adr k 0, .p (int (n : Nat))] L d fr (contO Tryz.prog E Y is K) :=
  useW (vr := [.int .i64 n]) (x := .tup []) (v := .tuple #[]) i tSb tU8 [] [] hat hki (fun w U ι vs h => by obtain ⟨v, r, rfl, h1, h2⟩ := h; simp only [ARep, PRep, ARepL] at h1 h2; rw [h1, h2]) (fun w U => ⟨[], rfl, rfl⟩)
    (fun b w _ h => b_Grow_fresh 0 b n w (Nat.zero_le _) (h hf) (Nat.zero_le _) hn) hk
theorem useBT (i : Nat) (s : List UInt8) (hat : SbAt L k i tSb tU8 s) (hki : k ≠ .l i)
    (hk : awpOps Tryz.prog E Y is (Zg (fr.map (·.kill (.l i))) d (.p (.str s))) (delSb L k i) K) : CallOp Tryz.prog E 77 [.adr k 0] L d fr (contO Tryz.prog E Y is K) :=
  useWS i tSb tU8 s hat hki (fun b w h => b_String_any 0 b s w h (Nat.zero_le _)) hk
theorem lens_take_le : ∀ (l : List (List UInt8)) (k : Nat), Lib.lens (l.take k) ≤ Lib.lens l
  | [], k => by simp
  | x :: r, 0 => by simp [Lib.lens]
  | x :: r, k + 1 => by have := lens_take_le r k; simp only [List.take_succ_cons, Lib.lens, List.map_cons, List.sum_cons] at *; omega
theorem Join_ok (l : List (List UInt8)) (sep : List UInt8) (hl : l.length ≤ 1000000000) (hlen : (Lib.join l sep).length ≤ 1000000000) : PCall Tryz.prog E 69 [strs l, .str sep] (· = .str (Lib.join l sep)) := by
  refine pcallF mixed Tryz.func69 ck_strings_Join ?_
  simp only [a0, l0, OS.ao, List.map_cons, List.map_nil, List.length_cons, List.length_nil, List.cons_append, List.nil_append, Nat.reduceSub, Nat.reduceAdd, List.replicate_succ, List.replicate_zero, ir_strings_Join, rs_strings_Join, ZZ, YY, Ze, ite_true, ite_false, forall_const, reduceCtorEq, Nat.reduceAdd, Nat.reduceMul, Nat.reduceLeDiff, Nat.reduceLT, Nat.reduceEqDiff]
  simp only [strs, ZZ, YY, Ze, ite_true, ite_false, forall_const, reduceCtorEq, Nat.reduceAdd, Nat.reduceMul, Nat.reduceLeDiff, Nat.reduceLT, Nat.reduceEqDiff]
  refine br ?_ ?_
  · intro h
    have h0 : l = [] := by
      have := of_decide_eq_true h
      simp at this
      exact this
    subst h0
    simp only [ZZ, YY, Ze, ite_true, ite_false, forall_const, reduceCtorEq, Nat.reduceAdd, Nat.reduceMul, Nat.reduceLeDiff, Nat.reduceLT, Nat.reduceEqDiff]
    rfl
  intro h
  have h0 : l.length ≠ 0 := by have := of_decide_eq_false h; simpa using this
  simp only [ZZ, YY, Ze, ite_true, ite_false, forall_const, reduceCtorEq, Nat.reduceAdd, Nat.reduceMul, Nat.reduceLeDiff, Nat.reduceLT, Nat.reduceEqDiff]
  obtain ⟨x, r, rfl⟩ : ∃ x r, l = x :: r := by cases l with | nil => exact absurd rfl h0 | cons x r => exact ⟨x, r, rfl⟩
  refine br ?_ ?_
  · intro h1
    have h1 : r = [] := List.eq_nil_of_length_eq_zero (by have := of_decide_eq_true h1; simp at this; omega)
    subst h1
    simp only [ZZ, YY, Ze, ite_true, ite_false, forall_const, reduceCtorEq, Nat.reduceAdd, Nat.reduceMul, Nat.reduceLeDiff, Nat.reduceLT, Nat.reduceEqDiff]
    refine ⟨by simp, by simp, ?_⟩
    rw [Lib.join_one]
    rfl
  intro h1
  have h1 : r.length ≠ 0 := by have := of_decide_eq_false h1; simp at this; omega
  have hJ := Lib.join_length x r sep
  have hcl : (x :: r).length = r.length + 1 := by simp
  have hmul : sep.length * r.length ≤ 1000000000 := by omega
  have hll : Lib.lens (x :: r) ≤ 1000000000 := by omega
  generalize hes : (x :: r).map (fun x => [PV.str x]) = es
  have hln : es.length = r.length + 1 := by rw [← hes]; simp
  have hget : ∀ (k : Nat) (y : List UInt8), (x :: r)[k]? = some y → es.getD k [] = [PV.str y] := fun k y h => by rw [← hes]; exact getD_map h
  simp only [ZZ, YY, Ze, ite_true, ite_false, forall_const, reduceCtorEq, Nat.reduceAdd, Nat.reduceMul, Nat.reduceLeDiff, Nat.reduceLT, Nat.reduceEqDiff]
  refine br_join (fun fr L => fr = [.p (.sl 1 es), .p (.str sep), .any, .any, .any, .p (int (sep.length * r.length : Nat)), .any, .any, .any, .any, .any, .any, .any, .any, .any, .any, .any, .any, .any, .any, .any, .any, .any, .any, .any, .any, .any, .any, .any, .any, .any, .any, .any, .any, .any, .any, .any, .any, .any, .any, .any, .any, .any, .any, .any, .any, .any, .any, .any, .any, .any, .any, .any, .any, .any, .any, .any, .any, .any, .any, .any, .any, .any, .any, .any, .any, .any, .any, .any, .any, .any, .any, .any, .any, .any] ∧ L = []) ?_ ?_ ?_
  · intro hs
    have hs : 0 < sep.length := by have := of_decide_eq_true hs; omega
    simp only [ZZ, YY, Ze, ite_true, ite_false, forall_const, reduceCtorEq, Nat.reduceAdd, Nat.reduceMul, Nat.reduceLeDiff, Nat.reduceLT, Nat.reduceEqDiff]
    have hq : ((9223372036854775807 : Int)).tdiv ((es.length : Int) - 1) = ((9223372036854775807 / r.length : Nat) : Int) := by
      rw [hln, Int.tdiv_eq_ediv_of_nonneg (by omega)]
      have : ((r.length + 1 : Nat) : Int) - 1 = (r.length : Int) := by omega
      rw [this]
      rfl
    have hq2 : 9223372036 ≤ 9223372036854775807 / r.length := (Nat.le_div_iff_mul_le (by omega)).2 (by omega)
    have he : (es.length : Int) - 1 = (r.length : Int) := by omega
    have hp : (sep.length : Int) * (r.length : Int) = ((sep.length * r.length : Nat) : Int) := by simp
    have hq3 : 9223372036854775807 / r.length ≤ 9223372036854775807 := Nat.div_le_self _ _
    have hsl : sep.length ≤ sep.length * r.length := Nat.le_mul_of_pos_right _ (by omega)
    rw [hq]
    generalize 9223372036854775807 / r.length = q at *
    simp only [he]
    refine ⟨i64_of (by omega) (by omega), ⟨by omega, i64_of (by omega) (by omega)⟩, ?_⟩
    refine br (fun h => absurd (of_decide_eq_true h) (by omega)) ?_
    intro _
    simp only [ZZ, YY, Ze, ite_true, ite_false, forall_const, reduceCtorEq, Nat.reduceAdd, Nat.reduceMul, Nat.reduceLeDiff, Nat.reduceLT, Nat.reduceEqDiff]
    refine cut_same (by simp only [ZZ, YY, Ze, ite_true, ite_false, forall_const, reduceCtorEq, Nat.reduceAdd, Nat.reduceMul, Nat.reduceLeDiff, Nat.reduceLT, Nat.reduceEqDiff]) ?_
    simp only [ZZ, YY, Ze, ite_true, ite_false, forall_const, reduceCtorEq, Nat.reduceAdd, Nat.reduceMul, Nat.reduceLeDiff, Nat.reduceLT, Nat.reduceEqDiff]
    simp only [he, hp]
    refine ⟨i64_of (by omega) (by omega), i64_of (by omega) (by omega), i64_of (by omega) (by omega), to_mid [.p (.sl 1 es), .p (.str sep), .any, .any, .any, .p (int (sep.length * r.length : Nat)), .any, .any, .any, .any, .any, .any, .any, .any, .any, .any, .any, .any, .any, .any, .any, .any, .any, .any, .any, .any, .any, .any, .any, .any, .any, .any, .any, .any, .any, .any, .any, .any, .any, .any, .any, .any, .any, .any, .any, .any, .any, .any, .any, .any, .any, .any, .any, .any, .any, .any, .any, .any, .any, .any, .any, .any, .any, .any, .any, .any, .any, .any, .any, .any, .any, .any, .any, .any, .any] [] (by simp only [Int.zero_add]; (simp only [ZZ, YY, Ze, ite_true, ite_false, forall_const, reduceCtorEq, Nat.reduceAdd, Nat.reduceMul, Nat.reduceLeDiff, Nat.reduceLT, Nat.reduceEqDiff]; try trivial)) (by simp only [ZZ, YY, Ze, ite_true, ite_false, forall_const, reduceCtorEq, Nat.reduceAdd, Nat.reduceMul, Nat.reduceLeDiff, Nat.reduceLT, Nat.reduceEqDiff]) ⟨rfl, rfl⟩⟩
  · intro hs
    have hs : sep.length = 0 := by have := of_decide_eq_false hs; omega
    simp only [ZZ, YY, Ze, ite_true, ite_false, forall_const, reduceCtorEq, Nat.reduceAdd, Nat.reduceMul, Nat.reduceLeDiff, Nat.reduceLT, Nat.reduceEqDiff]
    exact to_mid [.p (.sl 1 es), .p (.str sep), .any, .any, .any, .p (int (sep.length * r.length : Nat)), .any, .any, .any, .any, .any, .any, .any, .any, .any, .any, .any, .any, .any, .any, .any, .any, .any, .any, .any, .any, .any, .any, .any, .any, .any, .any, .any, .any, .any, .any, .any, .any, .any, .any, .any, .any, .any, .any, .any, .any, .any, .any, .any, .any, .any, .any, .any, .any, .any, .any, .any, .any, .any, .any, .any, .any, .any, .any, .any, .any, .any, .any, .any, .any, .any, .any, .any, .any, .any] [] (by rw [hs]; simp only [Nat.zero_mul]; (simp only [ZZ, YY, Ze, ite_true, ite_false, forall_const, reduceCtorEq, Nat.reduceAdd, Nat.reduceMul, Nat.reduceLeDiff, Nat.reduceLT, Nat.reduceEqDiff]; try trivial)) (by simp only [ZZ, YY, Ze, ite_true, ite_false, forall_const, reduceCtorEq, Nat.reduceAdd, Nat.reduceMul, Nat.reduceLeDiff, Nat.reduceLT, Nat.reduceEqDiff]) ⟨rfl, rfl⟩
  · rintro fr L ⟨rfl, rfl⟩
    simp only [ZZ, YY, Ze, ite_true, ite_false, forall_const, reduceCtorEq, Nat.reduceAdd, Nat.reduceMul, Nat.reduceLeDiff, Nat.reduceLT, Nat.reduceEqDiff]
    refine loop_intro (fun n fr L => ∃ (k : Nat) (m : Nat), k ≤ r.length + 1 ∧ n = r.length + 1 - k ∧ (m = sep.length * r.length + Lib.lens ((x :: r).take k)) ∧ fr = [.p (.sl 1 es), .p (.str sep), .any, .any, .any, .p (int (m : Nat)), .any, .any, .any, .any, .any, .any, .any, .any, .any, .any, .any, .any, .any, .any, .any, .any, .any, .any, .any, .any, .any, .any, .any, .any, .any, .any, .any, .any, .any, .any, .any, .any, .any, .p (.sl 1 es), .p (int (es.length : Nat)), .p (int (k : Nat)), .any, .any, .any, .any, .any, .any, .any, .any, .any, .any, .any, .any, .any, .any, .any, .any, .any, .any, .any, .any, .any, .any, .any, .any, .any, .any, .any, .any, .any, .any, .any, .any, .any] ∧ L = []) (r.length + 1) [.p (.sl 1 es), .p (.str sep), .any, .any, .any, .p (int ((sep.length * r.length) : Nat)), .any, .any, .any, .any, .any, .any, .any, .any, .any, .any, .any, .any, .any, .any, .any, .any, .any, .any, .any, .any, .any, .any, .any, .any, .any, .any, .any, .any, .any, .any, .any, .any, .any, .p (.sl 1 es), .p (int (es.length : Nat)), .p (int (0 : Nat)), .any, .any, .any, .any, .any, .any, .any, .any, .any, .any, .any, .any, .any, .any, .any, .any, .any, .any, .any, .any, .any, .any, .any, .any, .any, .any, .any, .any, .any, .any, .any, .any, .any] [] (by (simp only [ZZ, YY, Ze, ite_true, ite_false, forall_const, reduceCtorEq, Nat.reduceAdd, Nat.reduceMul, Nat.reduceLeDiff, Nat.reduceLT, Nat.reduceEqDiff]; try trivial)) (by (simp only [ZZ, YY, Ze, ite_true, ite_false, forall_const, reduceCtorEq, Nat.reduceAdd, Nat.reduceMul, Nat.reduceLeDiff, Nat.reduceLT, Nat.reduceEqDiff]; try trivial)) ⟨0, sep.length * r.length, by omega, by omega, by simp [Lib.lens], rfl, rfl⟩ ?_
    rintro n fr L ⟨k, m, hk, rfl, hm, rfl, rfl⟩
    simp only [ir_strings_Join_L0, ZZ, YY, Ze, ite_true, ite_false, forall_const, reduceCtorEq, Nat.reduceAdd, Nat.reduceMul, Nat.reduceLeDiff, Nat.reduceLT, Nat.reduceEqDiff]
    refine br ?_ ?_
    · intro h
      have hlt : k < r.length + 1 := by have := of_decide_eq_true h; omega
      obtain ⟨y, hy⟩ : ∃ y, (x :: r)[k]? = some y := ⟨_, List.getElem?_eq_getElem (by simpa using hlt)⟩
      have hg := hget k y hy
      have hs1 := Lib.lens_take_succ (x :: r) k y hy
      have hs2 := lens_take_le (x :: r) (k + 1)
      simp only [ZZ, YY, Ze, ite_true, ite_false, forall_const, reduceCtorEq, Nat.reduceAdd, Nat.reduceMul, Nat.reduceLeDiff, Nat.reduceLT, Nat.reduceEqDiff, hg]
      refine ⟨⟨by omega, by omega⟩, by omega, i64_of (by omega) (by omega), ?_⟩
      refine br (fun h => absurd (of_decide_eq_true h) (by omega)) ?_
      intro _
      simp only [ZZ, YY, Ze, ite_true, ite_false, forall_const, reduceCtorEq, Nat.reduceAdd, Nat.reduceMul, Nat.reduceLeDiff, Nat.reduceLT, Nat.reduceEqDiff]
      refine cut_same (by simp only [ZZ, YY, Ze, ite_true, ite_false, forall_const, reduceCtorEq, Nat.reduceAdd, Nat.reduceMul, Nat.reduceLeDiff, Nat.reduceLT, Nat.reduceEqDiff]) ?_
      simp only [ZZ, YY, Ze, ite_true, ite_false, forall_const, reduceCtorEq, Nat.reduceAdd, Nat.reduceMul, Nat.reduceLeDiff, Nat.reduceLT, Nat.reduceEqDiff]
      refine ⟨i64_of (by omega) (by omega), i64_of (by omega) (by omega), ?_⟩
      refine end_round (r.length + 1 - (k + 1)) [.p (.sl 1 es), .p (.str sep), .any, .any, .any, .p (int ((m + y.length) : Nat)), .any, .any, .any, .any, .any, .any, .any, .any, .any, .any, .any, .any, .any, .any, .any, .any, .any, .any, .any, .any, .any, .any, .any, .any, .any, .any, .any, .any, .any, .any, .any, .any, .any, .p (.sl 1 es), .p (int (es.length : Nat)), .p (int ((k + 1) : Nat)), .any, .any, .any, .any, .any, .any, .any, .any, .any, .any, .any, .any, .any, .any, .any, .any, .any, .any, .any, .any, .any, .any, .any, .any, .any, .any, .any, .any, .any, .any, .any, .any, .any] [] (by omega) (by (simp only [ZZ, YY, Ze, ite_true, ite_false, forall_const, reduceCtorEq, Nat.reduceAdd, Nat.reduceMul, Nat.reduceLeDiff, Nat.reduceLT, Nat.reduceEqDiff]; try trivial)) (by (simp only [ZZ, YY, Ze, ite_true, ite_false, forall_const, reduceCtorEq, Nat.reduceAdd, Nat.reduceMul, Nat.reduceLeDiff, Nat.reduceLT, Nat.reduceEqDiff]; try trivial)) ⟨k + 1, m + y.length, by omega, rfl, by omega, rfl, rfl⟩
    · intro h
      have hge : k = r.length + 1 := by have := of_decide_eq_false h; omega
      subst hge
      have hm' : m ≤ 1000000000 := by rw [hm, List.take_of_length_le (by simp)]; omega
      simp only [ZZ, YY, Ze, ite_true, ite_false, forall_const, reduceCtorEq, Nat.reduceAdd, Nat.reduceMul, Nat.reduceLeDiff, Nat.reduceLT, Nat.reduceEqDiff]
      refine useBG 1000 m (.inl ⟨rfl, rfl⟩) rfl (by simp) (by omega) ?_
      have hg0 := hget 0 x rfl
      have hlx : Lib.lens (x :: r) = x.length + Lib.lens r := by simp [Lib.lens]
      simp only [ZZ, YY, Ze, ite_true, ite_false, forall_const, reduceCtorEq, Nat.reduceAdd, Nat.reduceMul, Nat.reduceLeDiff, Nat.reduceLT, Nat.reduceEqDiff, putSb, Int.toNat_zero, hg0]
      refine ⟨⟨by omega, by omega⟩, by omega, ?_⟩
      refine useBS 1000 [] x (.inr ⟨rfl, rfl⟩) (by simp) (by simp; omega) ?_
      simp only [ZZ, YY, Ze, ite_true, ite_false, forall_const, reduceCtorEq, Nat.reduceAdd, Nat.reduceMul, Nat.reduceLeDiff, Nat.reduceLT, Nat.reduceEqDiff, putSb]
      refine ⟨⟨by omega, by omega⟩, ?_⟩
      have hd : (es.take es.length).drop 1 = strE r := by rw [List.take_length, ← hes]; simp [strE]
      simp only [Int.toNat_one, hd, strE_len]
      refine loop_intro (fun n fr L => ∃ (k : Nat) (s : List UInt8), k ≤ r.length ∧ n = r.length - k ∧ (s = x ++ Lib.joinTail sep (r.take k)) ∧ fr = [.any, .p (.str sep), .any, .any, .any, .any, .any, .any, .adr (.l 8) 0, .any, .any, .any, .any, .any, .any, .any, .any, .any, .any, .any, .any, .any, .any, .any, .any, .any, .any, .any, .any, .any, .any, .any, .any, .any, .any, .any, .any, .any, .any, .any, .any, .any, .any, .any, .any, .any, .any, .any, .any, .any, .any, .any, .any, .any, .any, .any, .any, .any, .any, .any, .any, .any, .any, .p (.sl 1 (strE r)), .p (int (r.length : Nat)), .p (int (k : Nat)), .any, .any, .any, .any, .any, .any, .any, .any, .any] ∧ L = [(.l 8, .box [.adr (.l 8) 0, .row (.l 1000)] tSb), (.l 1000, .row (bytC s) tU8 1 true)]) (r.length) [.any, .p (.str sep), .any, .any, .any, .any, .any, .any, .adr (.l 8) 0, .any, .any, .any, .any, .any, .any, .any, .any, .any, .any, .any, .any, .any, .any, .any, .any, .any, .any, .any, .any, .any, .any, .any, .any, .any, .any, .any, .any, .any, .any, .any, .any, .any, .any, .any, .any, .any, .any, .any, .any, .any, .any, .any, .any, .any, .any, .any, .any, .any, .any, .any, .any, .any, .any, .p (.sl 1 (strE r)), .p (int (r.length : Nat)), .p (int (0 : Nat)), .any, .any, .any, .any, .any, .any, .any, .any, .any] [(.l 8, .box [.adr (.l 8) 0, .row (.l 1000)] tSb), (.l 1000, .row (bytC x) tU8 1 true)] (by (simp only [ZZ, YY, Ze, ite_true, ite_false, forall_const, reduceCtorEq, Nat.reduceAdd, Nat.reduceMul, Nat.reduceLeDiff, Nat.reduceLT, Nat.reduceEqDiff]; try trivial)) (by (simp only [ZZ, YY, Ze, ite_true, ite_false, forall_const, reduceCtorEq, Nat.reduceAdd, Nat.reduceMul, Nat.reduceLeDiff, Nat.reduceLT, Nat.reduceEqDiff]; try trivial)) ⟨0, x, by omega, by omega, by simp [Lib.joinTail], rfl, rfl⟩ ?_
      rintro n fr L ⟨k, s, hk, rfl, hs, rfl, rfl⟩
      simp only [ir_strings_Join_L1, ZZ, YY, Ze, ite_true, ite_false, forall_const, reduceCtorEq, Nat.reduceAdd, Nat.reduceMul, Nat.reduceLeDiff, Nat.reduceLT, Nat.reduceEqDiff]
      refine br ?_ ?_
      · intro h
        have hlt : k < r.length := by have := of_decide_eq_true h; omega
        obtain ⟨y, hy⟩ : ∃ y, r[k]? = some y := ⟨_, List.getElem?_eq_getElem hlt⟩
        have hg := strE_get hy
        have hj1 := Lib.joinTail_take_succ sep r k y hy
        have hj2 := Lib.joinTail_take_le sep r (k + 1)
        have hj3 := Lib.joinTail_length sep r
        have hj4 : (Lib.joinTail sep (r.take (k + 1))).length = (Lib.joinTail sep (r.take k)).length + sep.length + y.length := by rw [hj1]; simp; omega
        have hsl : s.length = x.length + (Lib.joinTail sep (r.take k)).length := by rw [hs]; simp
        simp only [ZZ, YY, Ze, ite_true, ite_false, forall_const, reduceCtorEq, Nat.reduceAdd, Nat.reduceMul, Nat.reduceLeDiff, Nat.reduceLT, Nat.reduceEqDiff, strE_len, hg]
        refine ⟨⟨by omega, by omega⟩, by omega, ?_⟩
        refine useBS 1000 s sep (.inr ⟨rfl, rfl⟩) (by simp) (by omega) ?_
        simp only [ZZ, YY, Ze, ite_true, ite_false, forall_const, reduceCtorEq, Nat.reduceAdd, Nat.reduceMul, Nat.reduceLeDiff, Nat.reduceLT, Nat.reduceEqDiff, putSb]
        refine useBS 1000 (s ++ sep) y (.inr ⟨rfl, rfl⟩) (by simp) (by simp; omega) ?_
        simp only [ZZ, YY, Ze, ite_true, ite_false, forall_const, reduceCtorEq, Nat.reduceAdd, Nat.reduceMul, Nat.reduceLeDiff, Nat.reduceLT, Nat.reduceEqDiff, putSb]
        refine ⟨i64_of (by omega) (by omega), ?_⟩
        refine end_round (r.length - (k + 1)) [.any, .p (.str sep), .any, .any, .any, .any, .any, .any, .adr (.l 8) 0, .any, .any, .any, .any, .any, .any, .any, .any, .any, .any, .any, .any, .any, .any, .any, .any, .any, .any, .any, .any, .any, .any, .any, .any, .any, .any, .any, .any, .any, .any, .any, .any, .any, .any, .any, .any, .any, .any, .any, .any, .any, .any, .any, .any, .any, .any, .any, .any, .any, .any, .any, .any, .any, .any, .p (.sl 1 (strE r)), .p (int (r.length : Nat)), .p (int ((k + 1) : Nat)), .any, .any, .any, .any, .any, .any, .any, .any, .any] [(.l 8, .box [.adr (.l 8) 0, .row (.l 1000)] tSb), (.l 1000, .row (bytC (s ++ sep ++ y)) tU8 1 true)] (by omega) (by (simp only [ZZ, YY, Ze, ite_true, ite_false, forall_const, reduceCtorEq, Nat.reduceAdd, Nat.reduceMul, Nat.reduceLeDiff, Nat.reduceLT, Nat.reduceEqDiff]; try trivial)) (by (simp only [ZZ, YY, Ze, ite_true, ite_false, forall_const, reduceCtorEq, Nat.reduceAdd, Nat.reduceMul, Nat.reduceLeDiff, Nat.reduceLT, Nat.reduceEqDiff]; try trivial)) ⟨k + 1, s ++ sep ++ y, by omega, rfl, by rw [hj1, hs]; simp, rfl, rfl⟩
      · intro h
        have hge : k = r.length := by have := of_decide_eq_false h; omega
        subst hge
        simp only [ZZ, YY, Ze, ite_true, ite_false, forall_const, reduceCtorEq, Nat.reduceAdd, Nat.reduceMul, Nat.reduceLeDiff, Nat.reduceLT, Nat.reduceEqDiff]
        refine useBT 1000 s (.inr ⟨rfl, rfl⟩) (by simp) ?_
        simp only [ZZ, YY, Ze, ite_true, ite_false, forall_const, reduceCtorEq, Nat.reduceAdd, Nat.reduceMul, Nat.reduceLeDiff, Nat.reduceLT, Nat.reduceEqDiff]
        rw [hs, List.take_length, Lib.join_cons]
end
end Go.Proofs.YthfpehmbellmcaaGreatDoor

/- Tokens put together, on both sides. -/
namespace Go.Proofs.YthfpehmbellmcaaGreatDoor
open Go.RowKit
set_option linter.unusedVariables false
set_option linter.unusedSimpArgs false
set_option linter.defProp false

end Go.Proofs.YthfpehmbellmcaaGreatDoor

/- slices.Clone, slices.Reverse at the circle's parts. -/
namespace Go.Proofs.YthfpehmbellmcaaGreatDoor
open Go.RowKit
set_option linter.unusedVariables false
set_option linter.unusedSimpArgs false
set_option linter.defProp false

/- slices.Clone[[]string,string] -/
def ir_slices_Clone_string_string : IC :=
  (.seq (.reg [⟨some 2, .nilr 9 1, none⟩])
    (.seq (.seq (.reg [⟨some 3, .mov (.t 0), none⟩,
      ⟨some 4, .isn (.t 3), none⟩])
    (.cond (.t 4) (.seq (.reg [⟨some 2, .nilr 9 1, none⟩])
    .ret) .skip))
    (.seq (.reg [⟨some 5, .bsr 9 1 [], none⟩,
      ⟨some 6, .mov (.t 0), none⟩,
      ⟨some 7, .app 9 1 16 (.t 5) (.t 6), none⟩,
      ⟨some 2, .mov (.t 7), none⟩])
    .ret)))
def rs_slices_Clone_string_string : List IRes := [.t 2]
theorem ck_slices_Clone_string_string : chkF Tryz.prog Tryz.f37 ir_slices_Clone_string_string rs_slices_Clone_string_string 8 = true := by kernel_rfl


section
variable {E : Envt}
abbrev tStrG : Nat := 9
theorem CloneS_ok (es : List (List PV)) (hn : es.length ≤ 1000000) : FCall Tryz.prog E 37 [.sl 1 es] tStrG 1 (· = es) := by
  unfold FCall
  refine gcallR mixed Tryz.func37 ck_slices_Clone_string_string ?_
  simp only [a0, l0, OS.ao, List.map_cons, List.map_nil, List.length_cons, List.length_nil, List.cons_append, List.nil_append, Nat.reduceSub, Nat.reduceAdd, List.replicate_succ, List.replicate_zero, ir_slices_Clone_string_string, rs_slices_Clone_string_string, ZZ, YY, Ze, ite_true, ite_false, forall_const, reduceCtorEq, Nat.reduceAdd, Nat.reduceMul, Nat.reduceLeDiff, Nat.reduceLT, Nat.reduceEqDiff]
  intro b hb
  refine br ?_ ?_
  · intro h
    have := hb h
    simp only [ZZ, YY, Ze, ite_true, ite_false, forall_const, reduceCtorEq, Nat.reduceAdd, Nat.reduceMul, Nat.reduceLeDiff, Nat.reduceLT, Nat.reduceEqDiff]
    exact fin_F 2 [] rfl rfl this.symm
  · intro h
    simp only [ZZ, YY, Ze, ite_true, ite_false, forall_const, reduceCtorEq, Nat.reduceAdd, Nat.reduceMul, Nat.reduceLeDiff, Nat.reduceLT, Nat.reduceEqDiff]
    exact ⟨by omega, fin_F 5 es rfl rfl rfl⟩
end
end Go.Proofs.YthfpehmbellmcaaGreatDoor

/- Tokens of right strings, distances, changes. -/
namespace Go.Proofs.YthfpehmbellmcaaGreatDoor
open Go.RowKit
set_option linter.unusedVariables false
set_option linter.unusedSimpArgs false
set_option linter.defProp false

/- paperchase/near.large -/
def ir_near_large : IC :=
  (.seq (.reg [⟨some 2, .mov (.c (.int .i64 0)), none⟩])
    (.seq (.reg [⟨some 3, .mov (.t 0), none⟩,
      ⟨some 4, .sln (.t 3), none⟩,
      ⟨some 5, .bin .gtr (.t 4) (.c (.int .i64 20000)), none⟩,
      ⟨some 6, .call 57 [.t 5, .c (.int .i64 2)], none⟩,
      ⟨some 2, .mov (.t 6), none⟩])
    .ret))
def rs_near_large : List IRes := [.t 2]
theorem ck_near_large : chkF Tryz.prog Tryz.f67 ir_near_large rs_near_large 7 = true := by kernel_rfl
theorem nlarge_ok {E : Envt} (s : List UInt8) (hs : s.length ≤ 1000000000) : PCall Tryz.prog E 67 [.str s] (· = int (if 20000 < s.length then 2 else 0)) := by
  refine pcallF mixed Tryz.func67 ck_near_large ?_
  simp only [a0, l0, OS.ao, List.map_cons, List.map_nil, List.length_cons, List.length_nil, List.cons_append, List.nil_append, Nat.reduceSub, Nat.reduceAdd, List.replicate_succ, List.replicate_zero, ir_near_large, rs_near_large, ZZ, YY, Ze, ite_true, ite_false, forall_const, reduceCtorEq, Nat.reduceAdd, Nat.reduceMul, Nat.reduceLeDiff, Nat.reduceLT, Nat.reduceEqDiff]
  refine use1 (When_ok _ 2) rfl (.inl rfl) ?_
  simp only [ZZ, YY, Ze, ite_true, ite_false, forall_const, reduceCtorEq, Nat.reduceAdd, Nat.reduceMul, Nat.reduceLeDiff, Nat.reduceLT, Nat.reduceEqDiff]
  by_cases h : 20000 < s.length
  · have hd : decide ((20000 : Int) < (s.length : Nat)) = true := decide_eq_true (by omega)
    rw [hd, if_pos h]; rfl
  · have hd : decide ((20000 : Int) < (s.length : Nat)) = false := decide_eq_false (by omega)
    rw [hd, if_neg h]; rfl
end Go.Proofs.YthfpehmbellmcaaGreatDoor

/- Phrases: the places of phrases, found one by one or painted (plain). -/
namespace Go.Proofs.YthfpehmbellmcaaGreatDoor
set_option linter.unusedVariables false
set_option linter.unusedSimpArgs false
set_option linter.defProp false

end Go.Proofs.YthfpehmbellmcaaGreatDoor
