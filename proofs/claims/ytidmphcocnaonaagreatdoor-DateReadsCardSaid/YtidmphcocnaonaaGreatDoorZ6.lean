
/- Own texts, put together: C6 N3 N1 V1 V2 K1 I1 F1 V3. -/
import Derived.Test.YtidmphcocnaonaaGreatDoorZ5
import Derived.Test.YtidmphcocnaonaaGreatDoorSpec
import Derived.Test.YtidmphcocnaonaaGreatDoorZ3
import Derived.Test.YtidmphcocnaonaaGreatDoorLaySplit
import Derived.Lib.SplitLaws
import Derived.Test.YtidmphcocnaonaaGreatDoorZ4
import Derived.Shelf.Strings.IndexAnyAll
import Derived.Shelf.Small.Utf8
import Derived.BigQuiet
import Derived.WalkMore
import Derived.Deep.QuietTactic
import Derived.Shelf.RegionOpenPlain
import Derived.Deep.LoopGhost
import Derived.Laws.Runes
import Derived.Laws.RangeString
import Derived.Lib.IndexBytes
import Derived.Laws.Strings3
import Derived.Test.YtidmphcocnaonaaGreatDoorLayIndexAny
import Derived.Test.YtidmphcocnaonaaGreatDoorLayTrim
import Derived.Test.YtidmphcocnaonaaGreatDoorLayCut
import Derived.Test.YtidmphcocnaonaaGreatDoorLayItoa
import Derived.Test.YtidmphcocnaonaaGreatDoorLayAtoi
import Derived.Lib.AtoiErrMem
import Derived.Shelf.Strconv.Atoi
import Derived.Test.YtidmphcocnaonaaGreatDoorLayFields
import Derived.Shelf.Strconv.AtoiAll
import Derived.Shelf.Strconv.ErrVarAll
import Derived.Shelf.Strings.SplitShaped
import Derived.Lib.AtoiAllCases
import Derived.Lib.AtoiTie
import Derived.Lib.ItoaLen
/- Letters and words. -/
namespace Go.Proofs.YtidmphcocnaonaaGreatDoor
open Go.RowKit
set_option linter.unusedVariables false
set_option linter.unusedSimpArgs false
set_option linter.defProp false

/- paperchase/base.Digit -/
def ir_base_Digit : IC :=
  (.seq (.reg [⟨some 2, .mov (.c (.bool false)), none⟩])
    (.seq (.reg [⟨some 3, .mov (.t 0), none⟩,
      ⟨some 4, .bin .geq (.t 3) (.c (.int .u8 48)), none⟩,
      ⟨some 5, .mov (.t 4), none⟩,
      ⟨some 6, .mov (.t 0), (some (5, true))⟩,
      ⟨some 7, .bin .leq (.t 6) (.c (.int .u8 57)), (some (5, true))⟩,
      ⟨some 8, .pick (.t 5) (.t 7) (.c (.bool false)), none⟩,
      ⟨some 2, .mov (.t 8), none⟩])
    .ret))
def rs_base_Digit : List IRes := [.t 2]
theorem ck_base_Digit : chkF Tryz.prog Tryz.f240 ir_base_Digit rs_base_Digit 9 = true := by kernel_rfl


def digB (c : UInt8) : Bool := decide (48 ≤ (c.toNat : Int)) && decide ((c.toNat : Int) ≤ 57)
section
variable {E : Envt}
theorem Digit_ok (c : UInt8) : PCall Tryz.prog E 240 [.int .u8 (c.toNat : Nat)] (· = .bool (digB c)) := by
  refine pcallF mixed Tryz.func240 ck_base_Digit ?_
  simp only [a0, l0, OS.ao, List.map_cons, List.map_nil, List.length_cons, List.length_nil, List.cons_append, List.nil_append, Nat.reduceSub, Nat.reduceAdd, List.replicate_succ, List.replicate_zero, ir_base_Digit, rs_base_Digit, ZZ, YY, Ze, ite_true, ite_false, forall_const, reduceCtorEq, Nat.reduceAdd, Nat.reduceMul, Nat.reduceLeDiff, Nat.reduceLT, Nat.reduceEqDiff]
  ((repeat' (with_reducible apply And.intro)) <;> try ((first | first | assumption | trivial | exact (fun hq => by rw [hq]; rfl) | exact i64_of (by omega) (by omega) | omega | (simp; done) | (simp; omega) | (intro hsc; have hs0 := hsc; (try have hsd := of_decide_eq_true hsc); (try simp only [Bool.not_eq_true', Bool.or_eq_false_iff, Bool.and_eq_true, Bool.or_eq_true, decide_eq_true_eq, decide_eq_false_iff_not] at hsc); (repeat' (with_reducible apply And.intro)) <;> (first | assumption | trivial | exact (fun hq => by rw [hq]; rfl) | exact i64_of (by omega) (by omega) | omega | (simp; done) | (simp; omega) | (intro hse; simp [hse, hs0]; done) | (intro hse; simp only [hse, hs0, Bool.true_and, Bool.and_true, Bool.not_false, Bool.not_true, Bool.and_self]; done))))))
def strE (l : List (List UInt8)) : List (List PV) := l.map fun x => [PV.str x]
theorem strE_len (l : List (List UInt8)) : (strE l).length = l.length := by simp [strE]
theorem strs_eq (l : List (List UInt8)) : strs l = .sl 1 (strE l) := rfl
theorem strE_get {l : List (List UInt8)} {k : Nat} {x : List UInt8} (h : l[k]? = some x) : (strE l).getD k [] = [.str x] := getD_map h
end
section
variable {E : Envt}
end
end Go.Proofs.YtidmphcocnaonaaGreatDoor

/- slices.Index and Contains at strings. -/
namespace Go.Proofs.YtidmphcocnaonaaGreatDoor
open Go.RowKit
set_option linter.unusedVariables false
set_option linter.unusedSimpArgs false
set_option linter.defProp false

/- slices.Index[[]string,string] -/
def ir_slices_Index_string_string_L0 : IC :=
  (.seq (.reg [⟨some 9, .bin .lss (.t 8) (.t 7), none⟩])
    (.seq (.cond (.t 9) .skip (.exit 0))
    (.seq (.block 1 (.seq (.reg [⟨some 10, .mov (.t 8), none⟩,
      ⟨some 5, .mov (.t 10), none⟩])
    (.seq (.reg [⟨some 11, .mov (.t 1), none⟩,
      ⟨some 12, .mov (.t 0), none⟩,
      ⟨some 13, .mov (.t 5), none⟩,
      ⟨some 14, .ixa 1 (.t 12) (.t 13), none⟩,
      ⟨some 15, .ld 1 false (.t 14), none⟩,
      ⟨some 16, .bin .eql (.t 11) (.t 15), none⟩])
    (.cond (.t 16) (.seq (.reg [⟨some 17, .mov (.t 5), none⟩,
      ⟨some 4, .mov (.t 17), none⟩])
    .ret) .skip))))
    (.reg [⟨some 18, .bin .add (.t 8) (.c (.int .i64 1)), none⟩,
      ⟨some 8, .mov (.t 18), none⟩]))))
def ir_slices_Index_string_string : IC :=
  (.seq (.reg [⟨some 4, .mov (.c (.int .i64 0)), none⟩])
    (.seq (.seq (.reg [⟨some 6, .mov (.t 0), none⟩,
      ⟨some 7, .len (.t 6), none⟩,
      ⟨some 8, .mov (.c (.int .i64 0)), none⟩])
    (.block 0 (.loop ir_slices_Index_string_string_L0)))
    (.seq (.reg [⟨some 4, .mov (.c (.int .i64 (-1))), none⟩])
    .ret)))
def rs_slices_Index_string_string : List IRes := [.t 4]
theorem ck_slices_Index_string_string : chkF Tryz.prog Tryz.f94 ir_slices_Index_string_string rs_slices_Index_string_string 19 = true := by kernel_rfl

def idxS (l : List (List UInt8)) (x : List UInt8) (k : Nat) : Int := if h : k < l.length then (if x = l[k] then k else idxS l x (k + 1)) else -1
termination_by l.length - k
theorem IndexS_ok (l : List (List UInt8)) (x : List UInt8) (hl : l.length ≤ 1000000000) : PCall Tryz.prog E0 94 [.sl 1 (strE l), .str x] (· = int (idxS l x 0)) := by
  refine pcallF mixed Tryz.func94 ck_slices_Index_string_string ?_
  simp only [a0, l0, OS.ao, List.map_cons, List.map_nil, List.length_cons, List.length_nil, List.cons_append, List.nil_append, Nat.reduceSub, Nat.reduceAdd, List.replicate_succ, List.replicate_zero, ir_slices_Index_string_string, rs_slices_Index_string_string, ZZ, YY, Ze, ite_true, ite_false, forall_const, reduceCtorEq, Nat.reduceAdd, Nat.reduceMul, Nat.reduceLeDiff, Nat.reduceLT, Nat.reduceEqDiff]
  simp only [ZZ, YY, Ze, ite_true, ite_false, forall_const, reduceCtorEq, Nat.reduceAdd, Nat.reduceMul, Nat.reduceLeDiff, Nat.reduceLT, Nat.reduceEqDiff, strE_len]
  refine loop_intro (fun n fr L => ∃ (k : Nat), k ≤ l.length ∧ n = l.length - k ∧ (idxS l x 0 = idxS l x k) ∧ fr = [.p (.sl 1 (strE l)), .p (.str x), .any, .any, .any, .any, .any, .p (int (l.length : Nat)), .p (int (k : Nat)), .any, .any, .any, .any, .any, .any, .any, .any, .any, .any] ∧ L = []) (l.length) [.p (.sl 1 (strE l)), .p (.str x), .any, .any, .any, .any, .any, .p (int (l.length : Nat)), .p (int (0 : Nat)), .any, .any, .any, .any, .any, .any, .any, .any, .any, .any] [] (by simp only [ZZ, YY, Ze, ite_true, ite_false, forall_const, reduceCtorEq, Nat.reduceAdd, Nat.reduceMul, Nat.reduceLeDiff, Nat.reduceLT, Nat.reduceEqDiff, strE_len]; try trivial) (by (simp only [ZZ, YY, Ze, ite_true, ite_false, forall_const, reduceCtorEq, Nat.reduceAdd, Nat.reduceMul, Nat.reduceLeDiff, Nat.reduceLT, Nat.reduceEqDiff]; try trivial)) ⟨0, by omega, by omega, rfl, rfl, rfl⟩ ?_
  rintro n fr L ⟨k, hk, rfl, hf, rfl, rfl⟩
  simp only [ir_slices_Index_string_string_L0, ZZ, YY, Ze, ite_true, ite_false, forall_const, reduceCtorEq, Nat.reduceAdd, Nat.reduceMul, Nat.reduceLeDiff, Nat.reduceLT, Nat.reduceEqDiff]
  refine br ?_ ?_
  · intro h
    have hlt : k < l.length := by have := of_decide_eq_true h; omega
    have hg := strE_get (List.getElem?_eq_getElem hlt)
    simp only [ZZ, YY, Ze, ite_true, ite_false, forall_const, reduceCtorEq, Nat.reduceAdd, Nat.reduceMul, Nat.reduceLeDiff, Nat.reduceLT, Nat.reduceEqDiff, hg, strE_len]
    ((repeat' (with_reducible apply And.intro)) <;> try ((first | first | assumption | trivial | exact (fun hq => by rw [hq]; rfl) | exact i64_of (by omega) (by omega) | omega | (simp; done) | (simp; omega) | (intro hsc; have hs0 := hsc; (try have hsd := of_decide_eq_true hsc); (try simp only [Bool.not_eq_true', Bool.or_eq_false_iff, Bool.and_eq_true, Bool.or_eq_true, decide_eq_true_eq, decide_eq_false_iff_not] at hsc); (repeat' (with_reducible apply And.intro)) <;> (first | assumption | trivial | exact (fun hq => by rw [hq]; rfl) | exact i64_of (by omega) (by omega) | omega | (simp; done) | (simp; omega) | (intro hse; simp [hse, hs0]; done) | (intro hse; simp only [hse, hs0, Bool.true_and, Bool.and_true, Bool.not_false, Bool.not_true, Bool.and_self]; done))))))
    refine br ?_ ?_
    · intro h2
      have h2 : x = l[k] := of_decide_eq_true h2
      simp only [ZZ, YY, Ze, ite_true, ite_false, forall_const, reduceCtorEq, Nat.reduceAdd, Nat.reduceMul, Nat.reduceLeDiff, Nat.reduceLT, Nat.reduceEqDiff]
      rw [hf, idxS, dif_pos hlt, if_pos h2]
    · intro h2
      have h2 : ¬ x = l[k] := of_decide_eq_false h2
      simp only [ZZ, YY, Ze, ite_true, ite_false, forall_const, reduceCtorEq, Nat.reduceAdd, Nat.reduceMul, Nat.reduceLeDiff, Nat.reduceLT, Nat.reduceEqDiff]
      ((repeat' (with_reducible apply And.intro)) <;> try ((first | first | assumption | trivial | exact (fun hq => by rw [hq]; rfl) | exact i64_of (by omega) (by omega) | omega | (simp; done) | (simp; omega) | (intro hsc; have hs0 := hsc; (try have hsd := of_decide_eq_true hsc); (try simp only [Bool.not_eq_true', Bool.or_eq_false_iff, Bool.and_eq_true, Bool.or_eq_true, decide_eq_true_eq, decide_eq_false_iff_not] at hsc); (repeat' (with_reducible apply And.intro)) <;> (first | assumption | trivial | exact (fun hq => by rw [hq]; rfl) | exact i64_of (by omega) (by omega) | omega | (simp; done) | (simp; omega) | (intro hse; simp [hse, hs0]; done) | (intro hse; simp only [hse, hs0, Bool.true_and, Bool.and_true, Bool.not_false, Bool.not_true, Bool.and_self]; done))))))
      refine end_round (l.length - (k + 1)) [.p (.sl 1 (strE l)), .p (.str x), .any, .any, .any, .any, .any, .p (int (l.length : Nat)), .p (int ((k + 1) : Nat)), .any, .any, .any, .any, .any, .any, .any, .any, .any, .any] [] (by omega) (by (simp only [ZZ, YY, Ze, ite_true, ite_false, forall_const, reduceCtorEq, Nat.reduceAdd, Nat.reduceMul, Nat.reduceLeDiff, Nat.reduceLT, Nat.reduceEqDiff]; try trivial)) (by (simp only [ZZ, YY, Ze, ite_true, ite_false, forall_const, reduceCtorEq, Nat.reduceAdd, Nat.reduceMul, Nat.reduceLeDiff, Nat.reduceLT, Nat.reduceEqDiff]; try trivial)) ⟨k + 1, by omega, rfl, by rw [hf, idxS, dif_pos hlt, if_neg h2], rfl, rfl⟩
  · intro h
    have hge : ¬ k < l.length := by have := of_decide_eq_false h; omega
    simp only [ZZ, YY, Ze, ite_true, ite_false, forall_const, reduceCtorEq, Nat.reduceAdd, Nat.reduceMul, Nat.reduceLeDiff, Nat.reduceLT, Nat.reduceEqDiff]
    rw [hf, idxS, dif_neg hge]
theorem idxS_mem (l : List (List UInt8)) (x : List UInt8) : ∀ (n k : Nat), l.length - k ≤ n → (0 ≤ idxS l x k ↔ x ∈ l.drop k) := by
  intro n
  induction n with
  | zero =>
    intro k hk
    rw [idxS, dif_neg (by omega), List.drop_eq_nil_of_le (by omega)]
    simp
  | succ n ih =>
    intro k hk
    rw [idxS]
    split
    · rename_i h
      rw [List.drop_eq_getElem_cons h, List.mem_cons]
      split
      · rename_i e; simp [e]
      · rename_i e
        rw [ih (k + 1) (by omega)]
        simp [e]
    · rename_i h
      rw [List.drop_eq_nil_of_le (by omega)]
      simp
end Go.Proofs.YtidmphcocnaonaaGreatDoor

/- strings.Split at one byte: its pieces. -/
namespace Go.Proofs.YtidmphcocnaonaaGreatDoor
open Go.RowKit
set_option linter.unusedVariables false
set_option linter.unusedSimpArgs false
set_option linter.defProp false

/-- Pieces. -/
def splF (s : List UInt8) (c : UInt8) : List (List UInt8) := (Lib.splitB ⟨#[c]⟩ 0 (Lib.countB ⟨s.toArray⟩ ⟨#[c]⟩) ⟨s.toArray⟩).map (·.data.toList)
theorem splitB_sizes (sep : ByteArray) : ∀ (k : Nat) (s : ByteArray), (Lib.splitB sep 0 k s).length ≤ k + 1 ∧ ∀ x ∈ Lib.splitB sep 0 k s, x.size ≤ s.size := by
  intro k
  induction k with
  | zero => intro s; simp [Lib.splitB]
  | succ k ih =>
    intro s
    unfold Lib.splitB
    split
    · simp
    · have := ih (s.extract ((Lib.indexB s sep).toNat + sep.size) s.size)
      refine ⟨by simp; omega, fun x hx => ?_⟩
      simp only [List.mem_cons] at hx
      rcases hx with rfl | hx
      · simp; omega
      · have := this.2 x hx; simp at this; omega
theorem splF_len (s : List UInt8) (c : UInt8) : (splF s c).length ≤ s.length + 1 := by
  have h1 := (splitB_sizes ⟨#[c]⟩ (Lib.countB ⟨s.toArray⟩ ⟨#[c]⟩) ⟨s.toArray⟩).1
  have h2 := Lib.countB_le ⟨#[c]⟩ (Nat.le_refl 1) (⟨s.toArray⟩ : ByteArray).size ⟨s.toArray⟩ (Nat.le_refl _)
  rw [ba_size] at h2
  simp only [splF, List.length_map]
  omega
theorem splF_mem (s : List UInt8) (c : UInt8) : ∀ x ∈ splF s c, x.length ≤ s.length := by
  intro x hx
  simp only [splF, List.mem_map] at hx
  obtain ⟨y, hy, rfl⟩ := hx
  have := (splitB_sizes ⟨#[c]⟩ (Lib.countB ⟨s.toArray⟩ ⟨#[c]⟩) ⟨s.toArray⟩).2 y hy
  rw [ba_size] at this
  rw [Array.length_toList]
  exact this
theorem repE_strs' {w : World} {U : Nat → Prop} {b : Nat} : ∀ (l : List ByteArray) (off : Nat), (∀ i x, l[i]? = some x → w.cell? ⟨b, off + i, none⟩ = some (.string x)) → PRepE w U b 1 off ((l.map (·.data.toList)).map fun x => [.str x])
  | [], off, h => trivial
  | x :: r, off, h => by
    refine ⟨rfl, ⟨⟨.string x, by simpa using h 0 _ rfl, rfl, ?_⟩, trivial⟩, repE_strs' r (off + 1) fun i u hu => ?_⟩
    · simp [PRep]
    · have := h (i + 1) u (by simpa using hu)
      rwa [show off + (i + 1) = off + 1 + i from by omega] at this
theorem splInfo : (Tryz.prog.info? 9).map (fun i => (i.zero, i.size, i.bytes)) = some (some (.string ByteArray.empty), 1, 16) := by kernel_rfl
theorem Split_ok (s : List UInt8) (c : UInt8) (hs : s.length ≤ 1000000000) : PCall Tryz.prog E0 93 [.str s, .str [c]] (· = strs (splF s c)) := by
  intro w U vs hU hE hEb hA
  obtain ⟨_, m, hm⟩ := hE
  simp only [PRepL, PRep] at hA
  obtain ⟨v, r, rfl, rfl, v2, r2, rfl, rfl, rfl⟩ := hA
  refine (Any.strings_Split Tryz.laySplit splInfo ⟨s.toArray⟩ ⟨#[c]⟩ m w (by rw [ba_size]; omega) hm (Nat.le_refl 1)).mono ?_
  rintro e w' ⟨rfl, rfl⟩
  have hl := Lib.splitB_all ⟨#[c]⟩ (Nat.le_refl 1) 0 _ (⟨s.toArray⟩ : ByteArray) rfl
  refine ⟨_, _, rfl, rfl, ?_, ⟨rfl, rfl, rfl, by simp, fun k hk _ => Lib.alloc_old w _ k hk⟩⟩
  have hln : (List.map (fun x => [PV.str x]) (splF s c)).length = Lib.countB ⟨s.toArray⟩ ⟨#[c]⟩ + 1 := by simp [splF, hl]
  refine ⟨some ⟨w.heap.size, 0, none⟩, Lib.countB ⟨s.toArray⟩ ⟨#[c]⟩ + 1, by rw [hln], by rw [hln]; exact Nat.le_refl _, fun _ => ⟨w.heap.size, 0, rfl, by simp, fun h => by have := hU _ h; omega, ?_⟩⟩
  · refine repE_strs' _ 0 fun i x hx => ?_
    rw [Lib.cell_of_heap (heap_alloc_new w _)]
    simp [hx]
end Go.Proofs.YtidmphcocnaonaaGreatDoor

/- The calendar, on both sides: how long months and years are, the number of a day. -/
namespace Go.Proofs.YtidmphcocnaonaaGreatDoor
open Go.RowKit
set_option linter.unusedVariables false
set_option linter.unusedSimpArgs false
set_option linter.defProp false

/- paperchase/thread.days -/
def ir_thread_days_L2 : IC :=
  (.seq (.seq (.reg [⟨some 46, .mov (.t 13), none⟩,
      ⟨some 47, .bin .lss (.t 46) (.c (.int .i64 2024)), none⟩])
    (.cond (.t 47) .skip (.exit 4)))
    (.seq (.block 5 (.seq (.reg [⟨some 50, .mov (.t 10), none⟩,
      ⟨some 51, .bin .sub (.t 50) (.c (.int .i64 365)), none⟩,
      ⟨some 10, .mov (.t 51), none⟩])
    (.seq (.reg [⟨some 52, .ld 1 false (.t 8), none⟩,
      ⟨some 53, .mov (.t 13), none⟩,
      ⟨some 54, .callv (.t 52) [.t 53], none⟩])
    (.cond (.t 54) (.reg [⟨some 55, .mov (.t 10), none⟩,
      ⟨some 56, .bin .sub (.t 55) (.c (.int .i64 1)), none⟩,
      ⟨some 10, .mov (.t 56), none⟩]) .skip))))
    (.cut (.reg [⟨some 48, .mov (.t 13), none⟩,
      ⟨some 49, .bin .add (.t 48) (.c (.int .i64 1)), none⟩,
      ⟨some 13, .mov (.t 49), none⟩]))))
def ir_thread_days_L1 : IC :=
  (.seq (.seq (.reg [⟨some 33, .mov (.t 12), none⟩,
      ⟨some 34, .ld 1 false (.t 3), none⟩,
      ⟨some 35, .bin .lss (.t 33) (.t 34), none⟩])
    (.cond (.t 35) .skip (.exit 2)))
    (.seq (.block 3 (.seq (.reg [⟨some 38, .mov (.t 10), none⟩,
      ⟨some 39, .bin .add (.t 38) (.c (.int .i64 365)), none⟩,
      ⟨some 10, .mov (.t 39), none⟩])
    (.seq (.reg [⟨some 40, .ld 1 false (.t 8), none⟩,
      ⟨some 41, .mov (.t 12), none⟩,
      ⟨some 42, .callv (.t 40) [.t 41], none⟩])
    (.cond (.t 42) (.reg [⟨some 43, .mov (.t 10), none⟩,
      ⟨some 44, .bin .add (.t 43) (.c (.int .i64 1)), none⟩,
      ⟨some 10, .mov (.t 44), none⟩]) .skip))))
    (.cut (.reg [⟨some 36, .mov (.t 12), none⟩,
      ⟨some 37, .bin .add (.t 36) (.c (.int .i64 1)), none⟩,
      ⟨some 12, .mov (.t 37), none⟩]))))
def ir_thread_days_L0 : IC :=
  (.seq (.seq (.reg [⟨some 23, .mov (.t 11), none⟩,
      ⟨some 24, .mov (.t 1), none⟩,
      ⟨some 25, .bin .lss (.t 23) (.t 24), none⟩])
    (.cond (.t 25) .skip (.exit 0)))
    (.seq (.block 1 (.reg [⟨some 28, .mov (.t 10), none⟩,
      ⟨some 29, .mov (.t 9), none⟩,
      ⟨some 30, .mov (.t 11), none⟩,
      ⟨some 31, .callv (.t 29) [.t 30], none⟩,
      ⟨some 32, .bin .add (.t 28) (.t 31), none⟩,
      ⟨some 10, .mov (.t 32), none⟩]))
    (.reg [⟨some 26, .mov (.t 11), none⟩,
      ⟨some 27, .bin .add (.t 26) (.c (.int .i64 1)), none⟩,
      ⟨some 11, .mov (.t 27), none⟩])))
def ir_thread_days : IC :=
  (.seq (.reg [⟨some 3, .box 3 (.t 0), none⟩,
      ⟨some 6, .mov (.c (.int .i64 0)), none⟩,
      ⟨some 7, .mov (.c (.bool false)), none⟩])
    (.seq (.reg [⟨some 8, .alc 60 [.raw .nilFunc], none⟩,
      ⟨none, .st 1 (.t 8) (.f 241), none⟩])
    (.seq (.reg [⟨some 14, .mkf 242 [.t 8, .t 3], none⟩,
      ⟨some 9, .mov (.t 14), none⟩])
    (.seq (.seq (.reg [⟨some 15, .mov (.t 2), none⟩,
      ⟨some 16, .mov (.t 9), none⟩,
      ⟨some 17, .mov (.t 1), none⟩,
      ⟨some 18, .callv (.t 16) [.t 17], none⟩,
      ⟨some 19, .call 71 [.t 15, .c (.int .i64 1), .t 18], none⟩,
      ⟨some 20, .not (.t 19), none⟩])
    (.cond (.t 20) (.seq (.reg [⟨some 6, .mov (.c (.int .i64 0)), none⟩,
      ⟨some 7, .mov (.c (.bool false)), none⟩])
    .ret) .skip))
    (.seq (.reg [⟨some 21, .mov (.t 2), none⟩,
      ⟨some 22, .bin .sub (.t 21) (.c (.int .i64 1)), none⟩,
      ⟨some 10, .mov (.t 22), none⟩])
    (.seq (.seq (.reg [⟨some 11, .mov (.c (.int .i64 1)), none⟩])
    (.block 0 (.loop ir_thread_days_L0)))
    (.seq (.seq (.reg [⟨some 12, .mov (.c (.int .i64 2024)), none⟩])
    (.block 2 (.loop ir_thread_days_L1)))
    (.seq (.seq (.reg [⟨some 45, .ld 1 false (.t 3), none⟩,
      ⟨some 13, .mov (.t 45), none⟩])
    (.block 4 (.loop ir_thread_days_L2)))
    (.seq (.reg [⟨some 57, .mov (.t 10), none⟩,
      ⟨some 6, .mov (.t 57), none⟩,
      ⟨some 7, .mov (.c (.bool true)), none⟩])
    .ret)))))))))
def rs_thread_days : List IRes := [.t 6, .t 7]
theorem ck_thread_days : chkF Tryz.prog Tryz.f173 ir_thread_days rs_thread_days 58 = true := by kernel_rfl
/- paperchase/thread.days$1 -/
def ir_thread_days_1 : IC :=
  (.seq (.reg [⟨some 2, .mov (.c (.bool false)), none⟩])
    (.seq (.reg [⟨some 3, .mov (.t 0), none⟩,
      ⟨some 4, .bin .rem (.t 3) (.c (.int .i64 4)), none⟩,
      ⟨some 5, .bin .eql (.t 4) (.c (.int .i64 0)), none⟩,
      ⟨some 6, .mov (.t 5), none⟩,
      ⟨some 7, .mov (.t 0), (some (6, true))⟩,
      ⟨some 8, .bin .rem (.t 7) (.c (.int .i64 100)), (some (6, true))⟩,
      ⟨some 9, .bin .neq (.t 8) (.c (.int .i64 0)), (some (6, true))⟩,
      ⟨some 10, .pick (.t 6) (.t 9) (.c (.bool false)), none⟩,
      ⟨some 11, .mov (.t 10), none⟩,
      ⟨some 12, .mov (.t 0), (some (11, false))⟩,
      ⟨some 13, .bin .rem (.t 12) (.c (.int .i64 400)), (some (11, false))⟩,
      ⟨some 14, .bin .eql (.t 13) (.c (.int .i64 0)), (some (11, false))⟩,
      ⟨some 15, .pick (.t 11) (.c (.bool true)) (.t 14), none⟩,
      ⟨some 2, .mov (.t 15), none⟩])
    .ret))
def rs_thread_days_1 : List IRes := [.t 2]
theorem ck_thread_days_1 : chkF Tryz.prog Tryz.f241 ir_thread_days_1 rs_thread_days_1 16 = true := by kernel_rfl
/- paperchase/thread.days$2 -/
def ir_thread_days_2 : IC :=
  (.seq (.reg [⟨some 4, .mov (.c (.int .i64 0)), none⟩])
    (.seq (.seq (.reg [⟨some 5, .mov (.t 0), none⟩])
    (.block 0 (.seq (.reg [⟨some 7, .bin .eql (.t 5) (.c (.int .i64 2)), none⟩,
      ⟨some 6, .mov (.t 7), none⟩])
    (.cond (.t 6) (.seq (.seq (.reg [⟨some 8, .ld 1 false (.t 1), none⟩,
      ⟨some 9, .ld 1 false (.t 2), none⟩,
      ⟨some 10, .callv (.t 8) [.t 9], none⟩])
    (.cond (.t 10) (.seq (.reg [⟨some 4, .mov (.c (.int .i64 29)), none⟩])
    .ret) .skip))
    (.seq (.reg [⟨some 4, .mov (.c (.int .i64 28)), none⟩])
    .ret)) (.seq (.seq (.reg [⟨some 12, .bin .eql (.t 5) (.c (.int .i64 4)), none⟩,
      ⟨some 11, .mov (.t 12), none⟩])
    (.cond (.t 11) .skip (.seq (.reg [⟨some 13, .bin .eql (.t 5) (.c (.int .i64 6)), none⟩,
      ⟨some 11, .mov (.t 13), none⟩])
    (.cond (.t 11) .skip (.seq (.reg [⟨some 14, .bin .eql (.t 5) (.c (.int .i64 9)), none⟩,
      ⟨some 11, .mov (.t 14), none⟩])
    (.cond (.t 11) .skip (.reg [⟨some 15, .bin .eql (.t 5) (.c (.int .i64 11)), none⟩,
      ⟨some 11, .mov (.t 15), none⟩])))))))
    (.cut (.cond (.t 11) (.seq (.reg [⟨some 4, .mov (.c (.int .i64 30)), none⟩])
    .ret) .skip)))))))
    (.seq (.reg [⟨some 4, .mov (.c (.int .i64 31)), none⟩])
    .ret)))
def rs_thread_days_2 : List IRes := [.t 4]
theorem ck_thread_days_2 : chkF Tryz.prog Tryz.f242 ir_thread_days_2 rs_thread_days_2 16 = true := by kernel_rfl
/- paperchase/chaseref1.leap -/
def ir_chaseref1_leap : IC :=
  (.seq (.reg [⟨some 2, .mov (.c (.bool false)), none⟩])
    (.seq (.reg [⟨some 3, .mov (.t 0), none⟩,
      ⟨some 4, .bin .rem (.t 3) (.c (.int .i64 4)), none⟩,
      ⟨some 5, .bin .eql (.t 4) (.c (.int .i64 0)), none⟩,
      ⟨some 6, .mov (.t 5), none⟩,
      ⟨some 7, .mov (.t 0), (some (6, true))⟩,
      ⟨some 8, .bin .rem (.t 7) (.c (.int .i64 100)), (some (6, true))⟩,
      ⟨some 9, .bin .neq (.t 8) (.c (.int .i64 0)), (some (6, true))⟩,
      ⟨some 10, .pick (.t 6) (.t 9) (.c (.bool false)), none⟩,
      ⟨some 11, .mov (.t 10), none⟩,
      ⟨some 12, .mov (.t 0), (some (11, false))⟩,
      ⟨some 13, .bin .rem (.t 12) (.c (.int .i64 400)), (some (11, false))⟩,
      ⟨some 14, .bin .eql (.t 13) (.c (.int .i64 0)), (some (11, false))⟩,
      ⟨some 15, .pick (.t 11) (.c (.bool true)) (.t 14), none⟩,
      ⟨some 2, .mov (.t 15), none⟩])
    .ret))
def rs_chaseref1_leap : List IRes := [.t 2]
theorem ck_chaseref1_leap : chkF Tryz.prog Tryz.f180 ir_chaseref1_leap rs_chaseref1_leap 16 = true := by kernel_rfl
/- paperchase/chaseref1.monthLong -/
def ir_chaseref1_monthLong : IC :=
  (.seq (.reg [⟨some 4, .mov (.c (.int .i64 0)), none⟩])
    (.seq (.seq (.reg [⟨some 5, .mov (.t 1), none⟩,
      ⟨some 6, .bin .eql (.t 5) (.c (.int .i64 2)), none⟩,
      ⟨some 7, .mov (.t 6), none⟩,
      ⟨some 8, .mov (.t 0), (some (7, true))⟩,
      ⟨some 9, .call 180 [.t 8], (some (7, true))⟩,
      ⟨some 10, .pick (.t 7) (.t 9) (.c (.bool false)), none⟩])
    (.cond (.t 10) (.seq (.reg [⟨some 4, .mov (.c (.int .i64 29)), none⟩])
    .ret) .skip))
    (.seq (.reg [⟨some 11, .bsl 1 [.c (.int .i64 31), .c (.int .i64 28), .c (.int .i64 31), .c (.int .i64 30), .c (.int .i64 31), .c (.int .i64 30), .c (.int .i64 31), .c (.int .i64 31), .c (.int .i64 30), .c (.int .i64 31), .c (.int .i64 30), .c (.int .i64 31)], none⟩,
      ⟨some 12, .mov (.t 1), none⟩,
      ⟨some 13, .bin .sub (.t 12) (.c (.int .i64 1)), none⟩,
      ⟨some 14, .ixa 1 (.t 11) (.t 13), none⟩,
      ⟨some 15, .ld 1 false (.t 14), none⟩,
      ⟨some 4, .mov (.t 15), none⟩])
    .ret)))
def rs_chaseref1_monthLong : List IRes := [.t 4]
theorem ck_chaseref1_monthLong : chkF Tryz.prog Tryz.f101 ir_chaseref1_monthLong rs_chaseref1_monthLong 16 = true := by kernel_rfl
/- paperchase/base.Floor -/
def ir_base_Floor : IC :=
  (.seq (.reg [⟨some 4, .mov (.c (.int .i64 0)), none⟩])
    (.seq (.reg [⟨some 6, .mov (.t 0), none⟩,
      ⟨some 7, .mov (.t 1), none⟩,
      ⟨some 8, .bin .quo (.t 6) (.t 7), none⟩,
      ⟨some 5, .mov (.t 8), none⟩])
    (.seq (.seq (.reg [⟨some 9, .mov (.t 0), none⟩,
      ⟨some 10, .mov (.t 1), none⟩,
      ⟨some 11, .bin .rem (.t 9) (.t 10), none⟩,
      ⟨some 12, .bin .lss (.t 11) (.c (.int .i64 0)), none⟩])
    (.cond (.t 12) (.reg [⟨some 13, .mov (.t 5), none⟩,
      ⟨some 14, .bin .sub (.t 13) (.c (.int .i64 1)), none⟩,
      ⟨some 5, .mov (.t 14), none⟩]) .skip))
    (.cut (.seq (.reg [⟨some 15, .mov (.t 5), none⟩,
      ⟨some 4, .mov (.t 15), none⟩])
    .ret)))))
def rs_base_Floor : List IRes := [.t 4]
theorem ck_base_Floor : chkF Tryz.prog Tryz.f174 ir_base_Floor rs_base_Floor 16 = true := by kernel_rfl
/- paperchase/base.Moment -/
def ir_base_Moment : IC :=
  (.seq (.reg [⟨some 2, .mov (.c (.bool false)), none⟩])
    (.seq (.reg [⟨some 3, .mov (.t 0), none⟩,
      ⟨some 4, .call 71 [.t 3, .c (.int .i64 0), .c (.int .i64 5761439)], none⟩,
      ⟨some 2, .mov (.t 4), none⟩])
    .ret))
def rs_base_Moment : List IRes := [.t 2]
theorem ck_base_Moment : chkF Tryz.prog Tryz.f92 ir_base_Moment rs_base_Moment 5 = true := by kernel_rfl
/- paperchase/chaseref1.Moment -/
def ir_chaseref1_Moment : IC :=
  (.seq (.reg [⟨some 2, .mov (.c (.bool false)), none⟩])
    (.seq (.reg [⟨some 3, .mov (.t 0), none⟩,
      ⟨some 4, .bin .geq (.t 3) (.c (.int .i64 0)), none⟩,
      ⟨some 5, .mov (.t 4), none⟩,
      ⟨some 6, .mov (.t 0), (some (5, true))⟩,
      ⟨some 7, .bin .lss (.t 6) (.c (.int .i64 5761440)), (some (5, true))⟩,
      ⟨some 8, .pick (.t 5) (.t 7) (.c (.bool false)), none⟩,
      ⟨some 2, .mov (.t 8), none⟩])
    .ret))
def rs_chaseref1_Moment : List IRes := [.t 2]
theorem ck_chaseref1_Moment : chkF Tryz.prog Tryz.f32 ir_chaseref1_Moment rs_chaseref1_Moment 9 = true := by kernel_rfl

def leapY (y : Int) : Bool := decide (y.tmod 4 = 0) && !decide (y.tmod 100 = 0) || decide (y.tmod 400 = 0)
def mlen (y m : Int) : Int := if m = 2 then (if leapY y = true then 29 else 28) else if m = 4 ∨ m = 6 ∨ m = 9 ∨ m = 11 then 30 else 31
def ylen (y : Int) : Int := if leapY y = true then 366 else 365
theorem mlen_b (y m : Int) : 28 ≤ mlen y m ∧ mlen y m ≤ 31 := by
  unfold mlen
  repeat' split
  all_goals omega
theorem ylen_b (y : Int) : 365 ≤ ylen y ∧ ylen y ≤ 366 := by
  unfold ylen
  split <;> omega
/-- The first months of a year; years from one on. -/
def mS (y : Int) : Nat → Int
  | 0 => 0
  | k + 1 => mS y k + mlen y ((k + 1 : Nat) : Int)
def yS (y : Int) : Nat → Int
  | 0 => 0
  | k + 1 => yS y k + ylen (y + (k : Nat))
theorem mS_b (y : Int) : ∀ k : Nat, 0 ≤ mS y k ∧ mS y k ≤ 31 * (k : Int)
  | 0 => by simp [mS]
  | k + 1 => by
    have h := mS_b y k
    have h2 := mlen_b y ((k + 1 : Nat) : Int)
    rw [mS]
    omega
theorem yS_b (y : Int) : ∀ k : Nat, 0 ≤ yS y k ∧ yS y k ≤ 366 * (k : Int)
  | 0 => by simp [yS]
  | k + 1 => by
    have h := yS_b y k
    have h2 := ylen_b (y + (k : Nat))
    rw [yS]
    omega
/-- The number of a day. -/
def daysN (y m d : Int) : Int := d - 1 + mS y (m - 1).toNat + yS 2024 (y - 2024).toNat - yS y (2024 - y).toNat
section
variable {E : Envt}
theorem leapT_ok (y : Int) : PCall Tryz.prog E 241 [int y] (· = .bool (leapY y)) := by
  refine pcallF mixed Tryz.func241 ck_thread_days_1 ?_
  simp only [a0, l0, OS.ao, List.map_cons, List.map_nil, List.length_cons, List.length_nil, List.cons_append, List.nil_append, Nat.reduceSub, Nat.reduceAdd, List.replicate_succ, List.replicate_zero, ir_thread_days_1, rs_thread_days_1, ZZ, YY, Ze, ite_true, ite_false, forall_const, reduceCtorEq, Nat.reduceAdd, Nat.reduceMul, Nat.reduceLeDiff, Nat.reduceLT, Nat.reduceEqDiff]
  exact ⟨by decide, fun h => ⟨h, by decide⟩, fun h => ⟨h, by decide⟩, fun h => by rw [h]; rfl, rfl⟩
theorem leapR_ok (y : Int) : PCall Tryz.prog E 180 [int y] (· = .bool (leapY y)) := by
  refine pcallF mixed Tryz.func180 ck_chaseref1_leap ?_
  simp only [a0, l0, OS.ao, List.map_cons, List.map_nil, List.length_cons, List.length_nil, List.cons_append, List.nil_append, Nat.reduceSub, Nat.reduceAdd, List.replicate_succ, List.replicate_zero, ir_chaseref1_leap, rs_chaseref1_leap, ZZ, YY, Ze, ite_true, ite_false, forall_const, reduceCtorEq, Nat.reduceAdd, Nat.reduceMul, Nat.reduceLeDiff, Nat.reduceLT, Nat.reduceEqDiff]
  exact ⟨by decide, fun h => ⟨h, by decide⟩, fun h => ⟨h, by decide⟩, fun h => by rw [h]; rfl, rfl⟩
theorem mlenT_ok (y m : Int) : PCall Tryz.prog E 242 [int m, .ptr [.clo 241 []], .ptr [int y]] (· = int (mlen y m)) := by
  refine pcallF mixed Tryz.func242 ck_thread_days_2 ?_
  simp only [a0, l0, OS.ao, List.map_cons, List.map_nil, List.length_cons, List.length_nil, List.cons_append, List.nil_append, Nat.reduceSub, Nat.reduceAdd, List.replicate_succ, List.replicate_zero, ir_thread_days_2, rs_thread_days_2, ZZ, YY, Ze, ite_true, ite_false, forall_const, reduceCtorEq, Nat.reduceAdd, Nat.reduceMul, Nat.reduceLeDiff, Nat.reduceLT, Nat.reduceEqDiff]
  unfold mlen
  refine br ?_ ?_
  · intro h
    have h := of_decide_eq_true h
    simp only [ZZ, YY, Ze, ite_true, ite_false, forall_const, reduceCtorEq, Nat.reduceAdd, Nat.reduceMul, Nat.reduceLeDiff, Nat.reduceLT, Nat.reduceEqDiff]
    refine ⟨by kernel_rfl, ?_⟩
    refine use1 (leapT_ok y) rfl (.inl rfl) ?_
    simp only [ZZ, YY, Ze, ite_true, ite_false, forall_const, reduceCtorEq, Nat.reduceAdd, Nat.reduceMul, Nat.reduceLeDiff, Nat.reduceLT, Nat.reduceEqDiff]
    rw [if_pos h]
    refine br ?_ ?_
    · intro hl
      simp only [ZZ, YY, Ze, ite_true, ite_false, forall_const, reduceCtorEq, Nat.reduceAdd, Nat.reduceMul, Nat.reduceLeDiff, Nat.reduceLT, Nat.reduceEqDiff]
      rw [if_pos hl]
    · intro hl
      simp only [ZZ, YY, Ze, ite_true, ite_false, forall_const, reduceCtorEq, Nat.reduceAdd, Nat.reduceMul, Nat.reduceLeDiff, Nat.reduceLT, Nat.reduceEqDiff]
      rw [if_neg (by rw [hl]; simp)]
  · intro h
    have h2 := of_decide_eq_false h
    rw [if_neg h2]
    simp only [ZZ, YY, Ze, ite_true, ite_false, forall_const, reduceCtorEq, Nat.reduceAdd, Nat.reduceMul, Nat.reduceLeDiff, Nat.reduceLT, Nat.reduceEqDiff]
    refine br ?_ ?_
    · intro h4
      simp only [ZZ, YY, Ze, ite_true, ite_false, forall_const, reduceCtorEq, Nat.reduceAdd, Nat.reduceMul, Nat.reduceLeDiff, Nat.reduceLT, Nat.reduceEqDiff]
      refine cut_re _ _ ReOk.refl ?_
      simp only [ZZ, YY, Ze, ite_true, ite_false, forall_const, reduceCtorEq, Nat.reduceAdd, Nat.reduceMul, Nat.reduceLeDiff, Nat.reduceLT, Nat.reduceEqDiff, h4]
      rw [if_pos (.inl (of_decide_eq_true h4))]
    · intro h4
      simp only [ZZ, YY, Ze, ite_true, ite_false, forall_const, reduceCtorEq, Nat.reduceAdd, Nat.reduceMul, Nat.reduceLeDiff, Nat.reduceLT, Nat.reduceEqDiff]
      refine br ?_ ?_
      · intro h6
        simp only [ZZ, YY, Ze, ite_true, ite_false, forall_const, reduceCtorEq, Nat.reduceAdd, Nat.reduceMul, Nat.reduceLeDiff, Nat.reduceLT, Nat.reduceEqDiff]
        refine cut_re _ _ ReOk.refl ?_
        simp only [ZZ, YY, Ze, ite_true, ite_false, forall_const, reduceCtorEq, Nat.reduceAdd, Nat.reduceMul, Nat.reduceLeDiff, Nat.reduceLT, Nat.reduceEqDiff, h6]
        rw [if_pos (.inr (.inl (of_decide_eq_true h6)))]
      · intro h6
        simp only [ZZ, YY, Ze, ite_true, ite_false, forall_const, reduceCtorEq, Nat.reduceAdd, Nat.reduceMul, Nat.reduceLeDiff, Nat.reduceLT, Nat.reduceEqDiff]
        refine br ?_ ?_
        · intro h9
          simp only [ZZ, YY, Ze, ite_true, ite_false, forall_const, reduceCtorEq, Nat.reduceAdd, Nat.reduceMul, Nat.reduceLeDiff, Nat.reduceLT, Nat.reduceEqDiff]
          refine cut_re _ _ ReOk.refl ?_
          simp only [ZZ, YY, Ze, ite_true, ite_false, forall_const, reduceCtorEq, Nat.reduceAdd, Nat.reduceMul, Nat.reduceLeDiff, Nat.reduceLT, Nat.reduceEqDiff, h9]
          rw [if_pos (.inr (.inr (.inl (of_decide_eq_true h9))))]
        · intro h9
          simp only [ZZ, YY, Ze, ite_true, ite_false, forall_const, reduceCtorEq, Nat.reduceAdd, Nat.reduceMul, Nat.reduceLeDiff, Nat.reduceLT, Nat.reduceEqDiff]
          refine cut_re _ _ ReOk.refl ?_
          simp only [ZZ, YY, Ze, ite_true, ite_false, forall_const, reduceCtorEq, Nat.reduceAdd, Nat.reduceMul, Nat.reduceLeDiff, Nat.reduceLT, Nat.reduceEqDiff]
          refine br ?_ ?_
          · intro h11
            simp only [ZZ, YY, Ze, ite_true, ite_false, forall_const, reduceCtorEq, Nat.reduceAdd, Nat.reduceMul, Nat.reduceLeDiff, Nat.reduceLT, Nat.reduceEqDiff]
            rw [if_pos (.inr (.inr (.inr (of_decide_eq_true h11))))]
          · intro h11
            simp only [ZZ, YY, Ze, ite_true, ite_false, forall_const, reduceCtorEq, Nat.reduceAdd, Nat.reduceMul, Nat.reduceLeDiff, Nat.reduceLT, Nat.reduceEqDiff]
            rw [if_neg]
            rintro (e | e | e | e)
            · exact of_decide_eq_false h4 e
            · exact of_decide_eq_false h6 e
            · exact of_decide_eq_false h9 e
            · exact of_decide_eq_false h11 e
theorem mlenR_ok (y m : Int) (h1 : 1 ≤ m) (h2 : m ≤ 12) : PCall Tryz.prog E 101 [int y, int m] (· = int (mlen y m)) := by
  refine pcallF mixed Tryz.func101 ck_chaseref1_monthLong ?_
  simp only [a0, l0, OS.ao, List.map_cons, List.map_nil, List.length_cons, List.length_nil, List.cons_append, List.nil_append, Nat.reduceSub, Nat.reduceAdd, List.replicate_succ, List.replicate_zero, ir_chaseref1_monthLong, rs_chaseref1_monthLong, ZZ, YY, Ze, ite_true, ite_false, forall_const, reduceCtorEq, Nat.reduceAdd, Nat.reduceMul, Nat.reduceLeDiff, Nat.reduceLT, Nat.reduceEqDiff]
  refine useG (fun _ => leapR_ok y) rfl (.inl rfl) ?_
  simp only [ZZ, YY, Ze, ite_true, ite_false, forall_const, reduceCtorEq, Nat.reduceAdd, Nat.reduceMul, Nat.reduceLeDiff, Nat.reduceLT, Nat.reduceEqDiff]
  refine br ?_ ?_
  · intro h
    simp only [Bool.and_eq_true, decide_eq_true_eq] at h
    simp only [ZZ, YY, Ze, ite_true, ite_false, forall_const, reduceCtorEq, Nat.reduceAdd, Nat.reduceMul, Nat.reduceLeDiff, Nat.reduceLT, Nat.reduceEqDiff]
    rw [mlen, if_pos h.1, if_pos h.2]
  · intro h
    simp only [ZZ, YY, Ze, ite_true, ite_false, forall_const, reduceCtorEq, Nat.reduceAdd, Nat.reduceMul, Nat.reduceLeDiff, Nat.reduceLT, Nat.reduceEqDiff]
    have hm : m = 1 ∨ m = 2 ∨ m = 3 ∨ m = 4 ∨ m = 5 ∨ m = 6 ∨ m = 7 ∨ m = 8 ∨ m = 9 ∨ m = 10 ∨ m = 11 ∨ m = 12 := by omega
    rcases hm with rfl | rfl | rfl | rfl | rfl | rfl | rfl | rfl | rfl | rfl | rfl | rfl
    all_goals refine ⟨i64_of (by decide) (by decide), ⟨by decide, by decide⟩, by decide, ?_⟩
    all_goals first
      | rfl
      | (have hl : leapY y = false := by simpa using h
         show int 28 = int (mlen y 2)
         rw [mlen, if_pos rfl, if_neg (by rw [hl]; simp)])
theorem Moment_ok (n : Int) : PCall Tryz.prog E 92 [int n] (· = .bool (inE n 0 5761439)) := by
  refine pcallF mixed Tryz.func92 ck_base_Moment ?_
  simp only [a0, l0, OS.ao, List.map_cons, List.map_nil, List.length_cons, List.length_nil, List.cons_append, List.nil_append, Nat.reduceSub, Nat.reduceAdd, List.replicate_succ, List.replicate_zero, ir_base_Moment, rs_base_Moment, ZZ, YY, Ze, ite_true, ite_false, forall_const, reduceCtorEq, Nat.reduceAdd, Nat.reduceMul, Nat.reduceLeDiff, Nat.reduceLT, Nat.reduceEqDiff]
  refine use1 (In_ok n 0 5761439) rfl (.inl rfl) ?_
  simp only [ZZ, YY, Ze, ite_true, ite_false, forall_const, reduceCtorEq, Nat.reduceAdd, Nat.reduceMul, Nat.reduceLeDiff, Nat.reduceLT, Nat.reduceEqDiff]
theorem MomentR_ok (n : Int) : PCall Tryz.prog E 32 [int n] (· = .bool (inE n 0 5761439)) := by
  refine pcallF mixed Tryz.func32 ck_chaseref1_Moment ?_
  simp only [a0, l0, OS.ao, List.map_cons, List.map_nil, List.length_cons, List.length_nil, List.cons_append, List.nil_append, Nat.reduceSub, Nat.reduceAdd, List.replicate_succ, List.replicate_zero, ir_chaseref1_Moment, rs_chaseref1_Moment, ZZ, YY, Ze, ite_true, ite_false, forall_const, reduceCtorEq, Nat.reduceAdd, Nat.reduceMul, Nat.reduceLeDiff, Nat.reduceLT, Nat.reduceEqDiff]
  have : (decide (0 ≤ n) && decide (n < 5761440)) = inE n 0 5761439 := by
    unfold inE
    rw [Bool.eq_iff_iff]
    simp only [Bool.and_eq_true, decide_eq_true_eq]
    omega
  rw [this]
theorem Floor_ok (a : Int) (ha : -1000000000 ≤ a ∧ a ≤ 1000000000) : PCall Tryz.prog E 174 [int a, int 7] (· = int (a / 7)) := by
  refine pcallF mixed Tryz.func174 ck_base_Floor ?_
  simp only [a0, l0, OS.ao, List.map_cons, List.map_nil, List.length_cons, List.length_nil, List.cons_append, List.nil_append, Nat.reduceSub, Nat.reduceAdd, List.replicate_succ, List.replicate_zero, ir_base_Floor, rs_base_Floor, ZZ, YY, Ze, ite_true, ite_false, forall_const, reduceCtorEq, Nat.reduceAdd, Nat.reduceMul, Nat.reduceLeDiff, Nat.reduceLT, Nat.reduceEqDiff]
  have e1 := Int.tdiv_eq_ediv (a := a) (b := 7)
  have e2 := Int.tmod_eq_emod (a := a) (b := 7)
  have e3 : (7 : Int).sign = 1 := rfl
  have e4 : (7 : Int).natAbs = 7 := rfl
  rw [e3] at e1
  rw [e4] at e2
  generalize a.tdiv 7 = q at *
  generalize a.tmod 7 = r at *
  have hq : -1000000001 ≤ q ∧ q ≤ 1000000001 := by split at e1 <;> omega
  refine ⟨⟨by omega, i64_of (by omega) (by omega)⟩, by omega, ?_⟩
  refine br ?_ ?_
  · intro h
    have h := of_decide_eq_true h
    have e : q - 1 = a / 7 := by split at e1 <;> split at e2 <;> omega
    simp only [ZZ, YY, Ze, ite_true, ite_false, forall_const, reduceCtorEq, Nat.reduceAdd, Nat.reduceMul, Nat.reduceLeDiff, Nat.reduceLT, Nat.reduceEqDiff]
    refine ⟨i64_of (by omega) (by omega), ?_⟩
    refine cut_re _ _ ReOk.refl ?_
    simp only [ZZ, YY, Ze, ite_true, ite_false, forall_const, reduceCtorEq, Nat.reduceAdd, Nat.reduceMul, Nat.reduceLeDiff, Nat.reduceLT, Nat.reduceEqDiff]
    rw [e]
  · intro h
    have h := of_decide_eq_false h
    have e : q = a / 7 := by split at e1 <;> split at e2 <;> omega
    simp only [ZZ, YY, Ze, ite_true, ite_false, forall_const, reduceCtorEq, Nat.reduceAdd, Nat.reduceMul, Nat.reduceLeDiff, Nat.reduceLT, Nat.reduceEqDiff]
    refine cut_re _ _ ReOk.refl ?_
    simp only [ZZ, YY, Ze, ite_true, ite_false, forall_const, reduceCtorEq, Nat.reduceAdd, Nat.reduceMul, Nat.reduceLeDiff, Nat.reduceLT, Nat.reduceEqDiff]
    rw [e]
abbrev fMl : Nat := 242
abbrev fLp : Nat := 241
abbrev tLp : Nat := 60
set_option maxHeartbeats 4000000 in
theorem days_ok (y m d : Int) (hy0 : 0 ≤ y) (hy1 : y ≤ 10000) (hm0 : 1 ≤ m) (hm1 : m ≤ 12) : PCall Tryz.prog E 173 [int y, int m, int d] (· = if inE d 1 (mlen y m) = true then .tup [int (daysN y m d), .bool true] else .tup [int 0, .bool false]) := by
  refine pcallF mixed Tryz.func173 ck_thread_days ?_
  simp only [a0, l0, OS.ao, List.map_cons, List.map_nil, List.length_cons, List.length_nil, List.cons_append, List.nil_append, Nat.reduceSub, Nat.reduceAdd, List.replicate_succ, List.replicate_zero, ir_thread_days, rs_thread_days, ZZ, YY, Ze, ite_true, ite_false, forall_const, reduceCtorEq, Nat.reduceAdd, Nat.reduceMul, Nat.reduceLeDiff, Nat.reduceLT, Nat.reduceEqDiff]
  refine ⟨by kernel_rfl, ?_⟩
  refine use1 (mlenT_ok y m) rfl (.inr rfl) ?_
  simp only [ZZ, YY, Ze, ite_true, ite_false, forall_const, reduceCtorEq, Nat.reduceAdd, Nat.reduceMul, Nat.reduceLeDiff, Nat.reduceLT, Nat.reduceEqDiff]
  refine use1 (In_ok d 1 (mlen y m)) rfl (.inl rfl) ?_
  simp only [ZZ, YY, Ze, ite_true, ite_false, forall_const, reduceCtorEq, Nat.reduceAdd, Nat.reduceMul, Nat.reduceLeDiff, Nat.reduceLT, Nat.reduceEqDiff]
  refine br ?_ ?_
  · intro h
    have h : inE d 1 (mlen y m) = false := by rwa [Bool.not_eq_true'] at h
    simp only [ZZ, YY, Ze, ite_true, ite_false, forall_const, reduceCtorEq, Nat.reduceAdd, Nat.reduceMul, Nat.reduceLeDiff, Nat.reduceLT, Nat.reduceEqDiff]
    rw [if_neg (by rw [h]; simp)]
  · intro h
    have h : inE d 1 (mlen y m) = true := by rwa [Bool.not_eq_false'] at h
    rw [if_pos h]
    have hd : 1 ≤ d ∧ d ≤ 31 := by
      have := mlen_b y m
      simp only [inE, Bool.and_eq_true, decide_eq_true_eq] at h
      omega
    simp only [ZZ, YY, Ze, ite_true, ite_false, forall_const, reduceCtorEq, Nat.reduceAdd, Nat.reduceMul, Nat.reduceLeDiff, Nat.reduceLT, Nat.reduceEqDiff]
    ((repeat' (with_reducible apply And.intro)) <;> try ((first | first | assumption | trivial | exact (fun hq => by rw [hq]; rfl) | exact i64_of (by omega) (by omega) | omega | (simp; done) | (simp; omega) | (intro hsc; have hs0 := hsc; (try have hsd := of_decide_eq_true hsc); (try simp only [Bool.not_eq_true', Bool.or_eq_false_iff, Bool.and_eq_true, Bool.or_eq_true, decide_eq_true_eq, decide_eq_false_iff_not] at hsc); (repeat' (with_reducible apply And.intro)) <;> (first | assumption | trivial | exact (fun hq => by rw [hq]; rfl) | exact i64_of (by omega) (by omega) | omega | (simp; done) | (simp; omega) | (intro hse; simp [hse, hs0]; done) | (intro hse; simp only [hse, hs0, Bool.true_and, Bool.and_true, Bool.not_false, Bool.not_true, Bool.and_self]; done))))))
    obtain ⟨M, rfl⟩ : ∃ M : Nat, m = (M : Nat) := ⟨m.toNat, by omega⟩
    have hM : ((M : Int) - 1).toNat = M - 1 := by omega
    refine loop_intro (fun n fr L => ∃ (k : Nat) (g : Int), M - k = n ∧ (1 ≤ k) ∧ (k ≤ M) ∧ (g = d - 1 + mS y (k - 1)) ∧ fr = [.any, .p (int (M : Nat)), .any, .adr (.l 3) 0, .any, .any, .any, .any, .adr (.l 8) 0, .fn fMl [.l 8, .l 3], .p (int g), .p (int (k : Nat)), .any, .any, .any, .any, .any, .any, .any, .any, .any, .any, .any, .any, .any, .any, .any, .any, .any, .any, .any, .any, .any, .any, .any, .any, .any, .any, .any, .any, .any, .any, .any, .any, .any, .any, .any, .any, .any, .any, .any, .any, .any, .any, .any, .any, .any, .any] ∧ L = [(.l 3, .box [.p (int y)] 3), (.l 8, .box [.p (.clo fLp [])] tLp)]) (M - 1) [.any, .p (int (M : Nat)), .any, .adr (.l 3) 0, .any, .any, .any, .any, .adr (.l 8) 0, .fn fMl [.l 8, .l 3], .p (int (d - 1)), .p (int (1 : Nat)), .any, .any, .any, .any, .any, .any, .any, .any, .any, .any, .any, .any, .any, .any, .any, .any, .any, .any, .any, .any, .any, .any, .any, .any, .any, .any, .any, .any, .any, .any, .any, .any, .any, .any, .any, .any, .any, .any, .any, .any, .any, .any, .any, .any, .any, .any] [(.l 3, .box [.p (int y)] 3), (.l 8, .box [.p (.clo fLp [])] tLp)] (by (simp only [ZZ, YY, Ze, ite_true, ite_false, forall_const, reduceCtorEq, Nat.reduceAdd, Nat.reduceMul, Nat.reduceLeDiff, Nat.reduceLT, Nat.reduceEqDiff]; try trivial)) (by (simp only [ZZ, YY, Ze, ite_true, ite_false, forall_const, reduceCtorEq, Nat.reduceAdd, Nat.reduceMul, Nat.reduceLeDiff, Nat.reduceLT, Nat.reduceEqDiff]; try trivial)) ⟨1, d - 1, rfl, Nat.le_refl _, by omega, by simp [mS], rfl, rfl⟩ ?_
    rintro n fr L ⟨k, g, rfl, hk0, hk, hn, rfl, rfl⟩
    simp only [ir_thread_days_L0, ZZ, YY, Ze, ite_true, ite_false, forall_const, reduceCtorEq, Nat.reduceAdd, Nat.reduceMul, Nat.reduceLeDiff, Nat.reduceLT, Nat.reduceEqDiff]
    refine br ?_ ?_
    · intro hlt
      have hlt : k < M := by have := of_decide_eq_true hlt; omega
      have hb := mS_b y (k - 1)
      have hb2 := mlen_b y (k : Nat)
      have hnx : g + mlen y (k : Nat) = d - 1 + mS y (k + 1 - 1) := by
        obtain ⟨j, rfl⟩ : ∃ j, k = j + 1 := ⟨k - 1, by omega⟩
        rw [hn, show j + 1 - 1 = j from rfl, show j + 1 + 1 - 1 = j + 1 from rfl, mS]
        omega
      simp only [ZZ, YY, Ze, ite_true, ite_false, forall_const, reduceCtorEq, Nat.reduceAdd, Nat.reduceMul, Nat.reduceLeDiff, Nat.reduceLT, Nat.reduceEqDiff]
      refine ⟨by kernel_rfl, ?_⟩
      refine use1 (mlenT_ok y (k : Nat)) rfl (.inr rfl) ?_
      simp only [ZZ, YY, Ze, ite_true, ite_false, forall_const, reduceCtorEq, Nat.reduceAdd, Nat.reduceMul, Nat.reduceLeDiff, Nat.reduceLT, Nat.reduceEqDiff]
      ((repeat' (with_reducible apply And.intro)) <;> try ((first | first | assumption | trivial | exact (fun hq => by rw [hq]; rfl) | exact i64_of (by omega) (by omega) | omega | (simp; done) | (simp; omega) | (intro hsc; have hs0 := hsc; (try have hsd := of_decide_eq_true hsc); (try simp only [Bool.not_eq_true', Bool.or_eq_false_iff, Bool.and_eq_true, Bool.or_eq_true, decide_eq_true_eq, decide_eq_false_iff_not] at hsc); (repeat' (with_reducible apply And.intro)) <;> (first | assumption | trivial | exact (fun hq => by rw [hq]; rfl) | exact i64_of (by omega) (by omega) | omega | (simp; done) | (simp; omega) | (intro hse; simp [hse, hs0]; done) | (intro hse; simp only [hse, hs0, Bool.true_and, Bool.and_true, Bool.not_false, Bool.not_true, Bool.and_self]; done))))))
      refine end_round (M - (k + 1)) [.any, .p (int (M : Nat)), .any, .adr (.l 3) 0, .any, .any, .any, .any, .adr (.l 8) 0, .fn fMl [.l 8, .l 3], .p (int (g + mlen y (k : Nat))), .p (int ((k + 1) : Nat)), .any, .any, .any, .any, .any, .any, .any, .any, .any, .any, .any, .any, .any, .any, .any, .any, .any, .any, .any, .any, .any, .any, .any, .any, .any, .any, .any, .any, .any, .any, .any, .any, .any, .any, .any, .any, .any, .any, .any, .any, .any, .any, .any, .any, .any, .any] [(.l 3, .box [.p (int y)] 3), (.l 8, .box [.p (.clo fLp [])] tLp)] (by omega) (by (simp only [ZZ, YY, Ze, ite_true, ite_false, forall_const, reduceCtorEq, Nat.reduceAdd, Nat.reduceMul, Nat.reduceLeDiff, Nat.reduceLT, Nat.reduceEqDiff]; try trivial)) (by (simp only [ZZ, YY, Ze, ite_true, ite_false, forall_const, reduceCtorEq, Nat.reduceAdd, Nat.reduceMul, Nat.reduceLeDiff, Nat.reduceLT, Nat.reduceEqDiff]; try trivial)) ⟨k + 1, g + mlen y (k : Nat), rfl, by omega, by omega, hnx, rfl, rfl⟩
    intro hge
    have hkM : k = M := by have := of_decide_eq_false hge; omega
    subst hkM
    have hb := mS_b y (k - 1)
    simp only [ZZ, YY, Ze, ite_true, ite_false, forall_const, reduceCtorEq, Nat.reduceAdd, Nat.reduceMul, Nat.reduceLeDiff, Nat.reduceLT, Nat.reduceEqDiff]
    refine loop_intro (fun n fr L => ∃ (j : Nat) (q : Int), (y - 2024).toNat - j = n ∧ (j ≤ (y - 2024).toNat) ∧ (q = g + yS 2024 j) ∧ fr = [.any, .any, .any, .adr (.l 3) 0, .any, .any, .any, .any, .adr (.l 8) 0, .any, .p (int q), .any, .p (int (2024 + (j : Nat))), .any, .any, .any, .any, .any, .any, .any, .any, .any, .any, .any, .any, .any, .any, .any, .any, .any, .any, .any, .any, .any, .any, .any, .any, .any, .any, .any, .any, .any, .any, .any, .any, .any, .any, .any, .any, .any, .any, .any, .any, .any, .any, .any, .any, .any] ∧ L = [(.l 3, .box [.p (int y)] 3), (.l 8, .box [.p (.clo fLp [])] tLp)]) ((y - 2024).toNat - 0) [.any, .any, .any, .adr (.l 3) 0, .any, .any, .any, .any, .adr (.l 8) 0, .any, .p (int g), .any, .p (int (2024 + (0 : Nat))), .any, .any, .any, .any, .any, .any, .any, .any, .any, .any, .any, .any, .any, .any, .any, .any, .any, .any, .any, .any, .any, .any, .any, .any, .any, .any, .any, .any, .any, .any, .any, .any, .any, .any, .any, .any, .any, .any, .any, .any, .any, .any, .any, .any, .any] [(.l 3, .box [.p (int y)] 3), (.l 8, .box [.p (.clo fLp [])] tLp)] (by (simp only [ZZ, YY, Ze, ite_true, ite_false, forall_const, reduceCtorEq, Nat.reduceAdd, Nat.reduceMul, Nat.reduceLeDiff, Nat.reduceLT, Nat.reduceEqDiff]; try trivial)) (by (simp only [ZZ, YY, Ze, ite_true, ite_false, forall_const, reduceCtorEq, Nat.reduceAdd, Nat.reduceMul, Nat.reduceLeDiff, Nat.reduceLT, Nat.reduceEqDiff]; try trivial)) ⟨0, g, rfl, Nat.zero_le _, by simp [yS], rfl, rfl⟩ ?_
    rintro n fr L ⟨j, q, rfl, hj, hq, rfl, rfl⟩
    simp only [ir_thread_days_L1, ZZ, YY, Ze, ite_true, ite_false, forall_const, reduceCtorEq, Nat.reduceAdd, Nat.reduceMul, Nat.reduceLeDiff, Nat.reduceLT, Nat.reduceEqDiff]
    refine br ?_ ?_
    · intro hlt
      have hlt : 2024 + (j : Int) < y := of_decide_eq_true hlt
      have hb1 := yS_b 2024 j
      have hnx : q + ylen (2024 + (j : Nat)) = g + yS 2024 (j + 1) := by rw [hq, yS]; omega
      have he : 2024 + (j : Int) + 1 = 2024 + ((j + 1 : Nat) : Int) := by omega
      simp only [ZZ, YY, Ze, ite_true, ite_false, forall_const, reduceCtorEq, Nat.reduceAdd, Nat.reduceMul, Nat.reduceLeDiff, Nat.reduceLT, Nat.reduceEqDiff]
      refine ⟨i64_of (by omega) (by omega), by kernel_rfl, ?_⟩
      refine use1 (leapT_ok (2024 + (j : Nat))) rfl (.inl rfl) ?_
      simp only [ZZ, YY, Ze, ite_true, ite_false, forall_const, reduceCtorEq, Nat.reduceAdd, Nat.reduceMul, Nat.reduceLeDiff, Nat.reduceLT, Nat.reduceEqDiff]
      refine br ?_ ?_
      · intro hl
        have hyl : ylen (2024 + (j : Nat)) = 366 := by rw [ylen, if_pos hl]
        have he2 : q + 365 + 1 = q + ylen (2024 + (j : Nat)) := by omega
        simp only [ZZ, YY, Ze, ite_true, ite_false, forall_const, reduceCtorEq, Nat.reduceAdd, Nat.reduceMul, Nat.reduceLeDiff, Nat.reduceLT, Nat.reduceEqDiff, he2]
        refine ⟨i64_of (by omega) (by omega), ?_⟩
        refine cut_re _ _ ReOk.refl ?_
        simp only [ZZ, YY, Ze, ite_true, ite_false, forall_const, reduceCtorEq, Nat.reduceAdd, Nat.reduceMul, Nat.reduceLeDiff, Nat.reduceLT, Nat.reduceEqDiff, he]
        ((repeat' (with_reducible apply And.intro)) <;> try ((first | first | assumption | trivial | exact (fun hq => by rw [hq]; rfl) | exact i64_of (by omega) (by omega) | omega | (simp; done) | (simp; omega) | (intro hsc; have hs0 := hsc; (try have hsd := of_decide_eq_true hsc); (try simp only [Bool.not_eq_true', Bool.or_eq_false_iff, Bool.and_eq_true, Bool.or_eq_true, decide_eq_true_eq, decide_eq_false_iff_not] at hsc); (repeat' (with_reducible apply And.intro)) <;> (first | assumption | trivial | exact (fun hq => by rw [hq]; rfl) | exact i64_of (by omega) (by omega) | omega | (simp; done) | (simp; omega) | (intro hse; simp [hse, hs0]; done) | (intro hse; simp only [hse, hs0, Bool.true_and, Bool.and_true, Bool.not_false, Bool.not_true, Bool.and_self]; done))))))
        refine end_round ((y - 2024).toNat - (j + 1)) [.any, .any, .any, .adr (.l 3) 0, .any, .any, .any, .any, .adr (.l 8) 0, .any, .p (int (q + ylen (2024 + (j : Nat)))), .any, .p (int (2024 + ((j + 1) : Nat))), .any, .any, .any, .any, .any, .any, .any, .any, .any, .any, .any, .any, .any, .any, .any, .any, .any, .any, .any, .any, .any, .any, .any, .any, .any, .any, .any, .any, .any, .any, .any, .any, .any, .any, .any, .any, .any, .any, .any, .any, .any, .any, .any, .any, .any] [(.l 3, .box [.p (int y)] 3), (.l 8, .box [.p (.clo fLp [])] tLp)] (by omega) (by (simp only [ZZ, YY, Ze, ite_true, ite_false, forall_const, reduceCtorEq, Nat.reduceAdd, Nat.reduceMul, Nat.reduceLeDiff, Nat.reduceLT, Nat.reduceEqDiff]; try trivial)) (by (simp only [ZZ, YY, Ze, ite_true, ite_false, forall_const, reduceCtorEq, Nat.reduceAdd, Nat.reduceMul, Nat.reduceLeDiff, Nat.reduceLT, Nat.reduceEqDiff]; try trivial)) ⟨j + 1, q + ylen (2024 + (j : Nat)), rfl, by omega, hnx, rfl, rfl⟩
      · intro hl
        have hyl : ylen (2024 + (j : Nat)) = 365 := by rw [ylen, if_neg (by rw [hl]; simp)]
        have he2 : q + 365 = q + ylen (2024 + (j : Nat)) := by omega
        simp only [ZZ, YY, Ze, ite_true, ite_false, forall_const, reduceCtorEq, Nat.reduceAdd, Nat.reduceMul, Nat.reduceLeDiff, Nat.reduceLT, Nat.reduceEqDiff, he2]
        refine cut_re _ _ ReOk.refl ?_
        simp only [ZZ, YY, Ze, ite_true, ite_false, forall_const, reduceCtorEq, Nat.reduceAdd, Nat.reduceMul, Nat.reduceLeDiff, Nat.reduceLT, Nat.reduceEqDiff, he]
        ((repeat' (with_reducible apply And.intro)) <;> try ((first | first | assumption | trivial | exact (fun hq => by rw [hq]; rfl) | exact i64_of (by omega) (by omega) | omega | (simp; done) | (simp; omega) | (intro hsc; have hs0 := hsc; (try have hsd := of_decide_eq_true hsc); (try simp only [Bool.not_eq_true', Bool.or_eq_false_iff, Bool.and_eq_true, Bool.or_eq_true, decide_eq_true_eq, decide_eq_false_iff_not] at hsc); (repeat' (with_reducible apply And.intro)) <;> (first | assumption | trivial | exact (fun hq => by rw [hq]; rfl) | exact i64_of (by omega) (by omega) | omega | (simp; done) | (simp; omega) | (intro hse; simp [hse, hs0]; done) | (intro hse; simp only [hse, hs0, Bool.true_and, Bool.and_true, Bool.not_false, Bool.not_true, Bool.and_self]; done))))))
        refine end_round ((y - 2024).toNat - (j + 1)) [.any, .any, .any, .adr (.l 3) 0, .any, .any, .any, .any, .adr (.l 8) 0, .any, .p (int (q + ylen (2024 + (j : Nat)))), .any, .p (int (2024 + ((j + 1) : Nat))), .any, .any, .any, .any, .any, .any, .any, .any, .any, .any, .any, .any, .any, .any, .any, .any, .any, .any, .any, .any, .any, .any, .any, .any, .any, .any, .any, .any, .any, .any, .any, .any, .any, .any, .any, .any, .any, .any, .any, .any, .any, .any, .any, .any, .any] [(.l 3, .box [.p (int y)] 3), (.l 8, .box [.p (.clo fLp [])] tLp)] (by omega) (by (simp only [ZZ, YY, Ze, ite_true, ite_false, forall_const, reduceCtorEq, Nat.reduceAdd, Nat.reduceMul, Nat.reduceLeDiff, Nat.reduceLT, Nat.reduceEqDiff]; try trivial)) (by (simp only [ZZ, YY, Ze, ite_true, ite_false, forall_const, reduceCtorEq, Nat.reduceAdd, Nat.reduceMul, Nat.reduceLeDiff, Nat.reduceLT, Nat.reduceEqDiff]; try trivial)) ⟨j + 1, q + ylen (2024 + (j : Nat)), rfl, by omega, hnx, rfl, rfl⟩
    intro hge
    have hjy : j = (y - 2024).toNat := by have := of_decide_eq_false hge; omega
    have hb1 := yS_b 2024 j
    simp only [ZZ, YY, Ze, ite_true, ite_false, forall_const, reduceCtorEq, Nat.reduceAdd, Nat.reduceMul, Nat.reduceLeDiff, Nat.reduceLT, Nat.reduceEqDiff]
    refine loop_intro (fun n fr L => ∃ (i : Nat) (r : Int) (z : Int), (2024 - y).toNat - i = n ∧ (i ≤ (2024 - y).toNat) ∧ (r = q - yS y i) ∧ (z = y + (i : Nat)) ∧ fr = [.any, .any, .any, .adr (.l 3) 0, .any, .any, .any, .any, .adr (.l 8) 0, .any, .p (int r), .any, .any, .p (int z), .any, .any, .any, .any, .any, .any, .any, .any, .any, .any, .any, .any, .any, .any, .any, .any, .any, .any, .any, .any, .any, .any, .any, .any, .any, .any, .any, .any, .any, .any, .any, .any, .any, .any, .any, .any, .any, .any, .any, .any, .any, .any, .any, .any] ∧ L = [(.l 3, .box [.p (int y)] 3), (.l 8, .box [.p (.clo fLp [])] tLp)]) ((2024 - y).toNat - 0) [.any, .any, .any, .adr (.l 3) 0, .any, .any, .any, .any, .adr (.l 8) 0, .any, .p (int q), .any, .any, .p (int y), .any, .any, .any, .any, .any, .any, .any, .any, .any, .any, .any, .any, .any, .any, .any, .any, .any, .any, .any, .any, .any, .any, .any, .any, .any, .any, .any, .any, .any, .any, .any, .any, .any, .any, .any, .any, .any, .any, .any, .any, .any, .any, .any, .any] [(.l 3, .box [.p (int y)] 3), (.l 8, .box [.p (.clo fLp [])] tLp)] (by (simp only [ZZ, YY, Ze, ite_true, ite_false, forall_const, reduceCtorEq, Nat.reduceAdd, Nat.reduceMul, Nat.reduceLeDiff, Nat.reduceLT, Nat.reduceEqDiff]; try trivial)) (by (simp only [ZZ, YY, Ze, ite_true, ite_false, forall_const, reduceCtorEq, Nat.reduceAdd, Nat.reduceMul, Nat.reduceLeDiff, Nat.reduceLT, Nat.reduceEqDiff]; try trivial)) ⟨0, q, y, rfl, Nat.zero_le _, by simp [yS], by simp, rfl, rfl⟩ ?_
    rintro n fr L ⟨i, r, z, rfl, hi, hr, hz, rfl, rfl⟩
    simp only [ir_thread_days_L2, ZZ, YY, Ze, ite_true, ite_false, forall_const, reduceCtorEq, Nat.reduceAdd, Nat.reduceMul, Nat.reduceLeDiff, Nat.reduceLT, Nat.reduceEqDiff]
    refine br ?_ ?_
    · intro hlt
      have hlt : z < 2024 := of_decide_eq_true hlt
      have hb2 := yS_b y i
      have hnx : r - ylen z = q - yS y (i + 1) := by rw [hr, yS, hz]; omega
      have he : z + 1 = y + ((i + 1 : Nat) : Int) := by omega
      have hyb := ylen_b z
      simp only [ZZ, YY, Ze, ite_true, ite_false, forall_const, reduceCtorEq, Nat.reduceAdd, Nat.reduceMul, Nat.reduceLeDiff, Nat.reduceLT, Nat.reduceEqDiff]
      refine ⟨i64_of (by omega) (by omega), by kernel_rfl, ?_⟩
      refine use1 (leapT_ok z) rfl (.inl rfl) ?_
      simp only [ZZ, YY, Ze, ite_true, ite_false, forall_const, reduceCtorEq, Nat.reduceAdd, Nat.reduceMul, Nat.reduceLeDiff, Nat.reduceLT, Nat.reduceEqDiff]
      refine br ?_ ?_
      · intro hl
        have hyl : ylen z = 366 := by rw [ylen, if_pos hl]
        have he2 : r - 365 - 1 = r - ylen z := by omega
        simp only [ZZ, YY, Ze, ite_true, ite_false, forall_const, reduceCtorEq, Nat.reduceAdd, Nat.reduceMul, Nat.reduceLeDiff, Nat.reduceLT, Nat.reduceEqDiff, he2]
        refine ⟨i64_of (by omega) (by omega), ?_⟩
        refine cut_re _ _ ReOk.refl ?_
        simp only [ZZ, YY, Ze, ite_true, ite_false, forall_const, reduceCtorEq, Nat.reduceAdd, Nat.reduceMul, Nat.reduceLeDiff, Nat.reduceLT, Nat.reduceEqDiff]
        ((repeat' (with_reducible apply And.intro)) <;> try ((first | first | assumption | trivial | exact (fun hq => by rw [hq]; rfl) | exact i64_of (by omega) (by omega) | omega | (simp; done) | (simp; omega) | (intro hsc; have hs0 := hsc; (try have hsd := of_decide_eq_true hsc); (try simp only [Bool.not_eq_true', Bool.or_eq_false_iff, Bool.and_eq_true, Bool.or_eq_true, decide_eq_true_eq, decide_eq_false_iff_not] at hsc); (repeat' (with_reducible apply And.intro)) <;> (first | assumption | trivial | exact (fun hq => by rw [hq]; rfl) | exact i64_of (by omega) (by omega) | omega | (simp; done) | (simp; omega) | (intro hse; simp [hse, hs0]; done) | (intro hse; simp only [hse, hs0, Bool.true_and, Bool.and_true, Bool.not_false, Bool.not_true, Bool.and_self]; done))))))
        refine end_round ((2024 - y).toNat - (i + 1)) [.any, .any, .any, .adr (.l 3) 0, .any, .any, .any, .any, .adr (.l 8) 0, .any, .p (int (r - ylen z)), .any, .any, .p (int (z + 1)), .any, .any, .any, .any, .any, .any, .any, .any, .any, .any, .any, .any, .any, .any, .any, .any, .any, .any, .any, .any, .any, .any, .any, .any, .any, .any, .any, .any, .any, .any, .any, .any, .any, .any, .any, .any, .any, .any, .any, .any, .any, .any, .any, .any] [(.l 3, .box [.p (int y)] 3), (.l 8, .box [.p (.clo fLp [])] tLp)] (by omega) (by (simp only [ZZ, YY, Ze, ite_true, ite_false, forall_const, reduceCtorEq, Nat.reduceAdd, Nat.reduceMul, Nat.reduceLeDiff, Nat.reduceLT, Nat.reduceEqDiff]; try trivial)) (by (simp only [ZZ, YY, Ze, ite_true, ite_false, forall_const, reduceCtorEq, Nat.reduceAdd, Nat.reduceMul, Nat.reduceLeDiff, Nat.reduceLT, Nat.reduceEqDiff]; try trivial)) ⟨i + 1, r - ylen z, z + 1, rfl, by omega, hnx, he, rfl, rfl⟩
      · intro hl
        have hyl : ylen z = 365 := by rw [ylen, if_neg (by rw [hl]; simp)]
        have he2 : r - 365 = r - ylen z := by omega
        simp only [ZZ, YY, Ze, ite_true, ite_false, forall_const, reduceCtorEq, Nat.reduceAdd, Nat.reduceMul, Nat.reduceLeDiff, Nat.reduceLT, Nat.reduceEqDiff, he2]
        refine cut_re _ _ ReOk.refl ?_
        simp only [ZZ, YY, Ze, ite_true, ite_false, forall_const, reduceCtorEq, Nat.reduceAdd, Nat.reduceMul, Nat.reduceLeDiff, Nat.reduceLT, Nat.reduceEqDiff]
        ((repeat' (with_reducible apply And.intro)) <;> try ((first | first | assumption | trivial | exact (fun hq => by rw [hq]; rfl) | exact i64_of (by omega) (by omega) | omega | (simp; done) | (simp; omega) | (intro hsc; have hs0 := hsc; (try have hsd := of_decide_eq_true hsc); (try simp only [Bool.not_eq_true', Bool.or_eq_false_iff, Bool.and_eq_true, Bool.or_eq_true, decide_eq_true_eq, decide_eq_false_iff_not] at hsc); (repeat' (with_reducible apply And.intro)) <;> (first | assumption | trivial | exact (fun hq => by rw [hq]; rfl) | exact i64_of (by omega) (by omega) | omega | (simp; done) | (simp; omega) | (intro hse; simp [hse, hs0]; done) | (intro hse; simp only [hse, hs0, Bool.true_and, Bool.and_true, Bool.not_false, Bool.not_true, Bool.and_self]; done))))))
        refine end_round ((2024 - y).toNat - (i + 1)) [.any, .any, .any, .adr (.l 3) 0, .any, .any, .any, .any, .adr (.l 8) 0, .any, .p (int (r - ylen z)), .any, .any, .p (int (z + 1)), .any, .any, .any, .any, .any, .any, .any, .any, .any, .any, .any, .any, .any, .any, .any, .any, .any, .any, .any, .any, .any, .any, .any, .any, .any, .any, .any, .any, .any, .any, .any, .any, .any, .any, .any, .any, .any, .any, .any, .any, .any, .any, .any, .any] [(.l 3, .box [.p (int y)] 3), (.l 8, .box [.p (.clo fLp [])] tLp)] (by omega) (by (simp only [ZZ, YY, Ze, ite_true, ite_false, forall_const, reduceCtorEq, Nat.reduceAdd, Nat.reduceMul, Nat.reduceLeDiff, Nat.reduceLT, Nat.reduceEqDiff]; try trivial)) (by (simp only [ZZ, YY, Ze, ite_true, ite_false, forall_const, reduceCtorEq, Nat.reduceAdd, Nat.reduceMul, Nat.reduceLeDiff, Nat.reduceLT, Nat.reduceEqDiff]; try trivial)) ⟨i + 1, r - ylen z, z + 1, rfl, by omega, hnx, he, rfl, rfl⟩
    intro hge2
    have hiy : i = (2024 - y).toNat := by have := of_decide_eq_false hge2; omega
    have hfin : r = daysN y (k : Nat) d := by rw [hr, hq, hn, hiy, hjy, daysN, hM]
    rw [hfin]
    simp only [ZZ, YY, Ze, ite_true, ite_false, forall_const, reduceCtorEq, Nat.reduceAdd, Nat.reduceMul, Nat.reduceLeDiff, Nat.reduceLT, Nat.reduceEqDiff]
end
end Go.Proofs.YtidmphcocnaonaaGreatDoor

/- The number of a day, by the reference; numbers of two and of four digits; clocks. -/
namespace Go.Proofs.YtidmphcocnaonaaGreatDoor
open Go.RowKit
set_option linter.unusedVariables false
set_option linter.unusedSimpArgs false
set_option linter.defProp false

/- paperchase/chaseref1.dayNumber -/
def ir_chaseref1_dayNumber_L2 : IC :=
  (.seq (.seq (.reg [⟨some 35, .mov (.t 10), none⟩,
      ⟨some 36, .bin .lss (.t 35) (.c (.int .i64 2024)), none⟩])
    (.cond (.t 36) .skip (.exit 4)))
    (.seq (.block 5 (.seq (.reg [⟨some 39, .mov (.t 7), none⟩,
      ⟨some 40, .bin .sub (.t 39) (.c (.int .i64 365)), none⟩,
      ⟨some 7, .mov (.t 40), none⟩])
    (.seq (.reg [⟨some 41, .mov (.t 10), none⟩,
      ⟨some 42, .call 180 [.t 41], none⟩])
    (.cond (.t 42) (.reg [⟨some 43, .mov (.t 7), none⟩,
      ⟨some 44, .bin .sub (.t 43) (.c (.int .i64 1)), none⟩,
      ⟨some 7, .mov (.t 44), none⟩]) .skip))))
    (.cut (.reg [⟨some 37, .mov (.t 10), none⟩,
      ⟨some 38, .bin .add (.t 37) (.c (.int .i64 1)), none⟩,
      ⟨some 10, .mov (.t 38), none⟩]))))
def ir_chaseref1_dayNumber_L1 : IC :=
  (.seq (.seq (.reg [⟨some 23, .mov (.t 9), none⟩,
      ⟨some 24, .mov (.t 0), none⟩,
      ⟨some 25, .bin .lss (.t 23) (.t 24), none⟩])
    (.cond (.t 25) .skip (.exit 2)))
    (.seq (.block 3 (.seq (.reg [⟨some 28, .mov (.t 7), none⟩,
      ⟨some 29, .bin .add (.t 28) (.c (.int .i64 365)), none⟩,
      ⟨some 7, .mov (.t 29), none⟩])
    (.seq (.reg [⟨some 30, .mov (.t 9), none⟩,
      ⟨some 31, .call 180 [.t 30], none⟩])
    (.cond (.t 31) (.reg [⟨some 32, .mov (.t 7), none⟩,
      ⟨some 33, .bin .add (.t 32) (.c (.int .i64 1)), none⟩,
      ⟨some 7, .mov (.t 33), none⟩]) .skip))))
    (.cut (.reg [⟨some 26, .mov (.t 9), none⟩,
      ⟨some 27, .bin .add (.t 26) (.c (.int .i64 1)), none⟩,
      ⟨some 9, .mov (.t 27), none⟩]))))
def ir_chaseref1_dayNumber_L0 : IC :=
  (.seq (.seq (.reg [⟨some 13, .mov (.t 8), none⟩,
      ⟨some 14, .mov (.t 1), none⟩,
      ⟨some 15, .bin .lss (.t 13) (.t 14), none⟩])
    (.cond (.t 15) .skip (.exit 0)))
    (.seq (.block 1 (.reg [⟨some 18, .mov (.t 7), none⟩,
      ⟨some 19, .mov (.t 0), none⟩,
      ⟨some 20, .mov (.t 8), none⟩,
      ⟨some 21, .call 101 [.t 19, .t 20], none⟩,
      ⟨some 22, .bin .add (.t 18) (.t 21), none⟩,
      ⟨some 7, .mov (.t 22), none⟩]))
    (.reg [⟨some 16, .mov (.t 8), none⟩,
      ⟨some 17, .bin .add (.t 16) (.c (.int .i64 1)), none⟩,
      ⟨some 8, .mov (.t 17), none⟩])))
def ir_chaseref1_dayNumber : IC :=
  (.seq (.reg [⟨some 6, .mov (.c (.int .i64 0)), none⟩])
    (.seq (.reg [⟨some 11, .mov (.t 2), none⟩,
      ⟨some 12, .bin .sub (.t 11) (.c (.int .i64 1)), none⟩,
      ⟨some 7, .mov (.t 12), none⟩])
    (.seq (.seq (.reg [⟨some 8, .mov (.c (.int .i64 1)), none⟩])
    (.block 0 (.loop ir_chaseref1_dayNumber_L0)))
    (.seq (.seq (.reg [⟨some 9, .mov (.c (.int .i64 2024)), none⟩])
    (.block 2 (.loop ir_chaseref1_dayNumber_L1)))
    (.seq (.seq (.reg [⟨some 34, .mov (.t 0), none⟩,
      ⟨some 10, .mov (.t 34), none⟩])
    (.block 4 (.loop ir_chaseref1_dayNumber_L2)))
    (.seq (.reg [⟨some 45, .mov (.t 7), none⟩,
      ⟨some 6, .mov (.t 45), none⟩])
    .ret))))))
def rs_chaseref1_dayNumber : List IRes := [.t 6]
theorem ck_chaseref1_dayNumber : chkF Tryz.prog Tryz.f102 ir_chaseref1_dayNumber rs_chaseref1_dayNumber 46 = true := by kernel_rfl

section
variable {E : Envt}
set_option maxHeartbeats 4000000 in
theorem dayNumber_ok (y m d : Int) (hy0 : 0 ≤ y) (hy1 : y ≤ 10000) (hm0 : 1 ≤ m) (hm1 : m ≤ 12) (hd : 1 ≤ d ∧ d ≤ 31) : PCall Tryz.prog E 102 [int y, int m, int d] (· = int (daysN y m d)) := by
  refine pcallF mixed Tryz.func102 ck_chaseref1_dayNumber ?_
  simp only [a0, l0, OS.ao, List.map_cons, List.map_nil, List.length_cons, List.length_nil, List.cons_append, List.nil_append, Nat.reduceSub, Nat.reduceAdd, List.replicate_succ, List.replicate_zero, ir_chaseref1_dayNumber, rs_chaseref1_dayNumber, ZZ, YY, Ze, ite_true, ite_false, forall_const, reduceCtorEq, Nat.reduceAdd, Nat.reduceMul, Nat.reduceLeDiff, Nat.reduceLT, Nat.reduceEqDiff]
  ((repeat' (with_reducible apply And.intro)) <;> try ((first | first | assumption | trivial | exact (fun hq => by rw [hq]; rfl) | exact i64_of (by omega) (by omega) | omega | (simp; done) | (simp; omega) | (intro hsc; have hs0 := hsc; (try have hsd := of_decide_eq_true hsc); (try simp only [Bool.not_eq_true', Bool.or_eq_false_iff, Bool.and_eq_true, Bool.or_eq_true, decide_eq_true_eq, decide_eq_false_iff_not] at hsc); (repeat' (with_reducible apply And.intro)) <;> (first | assumption | trivial | exact (fun hq => by rw [hq]; rfl) | exact i64_of (by omega) (by omega) | omega | (simp; done) | (simp; omega) | (intro hse; simp [hse, hs0]; done) | (intro hse; simp only [hse, hs0, Bool.true_and, Bool.and_true, Bool.not_false, Bool.not_true, Bool.and_self]; done))))))
  obtain ⟨M, rfl⟩ : ∃ M : Nat, m = (M : Nat) := ⟨m.toNat, by omega⟩
  have hM : ((M : Int) - 1).toNat = M - 1 := by omega
  refine loop_intro (fun n fr L => ∃ (k : Nat) (g : Int), M - k = n ∧ (1 ≤ k) ∧ (k ≤ M) ∧ (g = d - 1 + mS y (k - 1)) ∧ fr = [.p (int y), .p (int (M : Nat)), .any, .any, .any, .any, .any, .p (int g), .p (int (k : Nat)), .any, .any, .any, .any, .any, .any, .any, .any, .any, .any, .any, .any, .any, .any, .any, .any, .any, .any, .any, .any, .any, .any, .any, .any, .any, .any, .any, .any, .any, .any, .any, .any, .any, .any, .any, .any, .any] ∧ L = []) (M - 1) [.p (int y), .p (int (M : Nat)), .any, .any, .any, .any, .any, .p (int (d - 1)), .p (int (1 : Nat)), .any, .any, .any, .any, .any, .any, .any, .any, .any, .any, .any, .any, .any, .any, .any, .any, .any, .any, .any, .any, .any, .any, .any, .any, .any, .any, .any, .any, .any, .any, .any, .any, .any, .any, .any, .any, .any] [] (by (simp only [ZZ, YY, Ze, ite_true, ite_false, forall_const, reduceCtorEq, Nat.reduceAdd, Nat.reduceMul, Nat.reduceLeDiff, Nat.reduceLT, Nat.reduceEqDiff]; try trivial)) (by (simp only [ZZ, YY, Ze, ite_true, ite_false, forall_const, reduceCtorEq, Nat.reduceAdd, Nat.reduceMul, Nat.reduceLeDiff, Nat.reduceLT, Nat.reduceEqDiff]; try trivial)) ⟨1, d - 1, rfl, Nat.le_refl _, by omega, by simp [mS], rfl, rfl⟩ ?_
  rintro n fr L ⟨k, g, rfl, hk0, hk, hn, rfl, rfl⟩
  simp only [ir_chaseref1_dayNumber_L0, ZZ, YY, Ze, ite_true, ite_false, forall_const, reduceCtorEq, Nat.reduceAdd, Nat.reduceMul, Nat.reduceLeDiff, Nat.reduceLT, Nat.reduceEqDiff]
  refine br ?_ ?_
  · intro hlt
    have hlt : k < M := by have := of_decide_eq_true hlt; omega
    have hb := mS_b y (k - 1)
    have hb2 := mlen_b y (k : Nat)
    have hnx : g + mlen y (k : Nat) = d - 1 + mS y (k + 1 - 1) := by
      obtain ⟨j, rfl⟩ : ∃ j, k = j + 1 := ⟨k - 1, by omega⟩
      rw [hn, show j + 1 - 1 = j from rfl, show j + 1 + 1 - 1 = j + 1 from rfl, mS]
      omega
    simp only [ZZ, YY, Ze, ite_true, ite_false, forall_const, reduceCtorEq, Nat.reduceAdd, Nat.reduceMul, Nat.reduceLeDiff, Nat.reduceLT, Nat.reduceEqDiff]
    refine use1 (mlenR_ok y (k : Nat) (by omega) (by omega)) rfl (.inl rfl) ?_
    simp only [ZZ, YY, Ze, ite_true, ite_false, forall_const, reduceCtorEq, Nat.reduceAdd, Nat.reduceMul, Nat.reduceLeDiff, Nat.reduceLT, Nat.reduceEqDiff]
    ((repeat' (with_reducible apply And.intro)) <;> try ((first | first | assumption | trivial | exact (fun hq => by rw [hq]; rfl) | exact i64_of (by omega) (by omega) | omega | (simp; done) | (simp; omega) | (intro hsc; have hs0 := hsc; (try have hsd := of_decide_eq_true hsc); (try simp only [Bool.not_eq_true', Bool.or_eq_false_iff, Bool.and_eq_true, Bool.or_eq_true, decide_eq_true_eq, decide_eq_false_iff_not] at hsc); (repeat' (with_reducible apply And.intro)) <;> (first | assumption | trivial | exact (fun hq => by rw [hq]; rfl) | exact i64_of (by omega) (by omega) | omega | (simp; done) | (simp; omega) | (intro hse; simp [hse, hs0]; done) | (intro hse; simp only [hse, hs0, Bool.true_and, Bool.and_true, Bool.not_false, Bool.not_true, Bool.and_self]; done))))))
    refine end_round (M - (k + 1)) [.p (int y), .p (int (M : Nat)), .any, .any, .any, .any, .any, .p (int (g + mlen y (k : Nat))), .p (int ((k + 1) : Nat)), .any, .any, .any, .any, .any, .any, .any, .any, .any, .any, .any, .any, .any, .any, .any, .any, .any, .any, .any, .any, .any, .any, .any, .any, .any, .any, .any, .any, .any, .any, .any, .any, .any, .any, .any, .any, .any] [] (by omega) (by (simp only [ZZ, YY, Ze, ite_true, ite_false, forall_const, reduceCtorEq, Nat.reduceAdd, Nat.reduceMul, Nat.reduceLeDiff, Nat.reduceLT, Nat.reduceEqDiff]; try trivial)) (by (simp only [ZZ, YY, Ze, ite_true, ite_false, forall_const, reduceCtorEq, Nat.reduceAdd, Nat.reduceMul, Nat.reduceLeDiff, Nat.reduceLT, Nat.reduceEqDiff]; try trivial)) ⟨k + 1, g + mlen y (k : Nat), rfl, by omega, by omega, hnx, rfl, rfl⟩
  intro hge
  have hkM : k = M := by have := of_decide_eq_false hge; omega
  subst hkM
  have hb := mS_b y (k - 1)
  simp only [ZZ, YY, Ze, ite_true, ite_false, forall_const, reduceCtorEq, Nat.reduceAdd, Nat.reduceMul, Nat.reduceLeDiff, Nat.reduceLT, Nat.reduceEqDiff]
  refine loop_intro (fun n fr L => ∃ (j : Nat) (q : Int), (y - 2024).toNat - j = n ∧ (j ≤ (y - 2024).toNat) ∧ (q = g + yS 2024 j) ∧ fr = [.p (int y), .any, .any, .any, .any, .any, .any, .p (int q), .any, .p (int (2024 + (j : Nat))), .any, .any, .any, .any, .any, .any, .any, .any, .any, .any, .any, .any, .any, .any, .any, .any, .any, .any, .any, .any, .any, .any, .any, .any, .any, .any, .any, .any, .any, .any, .any, .any, .any, .any, .any, .any] ∧ L = []) ((y - 2024).toNat - 0) [.p (int y), .any, .any, .any, .any, .any, .any, .p (int g), .any, .p (int (2024 + (0 : Nat))), .any, .any, .any, .any, .any, .any, .any, .any, .any, .any, .any, .any, .any, .any, .any, .any, .any, .any, .any, .any, .any, .any, .any, .any, .any, .any, .any, .any, .any, .any, .any, .any, .any, .any, .any, .any] [] (by (simp only [ZZ, YY, Ze, ite_true, ite_false, forall_const, reduceCtorEq, Nat.reduceAdd, Nat.reduceMul, Nat.reduceLeDiff, Nat.reduceLT, Nat.reduceEqDiff]; try trivial)) (by (simp only [ZZ, YY, Ze, ite_true, ite_false, forall_const, reduceCtorEq, Nat.reduceAdd, Nat.reduceMul, Nat.reduceLeDiff, Nat.reduceLT, Nat.reduceEqDiff]; try trivial)) ⟨0, g, rfl, Nat.zero_le _, by simp [yS], rfl, rfl⟩ ?_
  rintro n fr L ⟨j, q, rfl, hj, hq, rfl, rfl⟩
  simp only [ir_chaseref1_dayNumber_L1, ZZ, YY, Ze, ite_true, ite_false, forall_const, reduceCtorEq, Nat.reduceAdd, Nat.reduceMul, Nat.reduceLeDiff, Nat.reduceLT, Nat.reduceEqDiff]
  refine br ?_ ?_
  · intro hlt
    have hlt : 2024 + (j : Int) < y := of_decide_eq_true hlt
    have hb1 := yS_b 2024 j
    have hnx : q + ylen (2024 + (j : Nat)) = g + yS 2024 (j + 1) := by rw [hq, yS]; omega
    have he : 2024 + (j : Int) + 1 = 2024 + ((j + 1 : Nat) : Int) := by omega
    simp only [ZZ, YY, Ze, ite_true, ite_false, forall_const, reduceCtorEq, Nat.reduceAdd, Nat.reduceMul, Nat.reduceLeDiff, Nat.reduceLT, Nat.reduceEqDiff]
    refine ⟨i64_of (by omega) (by omega), ?_⟩
    refine use1 (leapR_ok (2024 + (j : Nat))) rfl (.inl rfl) ?_
    simp only [ZZ, YY, Ze, ite_true, ite_false, forall_const, reduceCtorEq, Nat.reduceAdd, Nat.reduceMul, Nat.reduceLeDiff, Nat.reduceLT, Nat.reduceEqDiff]
    refine br ?_ ?_
    · intro hl
      have hyl : ylen (2024 + (j : Nat)) = 366 := by rw [ylen, if_pos hl]
      have he2 : q + 365 + 1 = q + ylen (2024 + (j : Nat)) := by omega
      simp only [ZZ, YY, Ze, ite_true, ite_false, forall_const, reduceCtorEq, Nat.reduceAdd, Nat.reduceMul, Nat.reduceLeDiff, Nat.reduceLT, Nat.reduceEqDiff, he2]
      refine ⟨i64_of (by omega) (by omega), ?_⟩
      refine cut_re _ _ ReOk.refl ?_
      simp only [ZZ, YY, Ze, ite_true, ite_false, forall_const, reduceCtorEq, Nat.reduceAdd, Nat.reduceMul, Nat.reduceLeDiff, Nat.reduceLT, Nat.reduceEqDiff, he]
      ((repeat' (with_reducible apply And.intro)) <;> try ((first | first | assumption | trivial | exact (fun hq => by rw [hq]; rfl) | exact i64_of (by omega) (by omega) | omega | (simp; done) | (simp; omega) | (intro hsc; have hs0 := hsc; (try have hsd := of_decide_eq_true hsc); (try simp only [Bool.not_eq_true', Bool.or_eq_false_iff, Bool.and_eq_true, Bool.or_eq_true, decide_eq_true_eq, decide_eq_false_iff_not] at hsc); (repeat' (with_reducible apply And.intro)) <;> (first | assumption | trivial | exact (fun hq => by rw [hq]; rfl) | exact i64_of (by omega) (by omega) | omega | (simp; done) | (simp; omega) | (intro hse; simp [hse, hs0]; done) | (intro hse; simp only [hse, hs0, Bool.true_and, Bool.and_true, Bool.not_false, Bool.not_true, Bool.and_self]; done))))))
      refine end_round ((y - 2024).toNat - (j + 1)) [.p (int y), .any, .any, .any, .any, .any, .any, .p (int (q + ylen (2024 + (j : Nat)))), .any, .p (int (2024 + ((j + 1) : Nat))), .any, .any, .any, .any, .any, .any, .any, .any, .any, .any, .any, .any, .any, .any, .any, .any, .any, .any, .any, .any, .any, .any, .any, .any, .any, .any, .any, .any, .any, .any, .any, .any, .any, .any, .any, .any] [] (by omega) (by (simp only [ZZ, YY, Ze, ite_true, ite_false, forall_const, reduceCtorEq, Nat.reduceAdd, Nat.reduceMul, Nat.reduceLeDiff, Nat.reduceLT, Nat.reduceEqDiff]; try trivial)) (by (simp only [ZZ, YY, Ze, ite_true, ite_false, forall_const, reduceCtorEq, Nat.reduceAdd, Nat.reduceMul, Nat.reduceLeDiff, Nat.reduceLT, Nat.reduceEqDiff]; try trivial)) ⟨j + 1, q + ylen (2024 + (j : Nat)), rfl, by omega, hnx, rfl, rfl⟩
    · intro hl
      have hyl : ylen (2024 + (j : Nat)) = 365 := by rw [ylen, if_neg (by rw [hl]; simp)]
      have he2 : q + 365 = q + ylen (2024 + (j : Nat)) := by omega
      simp only [ZZ, YY, Ze, ite_true, ite_false, forall_const, reduceCtorEq, Nat.reduceAdd, Nat.reduceMul, Nat.reduceLeDiff, Nat.reduceLT, Nat.reduceEqDiff, he2]
      refine cut_re _ _ ReOk.refl ?_
      simp only [ZZ, YY, Ze, ite_true, ite_false, forall_const, reduceCtorEq, Nat.reduceAdd, Nat.reduceMul, Nat.reduceLeDiff, Nat.reduceLT, Nat.reduceEqDiff, he]
      ((repeat' (with_reducible apply And.intro)) <;> try ((first | first | assumption | trivial | exact (fun hq => by rw [hq]; rfl) | exact i64_of (by omega) (by omega) | omega | (simp; done) | (simp; omega) | (intro hsc; have hs0 := hsc; (try have hsd := of_decide_eq_true hsc); (try simp only [Bool.not_eq_true', Bool.or_eq_false_iff, Bool.and_eq_true, Bool.or_eq_true, decide_eq_true_eq, decide_eq_false_iff_not] at hsc); (repeat' (with_reducible apply And.intro)) <;> (first | assumption | trivial | exact (fun hq => by rw [hq]; rfl) | exact i64_of (by omega) (by omega) | omega | (simp; done) | (simp; omega) | (intro hse; simp [hse, hs0]; done) | (intro hse; simp only [hse, hs0, Bool.true_and, Bool.and_true, Bool.not_false, Bool.not_true, Bool.and_self]; done))))))
      refine end_round ((y - 2024).toNat - (j + 1)) [.p (int y), .any, .any, .any, .any, .any, .any, .p (int (q + ylen (2024 + (j : Nat)))), .any, .p (int (2024 + ((j + 1) : Nat))), .any, .any, .any, .any, .any, .any, .any, .any, .any, .any, .any, .any, .any, .any, .any, .any, .any, .any, .any, .any, .any, .any, .any, .any, .any, .any, .any, .any, .any, .any, .any, .any, .any, .any, .any, .any] [] (by omega) (by (simp only [ZZ, YY, Ze, ite_true, ite_false, forall_const, reduceCtorEq, Nat.reduceAdd, Nat.reduceMul, Nat.reduceLeDiff, Nat.reduceLT, Nat.reduceEqDiff]; try trivial)) (by (simp only [ZZ, YY, Ze, ite_true, ite_false, forall_const, reduceCtorEq, Nat.reduceAdd, Nat.reduceMul, Nat.reduceLeDiff, Nat.reduceLT, Nat.reduceEqDiff]; try trivial)) ⟨j + 1, q + ylen (2024 + (j : Nat)), rfl, by omega, hnx, rfl, rfl⟩
  intro hge
  have hjy : j = (y - 2024).toNat := by have := of_decide_eq_false hge; omega
  have hb1 := yS_b 2024 j
  simp only [ZZ, YY, Ze, ite_true, ite_false, forall_const, reduceCtorEq, Nat.reduceAdd, Nat.reduceMul, Nat.reduceLeDiff, Nat.reduceLT, Nat.reduceEqDiff]
  refine loop_intro (fun n fr L => ∃ (i : Nat) (r : Int) (z : Int), (2024 - y).toNat - i = n ∧ (i ≤ (2024 - y).toNat) ∧ (r = q - yS y i) ∧ (z = y + (i : Nat)) ∧ fr = [.any, .any, .any, .any, .any, .any, .any, .p (int r), .any, .any, .p (int z), .any, .any, .any, .any, .any, .any, .any, .any, .any, .any, .any, .any, .any, .any, .any, .any, .any, .any, .any, .any, .any, .any, .any, .any, .any, .any, .any, .any, .any, .any, .any, .any, .any, .any, .any] ∧ L = []) ((2024 - y).toNat - 0) [.any, .any, .any, .any, .any, .any, .any, .p (int q), .any, .any, .p (int y), .any, .any, .any, .any, .any, .any, .any, .any, .any, .any, .any, .any, .any, .any, .any, .any, .any, .any, .any, .any, .any, .any, .any, .any, .any, .any, .any, .any, .any, .any, .any, .any, .any, .any, .any] [] (by (simp only [ZZ, YY, Ze, ite_true, ite_false, forall_const, reduceCtorEq, Nat.reduceAdd, Nat.reduceMul, Nat.reduceLeDiff, Nat.reduceLT, Nat.reduceEqDiff]; try trivial)) (by (simp only [ZZ, YY, Ze, ite_true, ite_false, forall_const, reduceCtorEq, Nat.reduceAdd, Nat.reduceMul, Nat.reduceLeDiff, Nat.reduceLT, Nat.reduceEqDiff]; try trivial)) ⟨0, q, y, rfl, Nat.zero_le _, by simp [yS], by simp, rfl, rfl⟩ ?_
  rintro n fr L ⟨i, r, z, rfl, hi, hr, hz, rfl, rfl⟩
  simp only [ir_chaseref1_dayNumber_L2, ZZ, YY, Ze, ite_true, ite_false, forall_const, reduceCtorEq, Nat.reduceAdd, Nat.reduceMul, Nat.reduceLeDiff, Nat.reduceLT, Nat.reduceEqDiff]
  refine br ?_ ?_
  · intro hlt
    have hlt : z < 2024 := of_decide_eq_true hlt
    have hb2 := yS_b y i
    have hnx : r - ylen z = q - yS y (i + 1) := by rw [hr, yS, hz]; omega
    have he : z + 1 = y + ((i + 1 : Nat) : Int) := by omega
    have hyb := ylen_b z
    simp only [ZZ, YY, Ze, ite_true, ite_false, forall_const, reduceCtorEq, Nat.reduceAdd, Nat.reduceMul, Nat.reduceLeDiff, Nat.reduceLT, Nat.reduceEqDiff]
    refine ⟨i64_of (by omega) (by omega), ?_⟩
    refine use1 (leapR_ok z) rfl (.inl rfl) ?_
    simp only [ZZ, YY, Ze, ite_true, ite_false, forall_const, reduceCtorEq, Nat.reduceAdd, Nat.reduceMul, Nat.reduceLeDiff, Nat.reduceLT, Nat.reduceEqDiff]
    refine br ?_ ?_
    · intro hl
      have hyl : ylen z = 366 := by rw [ylen, if_pos hl]
      have he2 : r - 365 - 1 = r - ylen z := by omega
      simp only [ZZ, YY, Ze, ite_true, ite_false, forall_const, reduceCtorEq, Nat.reduceAdd, Nat.reduceMul, Nat.reduceLeDiff, Nat.reduceLT, Nat.reduceEqDiff, he2]
      refine ⟨i64_of (by omega) (by omega), ?_⟩
      refine cut_re _ _ ReOk.refl ?_
      simp only [ZZ, YY, Ze, ite_true, ite_false, forall_const, reduceCtorEq, Nat.reduceAdd, Nat.reduceMul, Nat.reduceLeDiff, Nat.reduceLT, Nat.reduceEqDiff]
      ((repeat' (with_reducible apply And.intro)) <;> try ((first | first | assumption | trivial | exact (fun hq => by rw [hq]; rfl) | exact i64_of (by omega) (by omega) | omega | (simp; done) | (simp; omega) | (intro hsc; have hs0 := hsc; (try have hsd := of_decide_eq_true hsc); (try simp only [Bool.not_eq_true', Bool.or_eq_false_iff, Bool.and_eq_true, Bool.or_eq_true, decide_eq_true_eq, decide_eq_false_iff_not] at hsc); (repeat' (with_reducible apply And.intro)) <;> (first | assumption | trivial | exact (fun hq => by rw [hq]; rfl) | exact i64_of (by omega) (by omega) | omega | (simp; done) | (simp; omega) | (intro hse; simp [hse, hs0]; done) | (intro hse; simp only [hse, hs0, Bool.true_and, Bool.and_true, Bool.not_false, Bool.not_true, Bool.and_self]; done))))))
      refine end_round ((2024 - y).toNat - (i + 1)) [.any, .any, .any, .any, .any, .any, .any, .p (int (r - ylen z)), .any, .any, .p (int (z + 1)), .any, .any, .any, .any, .any, .any, .any, .any, .any, .any, .any, .any, .any, .any, .any, .any, .any, .any, .any, .any, .any, .any, .any, .any, .any, .any, .any, .any, .any, .any, .any, .any, .any, .any, .any] [] (by omega) (by (simp only [ZZ, YY, Ze, ite_true, ite_false, forall_const, reduceCtorEq, Nat.reduceAdd, Nat.reduceMul, Nat.reduceLeDiff, Nat.reduceLT, Nat.reduceEqDiff]; try trivial)) (by (simp only [ZZ, YY, Ze, ite_true, ite_false, forall_const, reduceCtorEq, Nat.reduceAdd, Nat.reduceMul, Nat.reduceLeDiff, Nat.reduceLT, Nat.reduceEqDiff]; try trivial)) ⟨i + 1, r - ylen z, z + 1, rfl, by omega, hnx, he, rfl, rfl⟩
    · intro hl
      have hyl : ylen z = 365 := by rw [ylen, if_neg (by rw [hl]; simp)]
      have he2 : r - 365 = r - ylen z := by omega
      simp only [ZZ, YY, Ze, ite_true, ite_false, forall_const, reduceCtorEq, Nat.reduceAdd, Nat.reduceMul, Nat.reduceLeDiff, Nat.reduceLT, Nat.reduceEqDiff, he2]
      refine cut_re _ _ ReOk.refl ?_
      simp only [ZZ, YY, Ze, ite_true, ite_false, forall_const, reduceCtorEq, Nat.reduceAdd, Nat.reduceMul, Nat.reduceLeDiff, Nat.reduceLT, Nat.reduceEqDiff]
      ((repeat' (with_reducible apply And.intro)) <;> try ((first | first | assumption | trivial | exact (fun hq => by rw [hq]; rfl) | exact i64_of (by omega) (by omega) | omega | (simp; done) | (simp; omega) | (intro hsc; have hs0 := hsc; (try have hsd := of_decide_eq_true hsc); (try simp only [Bool.not_eq_true', Bool.or_eq_false_iff, Bool.and_eq_true, Bool.or_eq_true, decide_eq_true_eq, decide_eq_false_iff_not] at hsc); (repeat' (with_reducible apply And.intro)) <;> (first | assumption | trivial | exact (fun hq => by rw [hq]; rfl) | exact i64_of (by omega) (by omega) | omega | (simp; done) | (simp; omega) | (intro hse; simp [hse, hs0]; done) | (intro hse; simp only [hse, hs0, Bool.true_and, Bool.and_true, Bool.not_false, Bool.not_true, Bool.and_self]; done))))))
      refine end_round ((2024 - y).toNat - (i + 1)) [.any, .any, .any, .any, .any, .any, .any, .p (int (r - ylen z)), .any, .any, .p (int (z + 1)), .any, .any, .any, .any, .any, .any, .any, .any, .any, .any, .any, .any, .any, .any, .any, .any, .any, .any, .any, .any, .any, .any, .any, .any, .any, .any, .any, .any, .any, .any, .any, .any, .any, .any, .any] [] (by omega) (by (simp only [ZZ, YY, Ze, ite_true, ite_false, forall_const, reduceCtorEq, Nat.reduceAdd, Nat.reduceMul, Nat.reduceLeDiff, Nat.reduceLT, Nat.reduceEqDiff]; try trivial)) (by (simp only [ZZ, YY, Ze, ite_true, ite_false, forall_const, reduceCtorEq, Nat.reduceAdd, Nat.reduceMul, Nat.reduceLeDiff, Nat.reduceLT, Nat.reduceEqDiff]; try trivial)) ⟨i + 1, r - ylen z, z + 1, rfl, by omega, hnx, he, rfl, rfl⟩
  intro hge2
  have hiy : i = (2024 - y).toNat := by have := of_decide_eq_false hge2; omega
  have hfin : r = daysN y (k : Nat) d := by rw [hr, hq, hn, hiy, hjy, daysN, hM]
  rw [hfin]
  simp only [ZZ, YY, Ze, ite_true, ite_false, forall_const, reduceCtorEq, Nat.reduceAdd, Nat.reduceMul, Nat.reduceLeDiff, Nat.reduceLT, Nat.reduceEqDiff]
end
end Go.Proofs.YtidmphcocnaonaaGreatDoor

/- strings.IndexRune at a rune beyond ASCII in an ASCII string; strings.IndexAny of any string at ASCII letters. -/
namespace Go.Proofs.YtidmphcocnaonaaGreatDoor
open Go.Shelf Go.RowKit Go.Lib
set_option linter.unusedVariables false
set_option linter.unusedSimpArgs false
set_option linter.defProp false

theorem get_bang {s : ByteArray} {j : Nat} (h : j < s.size) : s.get! j = s[j]'h := by
  simp [ByteArray.get!, getElem!_pos, h]
  rfl
theorem decode_high (s : ByteArray) (pos : Nat) (h : pos < s.size) (ha : 128 ≤ (s[pos]'h).toNat) :
    128 ≤ (Utf8.decode s pos).1 ∧ (Utf8.decode s pos).1 ≤ 1114111 ∧ 1 ≤ (Utf8.decode s pos).2 ∧ pos + (Utf8.decode s pos).2 ≤ s.size ∧ ∀ j (hj : j < s.size), pos ≤ j → j < pos + (Utf8.decode s pos).2 → 128 ≤ (s[j]'hj).toNat := by
  have g0 : s.get! (pos + 0) = s[pos]'h := get_bang h
  have hb : (s[pos]'h).toNat < 256 := (s[pos]'h).toNat_lt
  have hc : ∀ k, (decide (pos + k < s.size) && ((s.get! (pos + k)).toNat / 64 == 2)) = true → ∃ hk : pos + k < s.size, 128 ≤ (s[pos + k]'hk).toNat := by
    intro k hk
    simp only [Bool.and_eq_true, decide_eq_true_eq, beq_iff_eq] at hk
    refine ⟨hk.1, ?_⟩
    have := hk.2
    rw [get_bang hk.1] at this
    omega
  have one : ∀ j (hj : j < s.size), pos ≤ j → j < pos + 1 → 128 ≤ (s[j]'hj).toNat := by
    intro j hj h1 h2
    obtain rfl : j = pos := by omega
    exact ha
  have hw : ∀ n, n ≤ 4 → (∀ k, 1 ≤ k → k < n → (decide (pos + k < s.size) && ((s.get! (pos + k)).toNat / 64 == 2)) = true) → 1 ≤ n → pos + n ≤ s.size ∧ ∀ j (hj : j < s.size), pos ≤ j → j < pos + n → 128 ≤ (s[j]'hj).toNat := by
    intro n hn hk h1
    constructor
    · by_cases e : n = 1
      · omega
      · obtain ⟨hx, _⟩ := hc (n - 1) (hk (n - 1) (by omega) (by omega))
        omega
    · intro j hj j1 j2
      by_cases e : j = pos
      · subst e; exact ha
      · obtain ⟨k, rfl⟩ : ∃ k, j = pos + k := ⟨j - pos, by omega⟩
        obtain ⟨_, hx⟩ := hc k (hk k (by omega) (by omega))
        exact hx
  unfold Utf8.decode
  simp only [g0]
  rw [if_neg (by omega)]
  split
  · rename_i h1
    simp only [Bool.and_eq_true] at h1
    split
    · rename_i h2
      refine ⟨by omega, by omega, (by show 1 ≤ 2; decide), ?_⟩
      exact hw 2 (by decide) (fun k k1 k2 => by obtain rfl : k = 1 := by omega
                                                simpa using h1.2) (by decide)
    · exact ⟨by decide, by decide, by decide, by omega, one⟩
  · split
    · rename_i h1
      simp only [Bool.and_eq_true] at h1
      split
      · rename_i h2
        simp only [Bool.and_eq_true, decide_eq_true_eq] at h2
        refine ⟨by omega, ?_, (by show 1 ≤ 3; decide), ?_⟩
        · have := h2.2
          rw [Utf8.valid] at this
          simp only [Bool.or_eq_true, Bool.and_eq_true, decide_eq_true_eq] at this
          omega
        · exact hw 3 (by decide) (fun k k1 k2 => by
            rcases (show k = 1 ∨ k = 2 by omega) with rfl | rfl
            · simpa using h1.1.2
            · simpa using h1.2) (by decide)
      · exact ⟨by decide, by decide, by decide, by omega, one⟩
    · split
      · rename_i h1
        simp only [Bool.and_eq_true] at h1
        split
        · rename_i h2
          simp only [Bool.and_eq_true, decide_eq_true_eq] at h2
          refine ⟨by omega, ?_, (by show 1 ≤ 4; decide), ?_⟩
          · have := h2.2
            rw [Utf8.valid] at this
            simp only [Bool.or_eq_true, Bool.and_eq_true, decide_eq_true_eq] at this
            omega
          · exact hw 4 (by decide) (fun k k1 k2 => by
              rcases (show k = 1 ∨ k = 2 ∨ k = 3 by omega) with rfl | rfl | rfl
              · simpa using h1.1.1.2
              · simpa using h1.1.2
              · simpa using h1.2) (by decide)
        · exact ⟨by decide, by decide, by decide, by omega, one⟩
      · exact ⟨by decide, by decide, by decide, by omega, one⟩

/-- The next rune of a string that is ranged over. -/
theorem run_next_any {P : Program} (w : World) (g : Nat) (s : ByteArray) (pos : Nat) (ty : TypeId) (hg : w.heap[g]? = some (.stringIter s pos)) (h : pos < s.size) :
    (Instr.next (.pointer (some ⟨g, 0, none⟩)) true ty).run P w = .ok (.tuple #[.bool true, .int .i64 pos, .int .i32 (Utf8.decode s pos).1]) { w with heap := w.heap.setIfInBounds g (.stringIter s (pos + (Utf8.decode s pos).2)) } := by
  simp only [Instr.next, getObj, setObj, Sem.run_bind, Sem.run, hg, Result.andThen, h, if_true]
  rfl
theorem run_next_over {P : Program} (w : World) (g : Nat) (s : ByteArray) (pos : Nat) (ty : TypeId) (hg : w.heap[g]? = some (.stringIter s pos)) (h : ¬ pos < s.size) :
    (Instr.next (.pointer (some ⟨g, 0, none⟩)) true ty).run P w = .ok (.tuple #[.bool false]) w := by
  simp only [Instr.next, getObj, Sem.run_bind, Sem.run, hg, Result.andThen, h, if_false]
  rfl

theorem indexByte_absent {l : List UInt8} {c : UInt8} (h : ∀ b ∈ l, b ≠ c) : Lib.indexByte l c = -1 := by
  have h1 := Lib.contains_iff_indexByte l c
  have h2 : l.contains c = false := by
    rw [Bool.eq_false_iff]
    intro h3
    exact h c (by simpa using h3) rfl
  rw [h2] at h1
  have h3 : ¬ (0 : Int) ≤ Lib.indexByte l c := of_decide_eq_false h1.symm
  have h4 : -1 ≤ Lib.indexByte l c := by rw [← Lib.indexAny_one]; exact Lib.indexAny_ge _ _
  omega

def Asc (s : ByteArray) : Prop := ∀ (j : Nat) (b : UInt8), s.data.toList[j]? = some b → b.toNat < 128
theorem Asc.at' {s : ByteArray} (h : Asc s) {j : Nat} (hj : j < s.size) : (s[j]'hj).toNat < 128 := h j _ (Lib.data_getElem? s j hj)
theorem Asc.rest {s : ByteArray} (h : Asc s) (i : Nat) {c : UInt8} (hc : 128 ≤ c.toNat) : Lib.indexByte (s.extract i s.size).data.toList c = -1 := by
  refine indexByte_absent fun b hb e => ?_
  have hb := mem_extract hb
  obtain ⟨j, hj⟩ := List.getElem?_of_mem hb
  have := h j b hj
  rw [e] at this
  omega

theorem iter_step {w wx : World} {s : ByteArray} {i : Nat} (hit : wx.heap[w.heap.size]? = some (.stringIter s i)) (hbl : Below w.heap.size w wx) (j : Nat) :
    ({ wx with heap := wx.heap.setIfInBounds w.heap.size (.stringIter s j) } : World).heap[w.heap.size]? = some (.stringIter s j) ∧ Below w.heap.size w { wx with heap := wx.heap.setIfInBounds w.heap.size (.stringIter s j) } := by
  have hlt : w.heap.size < wx.heap.size := (Array.getElem?_eq_some_iff.1 hit).1
  refine ⟨by simp [hlt], hbl.os, hbl.tape, hbl.output, by simpa using hbl.size, fun b hb => ?_⟩
  rw [← hbl.block b hb]
  exact Array.getElem?_setIfInBounds_ne (by omega)
theorem noAny_high {s chars : ByteArray} (ha : Asc chars) {i n : Nat} (h : Lib.NoAny s.data.toList chars.data.toList i) (hn : ∀ j (hj : j < s.size), i ≤ j → j < i + n → 128 ≤ (s[j]'hj).toNat) : Lib.NoAny s.data.toList chars.data.toList (i + n) := by
  intro j b hj hb
  by_cases hji : j < i
  · exact h j b hji hb
  · have hjs : j < s.size := by
      have := (List.getElem?_eq_some_iff.1 hb).1
      rwa [← Lib.size_eq] at this
    have h1 := hn j hjs (by omega) hj
    have h2 : s[j]'hjs = b := by
      have := Lib.data_getElem? s j hjs
      rw [this] at hb; exact Option.some.inj hb
    rw [h2] at h1
    rw [Bool.eq_false_iff]
    intro h3
    have h3 : b ∈ chars.data.toList := by simpa using h3
    obtain ⟨k, hk⟩ := List.getElem?_of_mem h3
    have := ha k b hk
    omega
theorem below_drewN {B : Nat} {a w : World} {n : Nat} (h : Below B a w) : Below B a (w.drewN n) := ⟨h.os, h.tape, h.output, h.size, h.block⟩

section
variable {P : Program} {ρ : Ren}
set_option maxHeartbeats 4000000 in
set_option maxRecDepth 1000000 in
theorem IndexRune_err (L : Lays.n152 P ρ) (s : ByteArray) (w : World) (hs : Asc s) :
    Calls P (ρ.f 152) #[.string s, .int .i32 65533] w fun e w' => e = .returned (.int .i64 (-1)) ∧ Below w.heap.size w w' := by
  have HA : Aside (Asc s) := hs
  clear hs
  have t3 := L.t3; have a3 := L.a3; have z3 := L.z3; have v3 := L.v3
  have t4 := L.t4; have a4 := L.a4; have z4 := L.z4; have v4 := L.v4
  have t5 := L.t5; have a5 := L.a5; have z5 := L.z5; have v5 := L.v5
  have t9 := L.t9; have a9 := L.a9; have z9 := L.z9; have v9 := L.v9
  have t21 := L.t21; have a21 := L.a21; have z21 := L.z21; have v21 := L.v21
  go_enter L.f152, Body.n152_ntmps ρ
  go_wp2
  go_loopg [5, 6] s.size (fun g _ _ wx => ∃ i : Nat, i + g = s.size ∧ wx = w.iter s i)
  case atStart => exact ⟨0, by omega, rfl⟩
  case round =>
    obtain ⟨i, hig, rfl⟩ := hrel
    cases gk with
    | zero =>
      obtain rfl : i = s.size := by omega
      have hnx := run_next_end (P := P) w s s.size
      go_wp2
      go_ret
      exact ⟨rfl, (Below.refl _ _).alloc (Nat.le_refl _) _⟩
    | succ g =>
      have hi : i < s.size := by omega
      have hx128 := HA.out.at' hi
      have hnx := fun ty => run_next_ascii (P := P) w s i ty hi hx128
      have hne : (((s[i]'hi).toNat : Int) == 65533) = false := beq_eq_false_iff_ne.2 (by omega)
      go_wp2
      go_roundg g
      case measure => omega
      case rel => exact ⟨i + 1, by omega, rfl⟩

set_option maxHeartbeats 8000000 in
set_option maxRecDepth 1000000 in
theorem IndexRune_val (L : Lays.n152 P ρ) (s : ByteArray) (r : Int) (w : World) (hs : Asc s) (hz : s.size < 4611686018427387904) (h1 : 128 ≤ r) (h2 : r ≤ 1114111) (h3 : r ≠ 65533) :
    Calls P (ρ.f 152) #[.string s, .int .i32 r] w fun e w' => e = .returned (.int .i64 (-1)) ∧ Below w.heap.size w w' := by
  have HA : Aside (Asc s) := hs
  clear hs
  have hne : (r == 65533) = false := beq_eq_false_iff_ne.2 h3
  have hlt : decide (r < 128) = false := decide_eq_false (by omega)
  have hle : decide (0 ≤ r) = true := decide_eq_true (by omega)
  have t3 := L.t3; have a3 := L.a3; have z3 := L.z3; have v3 := L.v3
  have t4 := L.t4; have a4 := L.a4; have z4 := L.z4; have v4 := L.v4
  have t5 := L.t5; have a5 := L.a5; have z5 := L.z5; have v5 := L.v5
  have t9 := L.t9; have a9 := L.a9; have z9 := L.z9; have v9 := L.v9
  have t21 := L.t21; have a21 := L.a21; have z21 := L.z21; have v21 := L.v21
  have mixed := L.mixed
  have e119 : ∀ args w, (callFunc (ρ.f 119) args).run P w = .ok (.enter (ρ.f 119) args) w := enters_of L.f119 (by kernel_rfl) rfl
  have e137 : ∀ args w, (callFunc (ρ.f 137) args).run P w = .ok (.enter (ρ.f 137) args) w := enters_of L.f137 (by kernel_rfl) rfl
  by_cases hv : Lib.validRune r = true
  · have hv2 : Utf8.valid r = true := by
      unfold Utf8.valid
      have h := hv
      unfold Lib.validRune at h
      simp at h ⊢
      omega
    obtain ⟨m1, m2, m3⟩ := encode_facts r hv2 h1
    generalize hE : Utf8.encode r = rs at *
    obtain ⟨m, hm⟩ : ∃ m, rs.size = m + 1 := ⟨rs.size - 1, by omega⟩
    have hmr : m < rs.size := by omega
    have m3' : 128 ≤ (rs[m]'hmr).toNat := by
      have h := m3 (by omega)
      have e : rs.size - 1 = m := by omega
      simpa only [e] using h
    clear m3
    have w1 : IntKind.i64.wrap ((rs.size : Int) - 1) = (m : Int) := by rw [wrap_small _ (by omega) (by omega)]; omega
    have hx := HA.out.rest (m + 1) m3'
    have w4 : m < s.size → IntKind.i64.wrap ((m : Int) + 1) = (m : Int) + 1 := fun _ => wrap_small _ (by omega) (by omega)
    clear hm m1 m2
    go_enter L.f152, Body.n152_ntmps ρ
    go_wp2_with (go_at_fn (ρ.f 119); refine (Any.utf8_ValidRune { L with } _ _).mono ?_; rintro e w' ⟨rfl, hw⟩; rw [hw])
    go_step3
    go_wp2
    go_loopg [9] 1 (fun g s9 wx => g = 1 ∧ s9 = .int .i64 (m : Int) ∧ wx = w)
    case atStart => exact ⟨rfl, rfl, rfl⟩
    case round =>
      obtain ⟨rfl, rfl, rfl⟩ := hrel
      by_cases hin : m < s.size
      · have w3 : decide ((m : Int) < (s.size : Int)) = true := decide_eq_true (by omega)
        have hb : (((s[m]'hin).toNat : Int) == ((rs[m]'hmr).toNat : Int)) = false := beq_eq_false_iff_ne.2 (by have := HA.out.at' hin; omega)
        have w4 := w4 hin
        have i3 : (m : Int) + 1 ≤ (s.size : Int) := by omega
        have i4 : ¬ (s.size : Int) < (m : Int) + 1 := by omega
        have i5 : (0 : Int) ≤ (m : Int) + 1 := by omega
        have i6 : ((m : Int) + 1).toNat = m + 1 := by omega
        have i7 : ¬ (s.size : Int) < (m : Int) := by omega
        go_wp2_with fail
        go_step3
        go_wp2_with fail
        go_quiet_o (fail)
        go_wp2_with fail
        have hc : ∀ W, Calls P (ρ.f 137) #[.string (s.extract (m + 1) s.size), .int .u8 ((rs[m]'hmr).toNat : Int)] W fun e w' => e = .returned (.int .i64 (-1)) ∧ w' = W := fun W => by
          have h := Any.strings_IndexByte (P := P) (ρ := ρ) { L with } (s.extract (m + 1) s.size) ((rs[m]'hmr).toNat : Int) W
          rwa [show (((rs[m]'hmr).toNat : Int)).toNat.toUInt8 = rs[m]'hmr from by simp, hx] at h
        go_quiet_o (exact (hc _).mono fun _ _ h => ⟨h.1, _, h.2⟩)
        go_wp2_with fail
        simp only [Exit.noGoto, Exit.inBlock, Exit.then]
        go_ret
        exact ⟨rfl, below_drewN (Below.refl _ _)⟩
      · have w3 : decide ((m : Int) < (s.size : Int)) = false := decide_eq_false (by omega)
        go_wp2
        rw [Exit.noGoto_ret]
        go_ret
        exact ⟨rfl, Below.refl _ _⟩
  · have hv' : Lib.validRune r = false := Bool.eq_false_iff.2 hv
    go_enter L.f152, Body.n152_ntmps ρ
    go_wp2_with (go_at_fn (ρ.f 119); refine (Any.utf8_ValidRune { L with } _ _).mono ?_; rintro e w' ⟨rfl, rfl⟩)
    go_ret
    exact ⟨rfl, Below.refl _ _⟩

theorem IndexRune_high (L : Lays.n152 P ρ) (s : ByteArray) (r : Int) (w : World) (hs : Asc s) (hz : s.size < 4611686018427387904) (h1 : 128 ≤ r) (h2 : r ≤ 1114111) :
    Calls P (ρ.f 152) #[.string s, .int .i32 r] w fun e w' => e = .returned (.int .i64 (-1)) ∧ Below w.heap.size w w' := by
  by_cases h3 : r = 65533
  · subst h3; exact IndexRune_err L s w hs
  · exact IndexRune_val L s r w hs hz h1 h2 h3

set_option maxHeartbeats 8000000 in
set_option maxRecDepth 1000000 in
/-- A string of at most eight bytes, whatever they are. -/
theorem IndexAny_short (L : Lays.n153 P ρ) (s chars : ByteArray) (w : World) (h2 : 2 ≤ chars.size) (h8 : s.size ≤ 8) (hz : chars.size < 4611686018427387904) (hascii : Asc chars) :
    Calls P (ρ.f 153) #[.string s, .string chars] w fun e w' => e = .returned (.int .i64 (Lib.indexAny s.data.toList chars.data.toList)) ∧ Below w.heap.size w w' := by
  have HA : Aside (Asc chars) := hascii
  clear hascii
  have hemp : chars.toList.isEmpty = false := by
    rw [Lib.toList_data]
    cases h : chars.data.toList with
    | nil => have := Lib.size_eq chars; rw [h, List.length_nil] at this; omega
    | cons _ _ => rfl
  have hn1 : ((chars.size : Int) == 1) = false := beq_eq_false_iff_ne.2 (by omega)
  have h8z : decide ((8 : Int) < (s.size : Int)) = false := decide_eq_false (by omega)
  have t3 := L.t3; have a3 := L.a3; have z3 := L.z3; have v3 := L.v3
  have t4 := L.t4; have a4 := L.a4; have z4 := L.z4; have v4 := L.v4
  have t5 := L.t5; have a5 := L.a5; have z5 := L.z5; have v5 := L.v5
  have t9 := L.t9; have a9 := L.a9; have z9 := L.z9; have v9 := L.v9
  have t21 := L.t21; have a21 := L.a21; have z21 := L.z21; have v21 := L.v21
  have e152 : ∀ args w, (callFunc (ρ.f 152) args).run P w = .ok (.enter (ρ.f 152) args) w := enters_of L.f152 (by kernel_rfl) rfl
  have e226 : ∀ args w, (callFunc (ρ.f 226) args).run P w = .ok (.enter (ρ.f 226) args) w := enters_of L.f226 (by kernel_rfl) rfl
  go_enter L.f153, Body.n153_ntmps ρ
  go_wp2_with (go_at_fn (ρ.f 226); refine (Any.strings_shouldUseASCIISet { L with } _ _).mono ?_; rintro e w' ⟨rfl, hw⟩; rw [hw, h8z])
  go_loopg [9, 10] s.size (fun g _ _ wx => ∃ i : Nat, i ≤ s.size ∧ s.size - i ≤ g ∧ wx.heap[w.heap.size]? = some (.stringIter s i) ∧ Below w.heap.size w wx ∧ Lib.NoAny s.data.toList chars.data.toList i)
  case atStart => exact ⟨0, by omega, by omega, by rw [World.iter_heap], (Below.refl _ _).alloc (Nat.le_refl _) _, Lib.NoAny.zero _ _⟩
  case round =>
    obtain ⟨i, his, hig, hit, hbl, hno⟩ := hrel
    have HN : Aside (Lib.NoAny s.data.toList chars.data.toList i) := hno
    clear hno
    by_cases hi : i < s.size
    · obtain ⟨g, rfl⟩ : ∃ g, gk = g + 1 := ⟨gk - 1, by omega⟩
      by_cases hx128 : (s[i]'hi).toNat < 128
      · obtain ⟨x, hx⟩ : ∃ x : UInt8, s[i]'hi = x := ⟨_, rfl⟩
        have hnx := fun ty => run_next_any (P := P) wr w.heap.size s i ty hit hi
        obtain ⟨k1, k2⟩ := iter_step hit hbl (i + 1)
        rw [decode_ascii s i hi hx128] at hnx
        simp only [hx] at hnx hx128
        have hxl : s.data.toList[i]? = some x := by rw [← hx]; exact Lib.data_getElem? s i hi
        generalize hW : ({ wr with heap := wr.heap.setIfInBounds w.heap.size (.stringIter s (i + 1)) } : World) = W1 at *
        have Hx : Aside (s.data.toList[i]? = some x) := hxl
        clear hxl hx hW
        have hcon := Lib.contains_iff_indexByte chars.data.toList x
        have hback : ((x.toNat : Int)).toNat.toUInt8 = x := by simp
        cases hin : chars.data.toList.contains x
        · rw [hin] at hcon
          have hlt : ¬ ((0 : Int) ≤ Lib.indexByte chars.data.toList x) := of_decide_eq_false hcon.symm
          clear hcon
          go_wp2_with (go_at_fn (ρ.f 152); refine (Any.strings_IndexRune_ascii { L with } _ _ _ (by omega) (by omega)).mono ?_; rintro e w' ⟨rfl, hw⟩; rw [hw, hback])
          go_roundg g
          case measure => omega
          case rel => exact ⟨i + 1, by omega, by omega, k1, k2, HN.out.succ Hx.out hin⟩
        · rw [hin] at hcon
          have hge : (0 : Int) ≤ Lib.indexByte chars.data.toList x := of_decide_eq_true hcon.symm
          clear hcon
          go_wp2_with (go_at_fn (ρ.f 152); refine (Any.strings_IndexRune_ascii { L with } _ _ _ (by omega) (by omega)).mono ?_; rintro e w' ⟨rfl, hw⟩; rw [hw, hback])
          go_ret
          exact ⟨by rw [Lib.indexAny_hit HN.out Hx.out hin]; rfl, k2⟩
      · obtain ⟨d1, d2, d3, d4, d5⟩ := decode_high s i hi (by omega)
        have hnx := fun ty => run_next_any (P := P) wr w.heap.size s i ty hit hi
        obtain ⟨k1, k2⟩ := iter_step hit hbl (i + (Utf8.decode s i).2)
        generalize hW : ({ wr with heap := wr.heap.setIfInBounds w.heap.size (.stringIter s (i + (Utf8.decode s i).2)) } : World) = W1 at *
        have H5 : Aside (Lib.NoAny s.data.toList chars.data.toList (i + (Utf8.decode s i).2)) := noAny_high HA.out HN.out d5
        clear d5 hW
        generalize (Utf8.decode s i).2 = wd at *
        generalize hcc : (((Utf8.decode s i).1 : Nat) : Int) = cc at *
        have hc1 : 128 ≤ cc := by omega
        have hc2 : cc ≤ 1114111 := by omega
        clear hcc d1 d2
        have hneg : ¬ (0 : Int) ≤ -1 := by decide
        go_wp2_with (go_at_fn (ρ.f 152); refine (IndexRune_high { L with } chars cc W1 HA.out hz hc1 hc2).mono ?_; rintro e w' ⟨rfl, hw⟩)
        go_roundg g
        case measure => omega
        case rel => exact ⟨i + wd, by omega, by omega, by rw [hw.block _ (Array.getElem?_eq_some_iff.1 k1).1]; exact k1, k2.trans (hw.mono k2.size), H5.out⟩
    · obtain rfl : i = s.size := by omega
      have hnx := fun ty => run_next_over (P := P) _ _ s s.size ty hit (by omega)
      go_wp2
      go_ret
      exact ⟨by rw [Lib.indexAny_none (by rw [← Lib.size_eq]; exact HN.out)]; rfl, hbl⟩

/-- strings.IndexAny of any string, at ASCII letters. -/
theorem IndexAny_all (L : Lays.n153 P ρ) (h116 : (P.info? (ρ.t 116)).map (fun i => (i.zero, i.size)) = some (some (.agg (Array.replicate 256 (.bool false))), 256)) (s chars : ByteArray) (w : World) (hs : s.size < 4294967281) (hcs : chars.size < 4294967281) (hac : Asc chars) :
    Calls P (ρ.f 153) #[.string s, .string chars] w fun e w' => e = .returned (.int .i64 (Lib.indexAny s.data.toList chars.data.toList)) ∧ Below w.heap.size w w' := by
  by_cases h0 : chars.size = 0
  · exact (Any.strings_IndexAny_none L s chars w h0).mono fun e w' ⟨h1, h2⟩ => ⟨h1, h2 ▸ Below.refl _ _⟩
  by_cases h1 : chars.size = 1
  · exact (Any.strings_IndexAny_one L s chars w h1 hac).mono fun e w' ⟨h1, h2⟩ => ⟨h1, h2 ▸ Below.refl _ _⟩
  by_cases h8 : s.size ≤ 8
  · exact IndexAny_short L s chars w (by omega) h8 (by omega) hac
  · refine (Any.strings_IndexAny_long L (zero_of_info h116).1 (zero_of_info h116).2 s chars w (by omega) (by omega) hs hcs hac).mono fun e w' ⟨h1, h2⟩ => ⟨h1, ?_⟩
    rw [h2]
    exact ((Below.refl _ _).alloc (Nat.le_refl _) _).alloc (by simp) _
end
end Go.Proofs.YtidmphcocnaonaaGreatDoor

/- Sets of bytes, cuts and splits of strings. -/
namespace Go.Proofs.YtidmphcocnaonaaGreatDoor
open Go.RowKit
set_option linter.unusedVariables false
set_option linter.unusedSimpArgs false
set_option linter.defProp false

/- paperchase/chaseref1.made -/
def ir_chaseref1_made : IC :=
  (.seq (.reg [⟨some 4, .mov (.c (.bool false)), none⟩])
    (.seq (.reg [⟨some 5, .mov (.t 0), none⟩,
      ⟨some 6, .mov (.t 1), none⟩,
      ⟨some 7, .call 55 [.t 5, .t 6], none⟩,
      ⟨some 8, .bin .eql (.t 7) (.c (.str [])), none⟩,
      ⟨some 4, .mov (.t 8), none⟩])
    .ret))
def rs_chaseref1_made : List IRes := [.t 4]
theorem ck_chaseref1_made : chkF Tryz.prog Tryz.f116 ir_chaseref1_made rs_chaseref1_made 9 = true := by kernel_rfl


def madeF (s of : List UInt8) : Bool := decide (Lib.trimS s of = [])
theorem dropW_nil {p : UInt8 → Bool} : ∀ {l : List UInt8}, l.dropWhile p = [] ↔ l.all p = true
  | [] => by simp
  | x :: r => by
    simp only [List.dropWhile, List.all_cons]
    cases h : p x
    · simp
    · simpa using dropW_nil (l := r)
theorem madeF_all (s of : List UInt8) : madeF s of = s.all (fun c => of.contains c) := by
  rw [Bool.eq_iff_iff, madeF, decide_eq_true_iff, Lib.trimS, Lib.trimLeftS, Lib.trimRightS, dropW_nil]
  constructor
  · intro h
    have h2 : ∀ l : List UInt8, (l.dropWhile fun c => of.contains c).all (fun c => of.contains c) = true → l.all (fun c => of.contains c) = true := by
      intro l
      induction l with
      | nil => simp
      | cons x r ih =>
        simp only [List.dropWhile]
        cases hx : of.contains x
        · intro h; exact h
        · intro h; simp only [List.all_cons, hx, Bool.true_and]; exact ih h
    have := h2 s.reverse (by simpa [List.all_reverse] using h)
    simpa [List.all_reverse] using this
  · intro h
    have : (s.reverse.dropWhile fun c => of.contains c) = [] := dropW_nil.2 (by simpa [List.all_reverse] using h)
    rw [this]
    simp
section
variable {E : Envt}
def asc (l : List UInt8) : Bool := l.all fun b => decide (b.toNat < 128)
theorem asc_at {l : List UInt8} (h : asc l = true) : ∀ (j : Nat) b, (⟨l.toArray⟩ : ByteArray).data.toList[j]? = some b → b.toNat < 128 :=
  fun _ b hb => of_decide_eq_true (List.all_eq_true.1 h b (List.mem_of_getElem? (by simpa using hb)))
theorem IndexAny_ok (s cs : List UInt8) (hs : s.length ≤ 1000000000) (hcs : cs.length ≤ 1000000) (h2 : asc cs = true) : PCall Tryz.prog E 329 [.str s, .str cs] (· = int (Lib.indexAny s cs)) :=
  pcall_flat rfl rfl fun w _ => (IndexAny_all Tryz.layIndexAny (by kernel_rfl) ⟨s.toArray⟩ ⟨cs.toArray⟩ w (by rw [ba_size]; omega) (by rw [ba_size]; omega) (asc_at h2)).mono fun e w' h => ⟨h.1, grow_below h.2⟩
theorem TrimSet_ok (s cs : List UInt8) (hs : s.length ≤ 1000000000) (hcs : cs.length ≤ 1000000) (h2 : asc cs = true) : PCall Tryz.prog E 55 [.str s, .str cs] (· = .str (Lib.trimS s cs)) :=
  pcall_flat rfl rfl fun w _ => (Any.strings_Trim_laid Tryz.layTrim (by kernel_rfl) ⟨s.toArray⟩ ⟨cs.toArray⟩ w (by rw [ba_size]; omega) (by rw [ba_size]; omega) (asc_at h2)).mono fun e w' h => ⟨h.1, grow_below h.2⟩
theorem made_ok (s of : List UInt8) (hs : s.length ≤ 1000000000) (ho : of.length ≤ 1000) (ha : asc of = true) : PCall Tryz.prog E 116 [.str s, .str of] (· = .bool (madeF s of)) := by
  refine pcallF mixed Tryz.func116 ck_chaseref1_made ?_
  simp only [a0, l0, OS.ao, List.map_cons, List.map_nil, List.length_cons, List.length_nil, List.cons_append, List.nil_append, Nat.reduceSub, Nat.reduceAdd, List.replicate_succ, List.replicate_zero, ir_chaseref1_made, rs_chaseref1_made, ZZ, YY, Ze, ite_true, ite_false, forall_const, reduceCtorEq, Nat.reduceAdd, Nat.reduceMul, Nat.reduceLeDiff, Nat.reduceLT, Nat.reduceEqDiff]
  refine use1 (TrimSet_ok s of hs (by omega) ha) rfl (.inl rfl) ?_
  simp only [ZZ, YY, Ze, ite_true, ite_false, forall_const, reduceCtorEq, Nat.reduceAdd, Nat.reduceMul, Nat.reduceLeDiff, Nat.reduceLT, Nat.reduceEqDiff]
  rfl

/-- Cuts. -/
def cutF (s p : List UInt8) : List UInt8 × List UInt8 × Bool := if 0 ≤ Lib.index s p then (s.take (Lib.index s p).toNat, s.drop ((Lib.index s p).toNat + p.length), true) else (s, [], false)
end
theorem Cut_ok (s p : List UInt8) (hs : s.length ≤ 1000000000) : PCall Tryz.prog E0 115 [.str s, .str p] (· = .tup [.str (cutF s p).1, .str (cutF s p).2.1, .bool (cutF s p).2.2]) := by
  intro w U vs hU hE hEb hA
  obtain ⟨_, m, hm⟩ := hE
  simp only [PRepL, PRep] at hA
  obtain ⟨v, r, rfl, rfl, v2, r2, rfl, rfl, rfl⟩ := hA
  refine (Any.strings_Cut Tryz.layCut ⟨s.toArray⟩ ⟨p.toArray⟩ m w (by rw [ba_size]; omega) hm).mono ?_
  rintro e w' ⟨rfl, n, rfl⟩
  exact ⟨_, _, rfl, rfl, ⟨[_, _, _], rfl, _, _, rfl, rfl, _, _, rfl, rfl, _, _, rfl, rfl, rfl⟩, ⟨rfl, rfl, rfl, Nat.le_refl _, fun _ _ _ => rfl⟩⟩
theorem cutF_len (s p : List UInt8) : (cutF s p).1.length ≤ s.length ∧ (cutF s p).2.1.length ≤ s.length := by
  unfold cutF
  split
  · exact ⟨by simp; omega, by simp⟩
  · simp
end Go.Proofs.YtidmphcocnaonaaGreatDoor

/- Numerals and sets of bytes: the library's contracts, and the plain functions of numbers. -/
namespace Go.Proofs.YtidmphcocnaonaaGreatDoor
open Go.RowKit
set_option linter.unusedVariables false
set_option linter.unusedSimpArgs false
set_option linter.defProp false

/-- Numbers, plain. it: how a number is written. -/
def figL : List UInt8 := [48, 49, 50, 51, 52, 53, 54, 55, 56, 57]
def foldD (l : List UInt8) : Nat := l.foldl (fun n c => 10 * n + (c.toNat - 48)) 0
/-- Digits by recursion on a bound: for the kernel. -/
def dd : Nat → Nat → List UInt8
  | 0, _ => []
  | f + 1, u => if u < 10 then [UInt8.ofNat (48 + u)] else dd f (u / 10) ++ [UInt8.ofNat (48 + u % 10)]
theorem dd_eq : ∀ (f u : Nat), u < 10 ^ f → 0 < f → Lib.decDigits u = dd f u
  | 0, u, _, h => absurd h (by decide)
  | f + 1, u, h, _ => by
    rw [Lib.decDigits, dd]
    by_cases hu : u < 10
    · rw [dif_pos hu, if_pos hu]
    · rw [dif_neg hu, if_neg hu]
      have hf : 0 < f := by
        rcases Nat.eq_zero_or_pos f with rfl | h'
        · simp at h; omega
        · exact h'
      rw [dd_eq f (u / 10) (by rw [Nat.pow_succ] at h; omega) hf]
def itD (n : Int) : List UInt8 := if n < 0 then 45 :: dd 12 n.natAbs else dd 12 n.toNat
theorem itD_eq {n : Int} (h0 : -100000000000 ≤ n) (h1 : n ≤ 100000000000) : Lib.itoa n = itD n := by
  unfold Lib.itoa itD
  split
  · rw [dd_eq 12 _ (by omega) (by decide)]
  · rw [dd_eq 12 _ (by omega) (by decide)]
end Go.Proofs.YtidmphcocnaonaaGreatDoor

/- What dates need of the library: fields, numerals, names. -/
namespace Go.Proofs.YtidmphcocnaonaaGreatDoor
open Go.RowKit
set_option linter.unusedVariables false
set_option linter.unusedSimpArgs false
set_option linter.defProp false

/- paperchase/thread.name3 -/
def ir_thread_name3_L0 : IC :=
  (.seq (.seq (.reg [⟨some 7, .mov (.t 6), none⟩,
      ⟨some 8, .mov (.t 1), none⟩,
      ⟨some 9, .sln (.t 8), none⟩,
      ⟨some 10, .bin .lss (.t 7) (.t 9), none⟩])
    (.cond (.t 10) .skip (.exit 0)))
    (.seq (.block 1 (.seq (.reg [⟨some 13, .mov (.t 1), none⟩,
      ⟨some 14, .mov (.t 6), none⟩,
      ⟨some 15, .mov (.t 6), none⟩,
      ⟨some 16, .bin .add (.t 15) (.c (.int .i64 3)), none⟩,
      ⟨some 17, .ssl (.t 13) (some (.t 14)) (some (.t 16)), none⟩,
      ⟨some 18, .mov (.t 0), none⟩,
      ⟨some 19, .bin .eql (.t 17) (.t 18), none⟩])
    (.cond (.t 19) (.seq (.reg [⟨some 20, .mov (.t 6), none⟩,
      ⟨some 21, .bin .quo (.t 20) (.c (.int .i64 3)), none⟩,
      ⟨some 4, .mov (.t 21), none⟩,
      ⟨some 5, .mov (.c (.bool true)), none⟩])
    .ret) .skip)))
    (.reg [⟨some 11, .mov (.t 6), none⟩,
      ⟨some 12, .bin .add (.t 11) (.c (.int .i64 3)), none⟩,
      ⟨some 6, .mov (.t 12), none⟩])))
def ir_thread_name3 : IC :=
  (.seq (.reg [⟨some 4, .mov (.c (.int .i64 0)), none⟩,
      ⟨some 5, .mov (.c (.bool false)), none⟩])
    (.seq (.seq (.reg [⟨some 6, .mov (.c (.int .i64 0)), none⟩])
    (.block 0 (.loop ir_thread_name3_L0)))
    (.seq (.reg [⟨some 4, .mov (.c (.int .i64 0)), none⟩,
      ⟨some 5, .mov (.c (.bool false)), none⟩])
    .ret)))
def rs_thread_name3 : List IRes := [.t 4, .t 5]
theorem ck_thread_name3 : chkF Tryz.prog Tryz.f170 ir_thread_name3 rs_thread_name3 22 = true := by kernel_rfl
/- paperchase/thread.fixed -/
def ir_thread_fixed_L0 : IC :=
  (.seq (.reg [⟨some 16, .bin .lss (.t 15) (.t 14), none⟩])
    (.seq (.cond (.t 16) .skip (.exit 0))
    (.seq (.block 1 (.seq (.reg [⟨some 17, .mov (.t 15), none⟩,
      ⟨some 9, .mov (.t 17), none⟩])
    (.seq (.seq (.reg [⟨some 18, .mov (.t 0), none⟩,
      ⟨some 19, .mov (.t 9), none⟩,
      ⟨some 20, .idx (.t 18) (.t 19), none⟩,
      ⟨some 21, .call 240 [.t 20], none⟩,
      ⟨some 22, .not (.t 21), none⟩])
    (.cond (.t 22) (.seq (.reg [⟨some 6, .mov (.c (.int .i64 0)), none⟩,
      ⟨some 7, .mov (.c (.bool false)), none⟩])
    .ret) .skip))
    (.reg [⟨some 23, .mov (.t 8), none⟩,
      ⟨some 24, .bin .mul (.c (.int .i64 10)) (.t 23), none⟩,
      ⟨some 25, .mov (.t 0), none⟩,
      ⟨some 26, .mov (.t 9), none⟩,
      ⟨some 27, .idx (.t 25) (.t 26), none⟩,
      ⟨some 28, .bin .sub (.t 27) (.c (.int .u8 48)), none⟩,
      ⟨some 29, .cvi .i64 (.t 28), none⟩,
      ⟨some 30, .bin .add (.t 24) (.t 29), none⟩,
      ⟨some 8, .mov (.t 30), none⟩]))))
    (.reg [⟨some 31, .bin .add (.t 15) (.c (.int .i64 1)), none⟩,
      ⟨some 15, .mov (.t 31), none⟩]))))
def ir_thread_fixed : IC :=
  (.seq (.reg [⟨some 6, .mov (.c (.int .i64 0)), none⟩,
      ⟨some 7, .mov (.c (.bool false)), none⟩])
    (.seq (.seq (.reg [⟨some 10, .mov (.t 0), none⟩,
      ⟨some 11, .sln (.t 10), none⟩,
      ⟨some 12, .mov (.t 1), none⟩,
      ⟨some 13, .bin .neq (.t 11) (.t 12), none⟩])
    (.cond (.t 13) (.seq (.reg [⟨some 6, .mov (.c (.int .i64 0)), none⟩,
      ⟨some 7, .mov (.c (.bool false)), none⟩])
    .ret) .skip))
    (.seq (.reg [⟨some 8, .mov (.c (.int .i64 0)), none⟩])
    (.seq (.seq (.reg [⟨some 14, .mov (.t 1), none⟩,
      ⟨some 15, .mov (.c (.int .i64 0)), none⟩])
    (.block 0 (.loop ir_thread_fixed_L0)))
    (.seq (.reg [⟨some 32, .mov (.t 8), none⟩,
      ⟨some 33, .mov (.t 8), none⟩,
      ⟨some 34, .mov (.t 2), none⟩,
      ⟨some 35, .bin .leq (.t 33) (.t 34), none⟩,
      ⟨some 6, .mov (.t 32), none⟩,
      ⟨some 7, .mov (.t 35), none⟩])
    .ret)))))
def rs_thread_fixed : List IRes := [.t 6, .t 7]
theorem ck_thread_fixed : chkF Tryz.prog Tryz.f172 ir_thread_fixed rs_thread_fixed 36 = true := by kernel_rfl
/- paperchase/chaseref1.dayNames -/
def ir_chaseref1_dayNames : IC :=
  (.seq (.reg [⟨some 0, .mov (.c (.nl 1)), none⟩])
    (.seq (.reg [⟨some 1, .call 176 [.c (.str [77, 111, 110, 32, 84, 117, 101, 32, 87, 101, 100, 32, 84, 104, 117, 32, 70, 114, 105, 32, 83, 97, 116, 32, 83, 117, 110])], none⟩,
      ⟨some 0, .mov (.t 1), none⟩])
    .ret))
def rs_chaseref1_dayNames : List IRes := [.t 0]
theorem ck_chaseref1_dayNames : chkF Tryz.prog Tryz.f95 ir_chaseref1_dayNames rs_chaseref1_dayNames 2 = true := by kernel_rfl
/- paperchase/chaseref1.monthNames -/
def ir_chaseref1_monthNames : IC :=
  (.seq (.reg [⟨some 0, .mov (.c (.nl 1)), none⟩])
    (.seq (.reg [⟨some 1, .call 176 [.c (.str [74, 97, 110, 32, 70, 101, 98, 32, 77, 97, 114, 32, 65, 112, 114, 32, 77, 97, 121, 32, 74, 117, 110, 32, 74, 117, 108, 32, 65, 117, 103, 32, 83, 101, 112, 32, 79, 99, 116, 32, 78, 111, 118, 32, 68, 101, 99])], none⟩,
      ⟨some 0, .mov (.t 1), none⟩])
    .ret))
def rs_chaseref1_monthNames : List IRes := [.t 0]
theorem ck_chaseref1_monthNames : chkF Tryz.prog Tryz.f97 ir_chaseref1_monthNames rs_chaseref1_monthNames 2 = true := by kernel_rfl
/- paperchase/thread.two -/
def ir_thread_two : IC :=
  (.seq (.reg [⟨some 2, .mov (.c (.str [])), none⟩])
    (.seq (.reg [⟨some 3, .mov (.t 0), none⟩,
      ⟨some 4, .bin .add (.c (.int .i64 100)) (.t 3), none⟩,
      ⟨some 5, .call 105 [.t 4], none⟩,
      ⟨some 6, .ssl (.t 5) (some (.c (.int .i64 1))) none, none⟩,
      ⟨some 2, .mov (.t 6), none⟩])
    .ret))
def rs_thread_two : List IRes := [.t 2]
theorem ck_thread_two : chkF Tryz.prog Tryz.f181 ir_thread_two rs_thread_two 7 = true := by kernel_rfl
/- paperchase/chaseref1.two -/
def ir_chaseref1_two : IC :=
  (.seq (.reg [⟨some 2, .mov (.c (.str [])), none⟩])
    (.seq (.reg [⟨some 3, .mov (.t 0), none⟩,
      ⟨some 4, .bin .quo (.t 3) (.c (.int .i64 10)), none⟩,
      ⟨some 5, .bin .rem (.t 4) (.c (.int .i64 10)), none⟩,
      ⟨some 6, .bin .add (.c (.int .i64 48)) (.t 5), none⟩,
      ⟨some 7, .cvi .u8 (.t 6), none⟩,
      ⟨some 8, .mov (.t 0), none⟩,
      ⟨some 9, .bin .rem (.t 8) (.c (.int .i64 10)), none⟩,
      ⟨some 10, .bin .add (.c (.int .i64 48)) (.t 9), none⟩,
      ⟨some 11, .cvi .u8 (.t 10), none⟩,
      ⟨some 12, .bsl 1 [.t 7, .t 11], none⟩,
      ⟨some 13, .b2s (.t 12), none⟩,
      ⟨some 2, .mov (.t 13), none⟩])
    .ret))
def rs_chaseref1_two : List IRes := [.t 2]
theorem ck_chaseref1_two : chkF Tryz.prog Tryz.f106 ir_chaseref1_two rs_chaseref1_two 14 = true := by kernel_rfl

theorem var_blockV {P : Program} {w w' : World} {n : String} {g : Nat} (hg : P.globalNamed n = some g) (hb : w'.heap[g]? = w.heap[g]?) : w'.var? P n = w.var? P n := by
  simp only [World.var?, hg, Option.bind_some, hb]
/-- E0, and the variables that numerals and fields read. -/
def E5 : Envt where
  ok w := E0.ok w ∧ Lib.TabIs Tryz.prog w "internal/strconv.uint64pow10" .u64 Lib.pow10Tab ∧ (∃ tp p, w.var? Tryz.prog "strconv.ErrSyntax" = some #[.iface tp p]) ∧ (∃ tp p, w.var? Tryz.prog "strconv.ErrRange" = some #[.iface tp p]) ∧ Lib.TabIs Tryz.prog w "strings.asciiSpace" .u8 Lib.asciiSpaceTab
  bl b := E0.bl b ∨ b = 7 ∨ b = 5 ∨ b = 6 ∨ b = 1
  mono w w' hb h := ⟨E0.mono w w' (fun b hbb => hb b (.inl hbb)) h.1, (var_blockV (by kernel_rfl) (hb _ (.inr (.inl rfl)))).trans h.2.1, by rw [var_blockV (by kernel_rfl) (hb _ (.inr (.inr (.inl rfl))))]; exact h.2.2.1, by rw [var_blockV (by kernel_rfl) (hb _ (.inr (.inr (.inr (.inl rfl)))))]; exact h.2.2.2.1, (var_blockV (by kernel_rfl) (hb _ (.inr (.inr (.inr (.inr rfl)))))).trans h.2.2.2.2⟩
theorem up5 {f : FuncId} {args : List PV} {φ : PV → Prop} (h : PCall Tryz.prog E0 f args φ) : PCall Tryz.prog E5 f args φ := fun w U vs hU hE hEb hA => h w U vs hU hE.1 (fun c hc => hEb c (.inl hc)) hA
theorem grow_seqV (w : World) (k : Nat) (os : Array Obj) : Grow w (Sort.grow (w.drewN k) os) (fun _ => False) := ⟨rfl, rfl, rfl, by simp [Sort.grow, World.drewN], fun b hb _ => by simp [Sort.grow, World.drewN, Array.getElem?_append_left hb]⟩
theorem Itoa_ok5 (n : Int) (h0 : -9223372036854775808 ≤ n) (h1 : n ≤ 9223372036854775807) : PCall Tryz.prog E5 105 [int n] (· = .str (Lib.itoa n)) :=
  pcall_flat rfl rfl fun w hE => (Any.strconv_Itoa Tryz.layItoa n h0 h1 w hE.2.1).mono fun e w' h => ⟨h.1, by obtain ⟨k, os, rfl⟩ := h.2; exact grow_seqV w k os⟩
/-- What strconv.Atoi reads, and whether it does without an error. -/
def atB (s : List UInt8) : Bool := match Lib.atoiAll s with | .ok _ => true | _ => false
def atV (s : List UInt8) : Int := match Lib.atoiAll s with | .ok v => v | .range => Lib.atoiSat s | _ => 0
theorem Atoi_ok5 (s : List UInt8) (hs : s.length ≤ 1000000) : PCall Tryz.prog E5 177 [.str s] (fun x => ∃ v, x = .tup [int (atV s), .raw v] ∧ nilI v = some (atB s)) := by
  intro w U vs hU hE hEb hA
  have : vs = [.string ⟨s.toArray⟩] := (PRepL.valD rfl).1 hA
  subst this
  have hsz : (⟨s.toArray⟩ : ByteArray).size ≤ 1000000 := by rw [ba_size]; exact hs
  have hdt : (⟨s.toArray⟩ : ByteArray).data.toList = s := by simp
  unfold atV atB
  cases ha : Lib.atoiAll s with
  | ok n =>
    refine (Any.strconv_Atoi_ok Tryz.layAtoi ⟨s.toArray⟩ (by omega) n (by rw [hdt]; exact ha) w).mono ?_
    rintro e w' ⟨rfl, hw⟩
    refine ⟨_, _, rfl, ⟨.nilIface, rfl, rfl⟩, ⟨[_, _], rfl, _, _, rfl, rfl, _, _, rfl, ⟨rfl, rfl⟩, rfl⟩, ?_⟩
    rcases hw with rfl | ⟨t, rfl⟩
    · exact Grow.refl _ _
    · exact grow_below (Lib.bytesWorld_below _ _ _)
  | range =>
    obtain ⟨tp, p, hv⟩ := hE.2.2.2.1
    refine (Any.strconv_Atoi_range_var Tryz.layAtoi ⟨s.toArray⟩ (by omega) (by rw [hdt]; exact ha) tp p w hv).mono ?_
    rintro e w' ⟨N, rfl, _, _, hb⟩
    rw [hdt]
    exact ⟨_, _, rfl, ⟨.iface _ _, rfl, rfl⟩, ⟨[_, _], rfl, _, _, rfl, rfl, _, _, rfl, ⟨rfl, rfl⟩, rfl⟩, grow_below hb⟩
  | _ =>
    obtain ⟨tp, p, hv⟩ := hE.2.2.1
    refine (Any.strconv_Atoi_syntax_var Tryz.layAtoi ⟨s.toArray⟩ (by omega) (by rw [hdt]; exact ha) tp p w hv).mono ?_
    rintro e w' ⟨N, rfl, _, _, hb⟩
    exact ⟨_, _, rfl, ⟨.iface _ _, rfl, rfl⟩, ⟨[_, _], rfl, _, _, rfl, rfl, _, _, rfl, ⟨rfl, rfl⟩, rfl⟩, grow_below hb⟩
theorem repE_fld {w : World} {U : Nat → Prop} {b : Nat} : ∀ (l : List (List UInt8)) (off : Nat), (∀ i x, l[i]? = some x → w.cell? ⟨b, off + i, none⟩ = some (.string ⟨x.toArray⟩)) → PRepE w U b 1 off (strE l)
  | [], off, h => trivial
  | x :: r, off, h => by
    refine ⟨rfl, ⟨⟨.string ⟨x.toArray⟩, by simpa using h 0 _ rfl, rfl, rfl⟩, trivial⟩, repE_fld r (off + 1) fun i u hu => ?_⟩
    have := h (i + 1) u (by simpa using hu)
    rwa [show off + (i + 1) = off + 1 + i from by omega] at this
theorem Fields_ok (s : List UInt8) (hs : s.length ≤ 1000000) (ha : s.all (fun b => decide (b.toNat < 128)) = true) : PCall Tryz.prog E5 176 [.str s] (· = .sl 1 (strE (Lib.fields s))) := by
  intro w U vs hU hE hEb hA
  have : vs = [.string ⟨s.toArray⟩] := (PRepL.valD rfl).1 hA
  subst this
  have hdt : (⟨s.toArray⟩ : ByteArray).data.toList = s := by simp
  refine (Any.strings_Fields_laid Tryz.layFields ⟨s.toArray⟩ w (by rw [ba_size]; omega) (fun j b hb => of_decide_eq_true (List.all_eq_true.1 ha b (List.mem_of_getElem? (by simpa using hb)))) hE.2.2.2.2).mono ?_
  rw [hdt]
  rintro e w' ⟨rfl, rfl⟩
  refine ⟨_, _, rfl, rfl, ?_, ⟨rfl, rfl, rfl, by simp, fun k hk _ => Lib.alloc_old w _ k hk⟩⟩
  refine ⟨some ⟨w.heap.size, 0, none⟩, (Lib.fields s).length, by rw [strE_len], by rw [strE_len]; exact Nat.le_refl _, fun _ => ⟨w.heap.size, 0, rfl, by simp, fun h => by have := hU _ h; omega, ?_⟩⟩
  refine repE_fld _ 0 fun i x hx => ?_
  rw [Lib.cell_of_heap (heap_alloc_new w _)]
  simp [hx]
/-- Names of days and of months. -/
def dayL : List (List UInt8) := [[77, 111, 110], [84, 117, 101], [87, 101, 100], [84, 104, 117], [70, 114, 105], [83, 97, 116], [83, 117, 110]]
def monL : List (List UInt8) := [[74, 97, 110], [70, 101, 98], [77, 97, 114], [65, 112, 114], [77, 97, 121], [74, 117, 110], [74, 117, 108], [65, 117, 103], [83, 101, 112], [79, 99, 116], [78, 111, 118], [68, 101, 99]]
theorem day_fields : Lib.fields [77, 111, 110, 32, 84, 117, 101, 32, 87, 101, 100, 32, 84, 104, 117, 32, 70, 114, 105, 32, 83, 97, 116, 32, 83, 117, 110] = dayL := by decide +kernel
theorem mon_fields : Lib.fields [74, 97, 110, 32, 70, 101, 98, 32, 77, 97, 114, 32, 65, 112, 114, 32, 77, 97, 121, 32, 74, 117, 110, 32, 74, 117, 108, 32, 65, 117, 103, 32, 83, 101, 112, 32, 79, 99, 116, 32, 78, 111, 118, 32, 68, 101, 99] = monL := by decide +kernel
theorem dayNames_ok : PCall Tryz.prog E5 95 [] (· = .sl 1 (strE dayL)) := by
  refine pcallF mixed Tryz.func95 ck_chaseref1_dayNames ?_
  simp only [a0, l0, OS.ao, List.map_cons, List.map_nil, List.length_cons, List.length_nil, List.cons_append, List.nil_append, Nat.reduceSub, Nat.reduceAdd, List.replicate_succ, List.replicate_zero, ir_chaseref1_dayNames, rs_chaseref1_dayNames, ZZ, YY, Ze, ite_true, ite_false, forall_const, reduceCtorEq, Nat.reduceAdd, Nat.reduceMul, Nat.reduceLeDiff, Nat.reduceLT, Nat.reduceEqDiff]
  refine use1 (Fields_ok _ (by decide) (by decide)) rfl (.inl rfl) ?_
  rw [day_fields]
  simp only [ZZ, YY, Ze, ite_true, ite_false, forall_const, reduceCtorEq, Nat.reduceAdd, Nat.reduceMul, Nat.reduceLeDiff, Nat.reduceLT, Nat.reduceEqDiff]
theorem monthNames_ok : PCall Tryz.prog E5 97 [] (· = .sl 1 (strE monL)) := by
  refine pcallF mixed Tryz.func97 ck_chaseref1_monthNames ?_
  simp only [a0, l0, OS.ao, List.map_cons, List.map_nil, List.length_cons, List.length_nil, List.cons_append, List.nil_append, Nat.reduceSub, Nat.reduceAdd, List.replicate_succ, List.replicate_zero, ir_chaseref1_monthNames, rs_chaseref1_monthNames, ZZ, YY, Ze, ite_true, ite_false, forall_const, reduceCtorEq, Nat.reduceAdd, Nat.reduceMul, Nat.reduceLeDiff, Nat.reduceLT, Nat.reduceEqDiff]
  refine use1 (Fields_ok _ (by decide) (by decide)) rfl (.inl rfl) ?_
  rw [mon_fields]
  simp only [ZZ, YY, Ze, ite_true, ite_false, forall_const, reduceCtorEq, Nat.reduceAdd, Nat.reduceMul, Nat.reduceLeDiff, Nat.reduceLT, Nat.reduceEqDiff]
section
variable {E : Envt}
theorem name3_ok (s nm : List UInt8) (ns : List (List UInt8)) (hn : nm.length = 3 * ns.length) (hl : ns.length ≤ 1000) (hs : s.length ≤ 1000000) (hp : ∀ k x, ns[k]? = some x → (nm.take (3 * k + 3)).drop (3 * k) = x) :
    PCall Tryz.prog E 170 [.str s, .str nm] (· = if 0 ≤ idxS ns s 0 then .tup [int (idxS ns s 0), .bool true] else .tup [int 0, .bool false]) := by
  refine pcallF mixed Tryz.func170 ck_thread_name3 ?_
  simp only [a0, l0, OS.ao, List.map_cons, List.map_nil, List.length_cons, List.length_nil, List.cons_append, List.nil_append, Nat.reduceSub, Nat.reduceAdd, List.replicate_succ, List.replicate_zero, ir_thread_name3, rs_thread_name3, ZZ, YY, Ze, ite_true, ite_false, forall_const, reduceCtorEq, Nat.reduceAdd, Nat.reduceMul, Nat.reduceLeDiff, Nat.reduceLT, Nat.reduceEqDiff]
  refine loop_intro (fun n fr L => ∃ (k : Nat), ns.length - k = n ∧ (k ≤ ns.length) ∧ (idxS ns s 0 = idxS ns s k) ∧ fr = [.p (.str s), .p (.str nm), .any, .any, .any, .any, .p (int ((3 * k : Nat))), .any, .any, .any, .any, .any, .any, .any, .any, .any, .any, .any, .any, .any, .any, .any] ∧ L = []) (ns.length - 0) [.p (.str s), .p (.str nm), .any, .any, .any, .any, .p (int ((3 * 0 : Nat))), .any, .any, .any, .any, .any, .any, .any, .any, .any, .any, .any, .any, .any, .any, .any] [] (by (simp only [ZZ, YY, Ze, ite_true, ite_false, forall_const, reduceCtorEq, Nat.reduceAdd, Nat.reduceMul, Nat.reduceLeDiff, Nat.reduceLT, Nat.reduceEqDiff]; try trivial)) (by (simp only [ZZ, YY, Ze, ite_true, ite_false, forall_const, reduceCtorEq, Nat.reduceAdd, Nat.reduceMul, Nat.reduceLeDiff, Nat.reduceLT, Nat.reduceEqDiff]; try trivial)) ⟨0, rfl, Nat.zero_le _, rfl, rfl, rfl⟩ ?_
  rintro n fr L ⟨k, rfl, hk, hf, rfl, rfl⟩
  simp only [ir_thread_name3_L0, ZZ, YY, Ze, ite_true, ite_false, forall_const, reduceCtorEq, Nat.reduceAdd, Nat.reduceMul, Nat.reduceLeDiff, Nat.reduceLT, Nat.reduceEqDiff]
  refine br ?_ ?_
  · intro h
    have hlt : k < ns.length := by have := of_decide_eq_true h; omega
    have hpk := hp k ns[k] (List.getElem?_eq_getElem hlt)
    have e1 : (((3 * k : Nat) : Int) + 3).toNat = 3 * k + 3 := by omega
    have e2 : ((3 * k : Nat) : Int).toNat = 3 * k := by omega
    have e3 : ((3 * k : Nat) : Int) + 3 = ((3 * (k + 1) : Nat) : Int) := by omega
    have e4 : ((3 * k : Nat) : Int).tdiv 3 = (k : Nat) := by rw [Int.tdiv_eq_ediv_of_nonneg (by omega)]; omega
    simp only [ZZ, YY, Ze, ite_true, ite_false, forall_const, reduceCtorEq, Nat.reduceAdd, Nat.reduceMul, Nat.reduceLeDiff, Nat.reduceLT, Nat.reduceEqDiff, e1, e2, hpk]
    ((repeat' (with_reducible apply And.intro)) <;> try ((first | first | assumption | trivial | exact (fun hq => by rw [hq]; rfl) | exact i64_of (by omega) (by omega) | omega | (simp; done) | (simp; omega) | (intro hsc; have hs0 := hsc; (try have hsd := of_decide_eq_true hsc); (try simp only [Bool.not_eq_true', Bool.or_eq_false_iff, Bool.and_eq_true, Bool.or_eq_true, decide_eq_true_eq, decide_eq_false_iff_not] at hsc); (repeat' (with_reducible apply And.intro)) <;> (first | assumption | trivial | exact (fun hq => by rw [hq]; rfl) | exact i64_of (by omega) (by omega) | omega | (simp; done) | (simp; omega) | (intro hse; simp [hse, hs0]; done) | (intro hse; simp only [hse, hs0, Bool.true_and, Bool.and_true, Bool.not_false, Bool.not_true, Bool.and_self]; done))))))
    refine br ?_ ?_
    · intro h2
      have h2 : ns[k] = s := of_decide_eq_true h2
      have hi : idxS ns s 0 = (k : Nat) := by rw [hf, idxS, dif_pos hlt, if_pos h2.symm]
      simp only [ZZ, YY, Ze, ite_true, ite_false, forall_const, reduceCtorEq, Nat.reduceAdd, Nat.reduceMul, Nat.reduceLeDiff, Nat.reduceLT, Nat.reduceEqDiff, e4]
      ((repeat' (with_reducible apply And.intro)) <;> try ((first | first | assumption | trivial | exact (fun hq => by rw [hq]; rfl) | exact i64_of (by omega) (by omega) | omega | (simp; done) | (simp; omega) | (intro hsc; have hs0 := hsc; (try have hsd := of_decide_eq_true hsc); (try simp only [Bool.not_eq_true', Bool.or_eq_false_iff, Bool.and_eq_true, Bool.or_eq_true, decide_eq_true_eq, decide_eq_false_iff_not] at hsc); (repeat' (with_reducible apply And.intro)) <;> (first | assumption | trivial | exact (fun hq => by rw [hq]; rfl) | exact i64_of (by omega) (by omega) | omega | (simp; done) | (simp; omega) | (intro hse; simp [hse, hs0]; done) | (intro hse; simp only [hse, hs0, Bool.true_and, Bool.and_true, Bool.not_false, Bool.not_true, Bool.and_self]; done))))))
      rw [hi, if_pos (by omega)]
    · intro h2
      have h2 : ¬ ns[k] = s := of_decide_eq_false h2
      simp only [ZZ, YY, Ze, ite_true, ite_false, forall_const, reduceCtorEq, Nat.reduceAdd, Nat.reduceMul, Nat.reduceLeDiff, Nat.reduceLT, Nat.reduceEqDiff, e3]
      ((repeat' (with_reducible apply And.intro)) <;> try ((first | first | assumption | trivial | exact (fun hq => by rw [hq]; rfl) | exact i64_of (by omega) (by omega) | omega | (simp; done) | (simp; omega) | (intro hsc; have hs0 := hsc; (try have hsd := of_decide_eq_true hsc); (try simp only [Bool.not_eq_true', Bool.or_eq_false_iff, Bool.and_eq_true, Bool.or_eq_true, decide_eq_true_eq, decide_eq_false_iff_not] at hsc); (repeat' (with_reducible apply And.intro)) <;> (first | assumption | trivial | exact (fun hq => by rw [hq]; rfl) | exact i64_of (by omega) (by omega) | omega | (simp; done) | (simp; omega) | (intro hse; simp [hse, hs0]; done) | (intro hse; simp only [hse, hs0, Bool.true_and, Bool.and_true, Bool.not_false, Bool.not_true, Bool.and_self]; done))))))
      refine end_round (ns.length - (k + 1)) [.p (.str s), .p (.str nm), .any, .any, .any, .any, .p (int ((3 * (k + 1) : Nat))), .any, .any, .any, .any, .any, .any, .any, .any, .any, .any, .any, .any, .any, .any, .any] [] (by omega) (by (simp only [ZZ, YY, Ze, ite_true, ite_false, forall_const, reduceCtorEq, Nat.reduceAdd, Nat.reduceMul, Nat.reduceLeDiff, Nat.reduceLT, Nat.reduceEqDiff]; try trivial)) (by (simp only [ZZ, YY, Ze, ite_true, ite_false, forall_const, reduceCtorEq, Nat.reduceAdd, Nat.reduceMul, Nat.reduceLeDiff, Nat.reduceLT, Nat.reduceEqDiff]; try trivial)) ⟨k + 1, rfl, by omega, by rw [hf, idxS, dif_pos hlt, if_neg (fun e => h2 e.symm)], rfl, rfl⟩
  · intro h
    have hge : ¬ k < ns.length := by have := of_decide_eq_false h; omega
    have hi : idxS ns s 0 = -1 := by rw [hf, idxS, dif_neg hge]
    simp only [ZZ, YY, Ze, ite_true, ite_false, forall_const, reduceCtorEq, Nat.reduceAdd, Nat.reduceMul, Nat.reduceLeDiff, Nat.reduceLT, Nat.reduceEqDiff]
    rw [hi, if_neg (by omega)]
end
theorem vfoldD_take (u : List UInt8) (j : Nat) (h : j < u.length) : foldD (u.take (j + 1)) = 10 * foldD (u.take j) + ((u.getD j 0).toNat - 48) := by
  unfold foldD
  rw [List.take_add_one, List.getElem?_eq_getElem h]
  simp only [Option.toList_some, List.foldl_append, List.foldl_cons, List.foldl_nil]
  simp [List.getD, h]
theorem vfoldD_lt : ∀ u : List UInt8, u.all digB = true → foldD u < 10 ^ u.length := by
  have key : ∀ (u : List UInt8) (a : Nat), u.all digB = true → u.foldl (fun n c => 10 * n + (c.toNat - 48)) a < (a + 1) * 10 ^ u.length := by
    intro u
    induction u with
    | nil => intro a _; simp
    | cons c r ih =>
      intro a h
      simp only [List.all_cons, Bool.and_eq_true] at h
      have hc := h.1
      simp only [digB, Bool.and_eq_true, decide_eq_true_eq] at hc
      simp only [List.foldl_cons]
      refine Nat.lt_of_lt_of_le (ih _ h.2) ?_
      rw [List.length_cons, Nat.pow_succ, Nat.mul_comm (10 ^ r.length) 10, ← Nat.mul_assoc]
      exact Nat.mul_le_mul_right _ (by omega)
  intro u h
  have := key u 0 h
  simpa [foldD] using this
theorem vsub48 (c : UInt8) : digB c = true → IntKind.u8.wrap ((c.toNat : Int) - 48) = ((c.toNat - 48 : Nat) : Int) := all256 (p := fun c => digB c = true → IntKind.u8.wrap ((c.toNat : Int) - 48) = ((c.toNat - 48 : Nat) : Int)) (by decide +kernel) c
section
variable {E : Envt}
def fxOk (s : List UInt8) (d : Nat) : Bool := decide (s.length = d) && s.all digB
theorem all_takeV {p : UInt8 → Bool} {s : List UInt8} {j : Nat} (h : j < s.length) : (s.take (j + 1)).all p = ((s.take j).all p && p (s.getD j 0)) := by
  rw [List.take_succ_eq_append_getElem h, List.all_append]
  simp [List.getD, h]
theorem fixed_ok (s : List UInt8) (d : Nat) (most : Int) (hd : d ≤ 9) (hs : s.length ≤ 1000000) : PCall Tryz.prog E 172 [.str s, int (d : Nat), int most] (· = if fxOk s d = true then .tup [int (foldD s : Nat), .bool (decide ((foldD s : Int) ≤ most))] else .tup [int 0, .bool false]) := by
  refine pcallF mixed Tryz.func172 ck_thread_fixed ?_
  simp only [a0, l0, OS.ao, List.map_cons, List.map_nil, List.length_cons, List.length_nil, List.cons_append, List.nil_append, Nat.reduceSub, Nat.reduceAdd, List.replicate_succ, List.replicate_zero, ir_thread_fixed, rs_thread_fixed, ZZ, YY, Ze, ite_true, ite_false, forall_const, reduceCtorEq, Nat.reduceAdd, Nat.reduceMul, Nat.reduceLeDiff, Nat.reduceLT, Nat.reduceEqDiff]
  refine br ?_ ?_
  · intro h
    have h : ¬ s.length = d := by have := h; simp at this; omega
    simp only [ZZ, YY, Ze, ite_true, ite_false, forall_const, reduceCtorEq, Nat.reduceAdd, Nat.reduceMul, Nat.reduceLeDiff, Nat.reduceLT, Nat.reduceEqDiff]
    rw [if_neg]
    unfold fxOk
    simp [h]
  · intro h
    have h : s.length = d := by have := h; simp at this; omega
    subst h
    simp only [ZZ, YY, Ze, ite_true, ite_false, forall_const, reduceCtorEq, Nat.reduceAdd, Nat.reduceMul, Nat.reduceLeDiff, Nat.reduceLT, Nat.reduceEqDiff]
    refine loop_intro (fun n fr L => ∃ (j : Nat), j ≤ s.length ∧ n = s.length - j ∧ ((s.take j).all digB = true) ∧ fr = [.p (.str s), .p (int (s.length : Nat)), .p (int most), .any, .any, .any, .any, .any, .p (int (foldD (s.take j) : Nat)), .any, .any, .any, .any, .any, .p (int (s.length : Nat)), .p (int (j : Nat)), .any, .any, .any, .any, .any, .any, .any, .any, .any, .any, .any, .any, .any, .any, .any, .any, .any, .any, .any, .any] ∧ L = []) (s.length) [.p (.str s), .p (int (s.length : Nat)), .p (int most), .any, .any, .any, .any, .any, .p (int (foldD (s.take 0) : Nat)), .any, .any, .any, .any, .any, .p (int (s.length : Nat)), .p (int (0 : Nat)), .any, .any, .any, .any, .any, .any, .any, .any, .any, .any, .any, .any, .any, .any, .any, .any, .any, .any, .any, .any] [] (by (simp only [ZZ, YY, Ze, ite_true, ite_false, forall_const, reduceCtorEq, Nat.reduceAdd, Nat.reduceMul, Nat.reduceLeDiff, Nat.reduceLT, Nat.reduceEqDiff]; try trivial)) (by (simp only [ZZ, YY, Ze, ite_true, ite_false, forall_const, reduceCtorEq, Nat.reduceAdd, Nat.reduceMul, Nat.reduceLeDiff, Nat.reduceLT, Nat.reduceEqDiff]; try trivial)) ⟨0, by omega, by omega, by simp, rfl, rfl⟩ ?_
    rintro n fr L ⟨j, hj, rfl, hall, rfl, rfl⟩
    simp only [ir_thread_fixed_L0, ZZ, YY, Ze, ite_true, ite_false, forall_const, reduceCtorEq, Nat.reduceAdd, Nat.reduceMul, Nat.reduceLeDiff, Nat.reduceLT, Nat.reduceEqDiff]
    have hfl := vfoldD_lt (s.take j) hall
    have hfb : (10 : Nat) ^ (s.take j).length ≤ 10 ^ 9 := Nat.pow_le_pow_right (by decide) (by simp; omega)
    refine br ?_ ?_
    · intro h2
      have hju : j < s.length := by have := of_decide_eq_true h2; omega
      have hnx := all_takeV (p := digB) hju
      have hft := vfoldD_take s j hju
      simp only [ZZ, YY, Ze, ite_true, ite_false, forall_const, reduceCtorEq, Nat.reduceAdd, Nat.reduceMul, Nat.reduceLeDiff, Nat.reduceLT, Nat.reduceEqDiff]
      ((repeat' (with_reducible apply And.intro)) <;> try ((first | first | assumption | trivial | exact (fun hq => by rw [hq]; rfl) | exact i64_of (by omega) (by omega) | omega | (simp; done) | (simp; omega) | (intro hsc; have hs0 := hsc; (try have hsd := of_decide_eq_true hsc); (try simp only [Bool.not_eq_true', Bool.or_eq_false_iff, Bool.and_eq_true, Bool.or_eq_true, decide_eq_true_eq, decide_eq_false_iff_not] at hsc); (repeat' (with_reducible apply And.intro)) <;> (first | assumption | trivial | exact (fun hq => by rw [hq]; rfl) | exact i64_of (by omega) (by omega) | omega | (simp; done) | (simp; omega) | (intro hse; simp [hse, hs0]; done) | (intro hse; simp only [hse, hs0, Bool.true_and, Bool.and_true, Bool.not_false, Bool.not_true, Bool.and_self]; done))))))
      refine use1 (Digit_ok (s.getD j 0)) rfl (.inl rfl) ?_
      simp only [ZZ, YY, Ze, ite_true, ite_false, forall_const, reduceCtorEq, Nat.reduceAdd, Nat.reduceMul, Nat.reduceLeDiff, Nat.reduceLT, Nat.reduceEqDiff]
      refine br ?_ ?_
      · intro hd2
        have hd2 : digB (s.getD j 0) = false := by simpa using hd2
        simp only [ZZ, YY, Ze, ite_true, ite_false, forall_const, reduceCtorEq, Nat.reduceAdd, Nat.reduceMul, Nat.reduceLeDiff, Nat.reduceLT, Nat.reduceEqDiff]
        rw [if_neg]
        unfold fxOk
        rw [Bool.and_eq_true]
        rintro ⟨_, h3⟩
        rw [List.all_eq_true] at h3
        have := h3 (s.getD j 0) (by simp [List.getD, hju])
        rw [hd2] at this
        cases this
      · intro hd2
        have hd2 : digB (s.getD j 0) = true := by simpa using hd2
        have h48 := vsub48 _ hd2
        have hc8 : (s.getD j 0).toNat - 48 ≤ 9 := by
          simp only [digB, Bool.and_eq_true, decide_eq_true_eq] at hd2
          omega
        have he : 10 * ((foldD (s.take j) : Nat) : Int) + (((s.getD j 0).toNat - 48 : Nat) : Int) = ((foldD (s.take (j + 1)) : Nat) : Int) := by rw [hft]; omega
        simp only [ZZ, YY, Ze, ite_true, ite_false, forall_const, reduceCtorEq, Nat.reduceAdd, Nat.reduceMul, Nat.reduceLeDiff, Nat.reduceLT, Nat.reduceEqDiff, h48, he]
        ((repeat' (with_reducible apply And.intro)) <;> try ((first | first | assumption | trivial | exact (fun hq => by rw [hq]; rfl) | exact i64_of (by omega) (by omega) | omega | (simp; done) | (simp; omega) | (intro hsc; have hs0 := hsc; (try have hsd := of_decide_eq_true hsc); (try simp only [Bool.not_eq_true', Bool.or_eq_false_iff, Bool.and_eq_true, Bool.or_eq_true, decide_eq_true_eq, decide_eq_false_iff_not] at hsc); (repeat' (with_reducible apply And.intro)) <;> (first | assumption | trivial | exact (fun hq => by rw [hq]; rfl) | exact i64_of (by omega) (by omega) | omega | (simp; done) | (simp; omega) | (intro hse; simp [hse, hs0]; done) | (intro hse; simp only [hse, hs0, Bool.true_and, Bool.and_true, Bool.not_false, Bool.not_true, Bool.and_self]; done))))))
        refine end_round (s.length - (j + 1)) [.p (.str s), .p (int (s.length : Nat)), .p (int most), .any, .any, .any, .any, .any, .p (int (foldD (s.take (j + 1)) : Nat)), .any, .any, .any, .any, .any, .p (int (s.length : Nat)), .p (int ((j + 1) : Nat)), .any, .any, .any, .any, .any, .any, .any, .any, .any, .any, .any, .any, .any, .any, .any, .any, .any, .any, .any, .any] [] (by omega) (by (simp only [ZZ, YY, Ze, ite_true, ite_false, forall_const, reduceCtorEq, Nat.reduceAdd, Nat.reduceMul, Nat.reduceLeDiff, Nat.reduceLT, Nat.reduceEqDiff]; try trivial)) (by (simp only [ZZ, YY, Ze, ite_true, ite_false, forall_const, reduceCtorEq, Nat.reduceAdd, Nat.reduceMul, Nat.reduceLeDiff, Nat.reduceLT, Nat.reduceEqDiff]; try trivial)) ⟨j + 1, by omega, rfl, by rw [hnx, hall, hd2]; rfl, rfl, rfl⟩
    · intro h2
      have hju : j = s.length := by have := of_decide_eq_false h2; omega
      subst hju
      rw [List.take_length] at hall
      rw [if_pos (by unfold fxOk; simp [hall])]
      simp only [ZZ, YY, Ze, ite_true, ite_false, forall_const, reduceCtorEq, Nat.reduceAdd, Nat.reduceMul, Nat.reduceLeDiff, Nat.reduceLT, Nat.reduceEqDiff, List.take_length]
end
/-- Two digits. -/
def twoS (n : Nat) : List UInt8 := [UInt8.ofNat (48 + n / 10), UInt8.ofNat (48 + n % 10)]
theorem two_fin : ∀ n : Fin 100, (itD (100 + (n.val : Int))).drop 1 = twoS n.val := by decide +kernel
theorem two_ok (n : Nat) (h : n < 100) : PCall Tryz.prog E5 181 [int (n : Nat)] (· = .str (twoS n)) := by
  refine pcallF mixed Tryz.func181 ck_thread_two ?_
  simp only [a0, l0, OS.ao, List.map_cons, List.map_nil, List.length_cons, List.length_nil, List.cons_append, List.nil_append, Nat.reduceSub, Nat.reduceAdd, List.replicate_succ, List.replicate_zero, ir_thread_two, rs_thread_two, ZZ, YY, Ze, ite_true, ite_false, forall_const, reduceCtorEq, Nat.reduceAdd, Nat.reduceMul, Nat.reduceLeDiff, Nat.reduceLT, Nat.reduceEqDiff]
  ((repeat' (with_reducible apply And.intro)) <;> try ((first | first | assumption | trivial | exact (fun hq => by rw [hq]; rfl) | exact i64_of (by omega) (by omega) | omega | (simp; done) | (simp; omega) | (intro hsc; have hs0 := hsc; (try have hsd := of_decide_eq_true hsc); (try simp only [Bool.not_eq_true', Bool.or_eq_false_iff, Bool.and_eq_true, Bool.or_eq_true, decide_eq_true_eq, decide_eq_false_iff_not] at hsc); (repeat' (with_reducible apply And.intro)) <;> (first | assumption | trivial | exact (fun hq => by rw [hq]; rfl) | exact i64_of (by omega) (by omega) | omega | (simp; done) | (simp; omega) | (intro hse; simp [hse, hs0]; done) | (intro hse; simp only [hse, hs0, Bool.true_and, Bool.and_true, Bool.not_false, Bool.not_true, Bool.and_self]; done))))))
  refine use1 (Itoa_ok5 (100 + (n : Nat)) (by omega) (by omega)) rfl (.inl rfl) ?_
  rw [itD_eq (by omega) (by omega)]
  have e := two_fin ⟨n, h⟩
  have hl : 1 ≤ (itD (100 + (n : Int))).length := by
    have := congrArg List.length e
    rw [List.length_drop] at this
    simp [twoS] at this
    omega
  have e1 : (1 : Int).toNat = 1 := rfl
  simp only [ZZ, YY, Ze, ite_true, ite_false, forall_const, reduceCtorEq, Nat.reduceAdd, Nat.reduceMul, Nat.reduceLeDiff, Nat.reduceLT, Nat.reduceEqDiff, List.take_length, e1]
  ((repeat' (with_reducible apply And.intro)) <;> try ((first | first | assumption | trivial | exact (fun hq => by rw [hq]; rfl) | exact i64_of (by omega) (by omega) | omega | (simp; done) | (simp; omega) | (intro hsc; have hs0 := hsc; (try have hsd := of_decide_eq_true hsc); (try simp only [Bool.not_eq_true', Bool.or_eq_false_iff, Bool.and_eq_true, Bool.or_eq_true, decide_eq_true_eq, decide_eq_false_iff_not] at hsc); (repeat' (with_reducible apply And.intro)) <;> (first | assumption | trivial | exact (fun hq => by rw [hq]; rfl) | exact i64_of (by omega) (by omega) | omega | (simp; done) | (simp; omega) | (intro hse; simp [hse, hs0]; done) | (intro hse; simp only [hse, hs0, Bool.true_and, Bool.and_true, Bool.not_false, Bool.not_true, Bool.and_self]; done))))))
  exact congrArg PV.str e
theorem wrap48 : ∀ a : Fin 10, IntKind.u8.wrap (48 + ((a.val : Nat) : Int)) = ((UInt8.ofNat (48 + a.val)).toNat : Nat) := by decide +kernel
theorem wrap48' (a : Nat) (h : a < 10) : IntKind.u8.wrap (48 + ((a : Nat) : Int)) = ((UInt8.ofNat (48 + a)).toNat : Nat) := wrap48 ⟨a, h⟩
theorem twoR_ok {E : Envt} (n : Nat) (h : n < 100) : PCall Tryz.prog E 106 [int (n : Nat)] (· = .str (twoS n)) := by
  have d1 : ((n : Nat) : Int).tdiv 10 = ((n / 10 : Nat) : Int) := by rw [Int.tdiv_eq_ediv_of_nonneg (by omega)]; rfl
  have d2 : ((n / 10 : Nat) : Int).tmod 10 = ((n / 10 : Nat) : Int) := by rw [Int.tmod_eq_emod_of_nonneg (by omega)]; omega
  have d3 : ((n : Nat) : Int).tmod 10 = ((n % 10 : Nat) : Int) := by rw [Int.tmod_eq_emod_of_nonneg (by omega)]; rfl
  have w1 := wrap48' (n / 10) (by omega)
  have w2 := wrap48' (n % 10) (by omega)
  refine pcallF mixed Tryz.func106 ck_chaseref1_two ?_
  simp only [a0, l0, OS.ao, List.map_cons, List.map_nil, List.length_cons, List.length_nil, List.cons_append, List.nil_append, Nat.reduceSub, Nat.reduceAdd, List.replicate_succ, List.replicate_zero, ir_chaseref1_two, rs_chaseref1_two, ZZ, YY, Ze, ite_true, ite_false, forall_const, reduceCtorEq, Nat.reduceAdd, Nat.reduceMul, Nat.reduceLeDiff, Nat.reduceLT, Nat.reduceEqDiff]
  have hb : bytesP [[PV.int .u8 ((UInt8.ofNat (48 + n / 10)).toNat : Nat)], [PV.int .u8 ((UInt8.ofNat (48 + n % 10)).toNat : Nat)]] = some (twoS n) := by
    simp only [bytesP, Option.map_some, Int.toNat_natCast, UInt8.ofNat_toNat]
    rfl
  simp only [ZZ, YY, Ze, ite_true, ite_false, forall_const, reduceCtorEq, Nat.reduceAdd, Nat.reduceMul, Nat.reduceLeDiff, Nat.reduceLT, Nat.reduceEqDiff, d1, d2, d3, w1, w2]
  ((repeat' (with_reducible apply And.intro)) <;> try ((first | first | assumption | trivial | exact (fun hq => by rw [hq]; rfl) | exact i64_of (by omega) (by omega) | omega | (simp; done) | (simp; omega) | (intro hsc; have hs0 := hsc; (try have hsd := of_decide_eq_true hsc); (try simp only [Bool.not_eq_true', Bool.or_eq_false_iff, Bool.and_eq_true, Bool.or_eq_true, decide_eq_true_eq, decide_eq_false_iff_not] at hsc); (repeat' (with_reducible apply And.intro)) <;> (first | assumption | trivial | exact (fun hq => by rw [hq]; rfl) | exact i64_of (by omega) (by omega) | omega | (simp; done) | (simp; omega) | (intro hse; simp [hse, hs0]; done) | (intro hse; simp only [hse, hs0, Bool.true_and, Bool.and_true, Bool.not_false, Bool.not_true, Bool.and_self]; done))))))
  simp only [ZZ, YY, Ze, ite_true, ite_false, forall_const, reduceCtorEq, Nat.reduceAdd, Nat.reduceMul, Nat.reduceLeDiff, Nat.reduceLT, Nat.reduceEqDiff, hb]
end Go.Proofs.YtidmphcocnaonaaGreatDoor
