
/- Own texts, put together: K4 H1 H2 H3 C2 C3 C4 C5 C7 C8 E1. -/
import Derived.Test.YtndjmidmfmcbkaaDoorM6
import Derived.Test.YtndjmidmfmcbkaaDoorM3
import Derived.Test.YtndjmidmfmcbkaaDoorM4
import Derived.WalkKit
import Derived.OwnWalk
import Derived.Lib.Builder
import Derived.Laws.Externs
import Derived.Maps.AppendAt
import Derived.Shelf.RegionOpenPlain
import Derived.Lib.Strings
import Derived.Lib.Slices
import Derived.Lib.Walk
import Derived.Lib.MakeNoZero
import Derived.Laws.IdiomCopy
import Derived.Laws.BitsLemmas
import Derived.KernelRfl
import Derived.Test.YtndjmidmfmcbkaaDoorM5
import Derived.Lib.Join
import Derived.Lib.IndexMore
import Derived.Lib.ValidLaws
import Derived.Test.YtndjmidmfmcbkaaDoorLayDecode
/- Subjects: their marks and their normal form, on both sides. -/
namespace Go.Proofs.YtndjmidmfmcbkaaDoor
open Go.RowKit
set_option linter.unusedVariables false
set_option linter.unusedSimpArgs false
set_option linter.defProp false

/- paperchase/thread.bracketed -/
def ir_thread_bracketed_L0 : IC :=
  (.seq (.seq (.reg [⟨some 15, .mov (.t 5), none⟩,
      ⟨some 16, .mov (.t 4), none⟩,
      ⟨some 17, .bin .lss (.t 15) (.t 16), none⟩])
    (.cond (.t 17) .skip (.exit 0)))
    (.seq (.block 1 (.seq (.reg [⟨some 20, .mov (.t 0), none⟩,
      ⟨some 21, .mov (.t 5), none⟩,
      ⟨some 22, .idx (.t 20) (.t 21), none⟩,
      ⟨some 23, .call 135 [.t 22], none⟩,
      ⟨some 24, .not (.t 23), none⟩])
    (.cond (.t 24) (.seq (.reg [⟨some 2, .mov (.c (.int .i64 0)), none⟩,
      ⟨some 3, .mov (.c (.bool false)), none⟩])
    .ret) .skip)))
    (.reg [⟨some 18, .mov (.t 5), none⟩,
      ⟨some 19, .bin .add (.t 18) (.c (.int .i64 1)), none⟩,
      ⟨some 5, .mov (.t 19), none⟩])))
def ir_thread_bracketed : IC :=
  (.seq (.reg [⟨some 2, .mov (.c (.int .i64 0)), none⟩,
      ⟨some 3, .mov (.c (.bool false)), none⟩])
    (.seq (.reg [⟨some 6, .mov (.t 0), none⟩,
      ⟨some 7, .call 115 [.t 6, .c (.int .u8 93)], none⟩,
      ⟨some 4, .mov (.t 7), none⟩])
    (.seq (.seq (.reg [⟨some 8, .mov (.t 4), none⟩,
      ⟨some 9, .bin .lss (.t 8) (.c (.int .i64 2)), none⟩,
      ⟨some 10, .mov (.t 9), none⟩,
      ⟨some 11, .mov (.t 0), (some (10, false))⟩,
      ⟨some 12, .idx (.t 11) (.c (.int .i64 0)), (some (10, false))⟩,
      ⟨some 13, .bin .neq (.t 12) (.c (.int .u8 91)), (some (10, false))⟩,
      ⟨some 14, .pick (.t 10) (.c (.bool true)) (.t 13), none⟩])
    (.cond (.t 14) (.seq (.reg [⟨some 2, .mov (.c (.int .i64 0)), none⟩,
      ⟨some 3, .mov (.c (.bool false)), none⟩])
    .ret) .skip))
    (.seq (.seq (.reg [⟨some 5, .mov (.c (.int .i64 1)), none⟩])
    (.block 0 (.loop ir_thread_bracketed_L0)))
    (.seq (.reg [⟨some 25, .mov (.t 4), none⟩,
      ⟨some 26, .bin .add (.t 25) (.c (.int .i64 1)), none⟩,
      ⟨some 2, .mov (.t 26), none⟩,
      ⟨some 3, .mov (.c (.bool true)), none⟩])
    .ret)))))
def rs_thread_bracketed : List IRes := [.t 2, .t 3]
theorem ck_thread_bracketed : chkF Tryd.prog Tryd.f110 ir_thread_bracketed rs_thread_bracketed 27 = true := by kernel_rfl
/- paperchase/thread.mark -/
def ir_thread_mark_L0 : IC :=
  (.seq (.reg [⟨some 17, .bin .lss (.t 16) (.t 15), none⟩])
    (.seq (.cond (.t 17) .skip (.exit 0))
    (.seq (.block 1 (.seq (.reg [⟨some 18, .ixa 1 (.t 14) (.t 16), none⟩,
      ⟨some 19, .ld 1 false (.t 18), none⟩,
      ⟨some 6, .mov (.t 19), none⟩])
    (.seq (.reg [⟨some 21, .mov (.t 4), none⟩,
      ⟨some 22, .mov (.t 6), none⟩,
      ⟨some 23, .call 109 [.t 21, .t 22], none⟩,
      ⟨some 20, .mov (.t 23), none⟩,
      ⟨some 24, .ext 0 (.t 20), none⟩,
      ⟨some 25, .ext 1 (.t 20), none⟩,
      ⟨some 7, .mov (.t 24), none⟩,
      ⟨some 8, .mov (.t 25), none⟩])
    (.seq (.seq (.reg [⟨some 26, .mov (.t 8), none⟩,
      ⟨some 27, .not (.t 26), none⟩])
    (.cond (.t 27) (.exit 1) .skip))
    (.seq (.seq (.reg [⟨some 29, .mov (.t 7), none⟩,
      ⟨some 30, .call 110 [.t 29], none⟩,
      ⟨some 28, .mov (.t 30), none⟩,
      ⟨some 31, .ext 0 (.t 28), none⟩,
      ⟨some 32, .ext 1 (.t 28), none⟩,
      ⟨some 9, .mov (.t 31), none⟩,
      ⟨some 10, .mov (.t 32), none⟩])
    (.seq (.reg [⟨some 33, .mov (.t 10), none⟩])
    (.cond (.t 33) (.reg [⟨some 34, .mov (.t 7), none⟩,
      ⟨some 35, .mov (.t 9), none⟩,
      ⟨some 36, .ssl (.t 34) (some (.t 35)) none, none⟩,
      ⟨some 7, .mov (.t 36), none⟩]) .skip)))
    (.cut (.seq (.reg [⟨some 37, .mov (.t 7), none⟩,
      ⟨some 38, .call 88 [.t 37, .c (.str [58])], none⟩])
    (.cond (.t 38) (.seq (.reg [⟨some 39, .mov (.t 0), none⟩,
      ⟨some 40, .sln (.t 39), none⟩,
      ⟨some 41, .mov (.t 7), none⟩,
      ⟨some 42, .sln (.t 41), none⟩,
      ⟨some 43, .bin .sub (.t 40) (.t 42), none⟩,
      ⟨some 44, .bin .add (.t 43) (.c (.int .i64 1)), none⟩,
      ⟨some 2, .mov (.t 44), none⟩,
      ⟨some 3, .mov (.c (.int .i64 1)), none⟩])
    .ret) .skip))))))))
    (.cut (.reg [⟨some 45, .bin .add (.t 16) (.c (.int .i64 1)), none⟩,
      ⟨some 16, .mov (.t 45), none⟩])))))
def ir_thread_mark : IC :=
  (.seq (.reg [⟨some 2, .mov (.c (.int .i64 0)), none⟩,
      ⟨some 3, .mov (.c (.int .i64 0)), none⟩])
    (.seq (.reg [⟨some 12, .mov (.t 0), none⟩,
      ⟨some 13, .call 67 [.t 12], none⟩,
      ⟨some 4, .mov (.t 13), none⟩])
    (.seq (.seq (.reg [⟨some 14, .bsl 1 [.c (.str [114, 101]), .c (.str [102, 119, 100]), .c (.str [102, 119]), .c (.str [97, 119]), .c (.str [119, 103])], none⟩,
      ⟨some 15, .len (.t 14), none⟩,
      ⟨some 16, .mov (.c (.int .i64 0)), none⟩])
    (.block 0 (.loop ir_thread_mark_L0)))
    (.seq (.seq (.reg [⟨some 46, .mov (.t 0), none⟩,
      ⟨some 47, .call 88 [.t 46, .c (.str [91])], none⟩])
    (.cond (.t 47) (.seq (.reg [⟨some 48, .mov (.t 0), none⟩,
      ⟨some 49, .ssl (.t 48) (some (.c (.int .i64 1))) none, none⟩,
      ⟨some 50, .call 111 [.t 49, .c (.str [91, 93])], none⟩,
      ⟨some 11, .mov (.t 50), none⟩])
    (.seq (.reg [⟨some 51, .mov (.t 11), none⟩,
      ⟨some 52, .call 47 [.t 51, .c (.int .i64 0), .c (.int .i64 20)], none⟩,
      ⟨some 53, .mov (.t 52), none⟩,
      ⟨some 54, .mov (.t 0), (some (53, true))⟩,
      ⟨some 55, .mov (.t 11), (some (53, true))⟩,
      ⟨some 56, .bin .add (.c (.int .i64 1)) (.t 55), (some (53, true))⟩,
      ⟨some 57, .idx (.t 54) (.t 56), (some (53, true))⟩,
      ⟨some 58, .bin .eql (.t 57) (.c (.int .u8 93)), (some (53, true))⟩,
      ⟨some 59, .pick (.t 53) (.t 58) (.c (.bool false)), none⟩])
    (.cond (.t 59) (.seq (.reg [⟨some 60, .mov (.t 11), none⟩,
      ⟨some 61, .bin .add (.t 60) (.c (.int .i64 2)), none⟩,
      ⟨some 2, .mov (.t 61), none⟩,
      ⟨some 3, .mov (.c (.int .i64 0)), none⟩])
    .ret) .skip))) .skip))
    (.cut (.seq (.reg [⟨some 2, .mov (.c (.int .i64 0)), none⟩,
      ⟨some 3, .mov (.c (.int .i64 0)), none⟩])
    .ret))))))
def rs_thread_mark : List IRes := [.t 2, .t 3]
theorem ck_thread_mark : chkF Tryd.prog Tryd.f66 ir_thread_mark rs_thread_mark 62 = true := by kernel_rfl

section
variable {E : Envt}
theorem bracketed_ok (s : List UInt8) (hs : s.length ≤ 1000000000) : PCall Tryd.prog E 110 [.str s] (· = .tup [int (brF s : Nat), .bool (decide (brF s ≠ 0))]) := by
  have hcs := ib_cases s 93
  have hb : Lib.indexByte s 93 < s.length := by
    rcases hcs with ⟨h, _⟩ | ⟨a, b, h1, _, h3⟩
    · omega
    · rw [h3, h1]; simp; omega
  clear hcs
  refine pcallF mixed Tryd.func110 ck_thread_bracketed ?_
  simp only [a0, l0, OS.ao, List.map_cons, List.map_nil, List.length_cons, List.length_nil, List.cons_append, List.nil_append, Nat.reduceSub, Nat.reduceAdd, List.replicate_succ, List.replicate_zero, ir_thread_bracketed, rs_thread_bracketed, ZZ, YY, Zd, ite_true, ite_false, forall_const, reduceCtorEq, Nat.reduceAdd, Nat.reduceMul, Nat.reduceLeDiff, Nat.reduceLT, Nat.reduceEqDiff]
  refine use1 (IndexByte_ok s 93) rfl (.inl rfl) ?_
  simp only [ZZ, YY, Zd, ite_true, ite_false, forall_const, reduceCtorEq, Nat.reduceAdd, Nat.reduceMul, Nat.reduceLeDiff, Nat.reduceLT, Nat.reduceEqDiff]
  ((repeat' (with_reducible apply And.intro)) <;> try ((first | first | assumption | trivial | exact (fun hq => by rw [hq]; rfl) | exact i64_of (by omega) (by omega) | omega | (simp; done) | (simp; omega) | (intro hsc; have hs0 := hsc; (try have hsd := of_decide_eq_true hsc); (try simp only [Bool.not_eq_true', Bool.or_eq_false_iff, Bool.and_eq_true, Bool.or_eq_true, decide_eq_true_eq, decide_eq_false_iff_not] at hsc); (repeat' (with_reducible apply And.intro)) <;> (first | assumption | trivial | exact (fun hq => by rw [hq]; rfl) | exact i64_of (by omega) (by omega) | omega | (simp; done) | (simp; omega) | (intro hse; simp [hse, hs0]; done) | (intro hse; simp only [hse, hs0, Bool.true_and, Bool.and_true, Bool.not_false, Bool.not_true, Bool.and_self]; done))))))
  refine br ?_ ?_
  · intro h
    have h0 : brF s = 0 := by
      rw [brF, if_neg]
      rintro ⟨⟨h1, h2⟩, _⟩
      simp only [show Int.toNat 0 = 0 from rfl, h2, decide_eq_false (show ¬ Lib.indexByte s 93 < 2 by omega)] at h
      exact absurd h (by decide)
    simp only [ZZ, YY, Zd, ite_true, ite_false, forall_const, reduceCtorEq, Nat.reduceAdd, Nat.reduceMul, Nat.reduceLeDiff, Nat.reduceLT, Nat.reduceEqDiff]
    rw [h0]
    rfl
  intro h
  have h1 : 2 ≤ Lib.indexByte s 93 ∧ s.getD 0 0 = 91 := by
    simp only [show Int.toNat 0 = 0 from rfl, Bool.or_eq_false_iff, Bool.not_eq_false', decide_eq_false_iff_not, decide_eq_true_eq] at h
    have h3 := h.2
    exact ⟨by omega, UInt8.toNat_inj.1 (show _ = 91 by omega)⟩
  obtain ⟨kk, hk⟩ : ∃ kk : Nat, Lib.indexByte s 93 = kk := ⟨(Lib.indexByte s 93).toNat, by omega⟩
  have hB : brF s = if ((s.take kk).drop 1).all digB = true then kk + 1 else 0 := by
    rw [brF, hk]
    simp only [Int.toNat_natCast]
    by_cases h2 : ((s.take kk).drop 1).all digB = true
    · rw [if_pos h2, if_pos ⟨⟨by omega, h1.2⟩, h2⟩]
    · rw [if_neg h2, if_neg (fun h => h2 h.2)]
  rw [hk] at h1 hb ⊢
  simp only [ZZ, YY, Zd, ite_true, ite_false, forall_const, reduceCtorEq, Nat.reduceAdd, Nat.reduceMul, Nat.reduceLeDiff, Nat.reduceLT, Nat.reduceEqDiff]
  refine loop_intro (fun n fr L => ∃ (i : Nat), kk + 1 - i = n ∧ (1 ≤ i ∧ i ≤ kk) ∧ (((s.take i).drop 1).all digB = true) ∧ fr = [.p (.str s), .any, .any, .any, .p (int (kk : Nat)), .p (int (i : Nat)), .any, .any, .any, .any, .any, .any, .any, .any, .any, .any, .any, .any, .any, .any, .any, .any, .any, .any, .any, .any, .any] ∧ L = []) (kk + 1 - 1) [.p (.str s), .any, .any, .any, .p (int (kk : Nat)), .p (int (1 : Nat)), .any, .any, .any, .any, .any, .any, .any, .any, .any, .any, .any, .any, .any, .any, .any, .any, .any, .any, .any, .any, .any] [] (by (simp only [ZZ, YY, Zd, ite_true, ite_false, forall_const, reduceCtorEq, Nat.reduceAdd, Nat.reduceMul, Nat.reduceLeDiff, Nat.reduceLT, Nat.reduceEqDiff]; try trivial)) (by (simp only [ZZ, YY, Zd, ite_true, ite_false, forall_const, reduceCtorEq, Nat.reduceAdd, Nat.reduceMul, Nat.reduceLeDiff, Nat.reduceLT, Nat.reduceEqDiff]; try trivial)) ⟨1, rfl, by omega, by (cases s <;> simp), rfl, rfl⟩ ?_
  rintro n fr L ⟨i, rfl, h2, h3, rfl, rfl⟩
  simp only [ir_thread_bracketed_L0, ZZ, YY, Zd, ite_true, ite_false, forall_const, reduceCtorEq, Nat.reduceAdd, Nat.reduceMul, Nat.reduceLeDiff, Nat.reduceLT, Nat.reduceEqDiff]
  refine br ?_ ?_
  · intro h
    have hlt : i < kk := by have := of_decide_eq_true h; omega
    obtain ⟨c, hc⟩ : ∃ c, s[i]? = some c := ⟨_, List.getElem?_eq_getElem (by omega)⟩
    have hg : s.getD i 0 = c := by simp [List.getD, hc]
    have htk : (s.take (i + 1)).drop 1 = (s.take i).drop 1 ++ [c] := by
      rw [List.take_add_one, hc]
      simp only [Option.toList_some]
      rw [List.drop_append_of_le_length (by simp; omega)]
    simp only [ZZ, YY, Zd, ite_true, ite_false, forall_const, reduceCtorEq, Nat.reduceAdd, Nat.reduceMul, Nat.reduceLeDiff, Nat.reduceLT, Nat.reduceEqDiff, hg]
    ((repeat' (with_reducible apply And.intro)) <;> try ((first | first | assumption | trivial | exact (fun hq => by rw [hq]; rfl) | exact i64_of (by omega) (by omega) | omega | (simp; done) | (simp; omega) | (intro hsc; have hs0 := hsc; (try have hsd := of_decide_eq_true hsc); (try simp only [Bool.not_eq_true', Bool.or_eq_false_iff, Bool.and_eq_true, Bool.or_eq_true, decide_eq_true_eq, decide_eq_false_iff_not] at hsc); (repeat' (with_reducible apply And.intro)) <;> (first | assumption | trivial | exact (fun hq => by rw [hq]; rfl) | exact i64_of (by omega) (by omega) | omega | (simp; done) | (simp; omega) | (intro hse; simp [hse, hs0]; done) | (intro hse; simp only [hse, hs0, Bool.true_and, Bool.and_true, Bool.not_false, Bool.not_true, Bool.and_self]; done))))))
    refine use1 (Digit_ok c) rfl (.inl rfl) ?_
    simp only [ZZ, YY, Zd, ite_true, ite_false, forall_const, reduceCtorEq, Nat.reduceAdd, Nat.reduceMul, Nat.reduceLeDiff, Nat.reduceLT, Nat.reduceEqDiff]
    refine br ?_ ?_
    · intro hd
      have hd : digB c = false := by rwa [Bool.not_eq_true'] at hd
      simp only [ZZ, YY, Zd, ite_true, ite_false, forall_const, reduceCtorEq, Nat.reduceAdd, Nat.reduceMul, Nat.reduceLeDiff, Nat.reduceLT, Nat.reduceEqDiff]
      rw [hB, if_neg]
      · rfl
      · intro ha
        have hm : c ∈ (s.take kk).drop 1 := by
          apply List.mem_of_getElem? (i := i - 1)
          rw [List.getElem?_drop, List.getElem?_take, if_pos (by omega), show 1 + (i - 1) = i from by omega]
          exact hc
        have := List.all_eq_true.1 ha c hm
        rw [hd] at this
        cases this
    · intro hd
      have hd : digB c = true := by rwa [Bool.not_eq_false'] at hd
      simp only [ZZ, YY, Zd, ite_true, ite_false, forall_const, reduceCtorEq, Nat.reduceAdd, Nat.reduceMul, Nat.reduceLeDiff, Nat.reduceLT, Nat.reduceEqDiff]
      refine ⟨i64_of (by omega) (by omega), ?_⟩
      refine end_round (kk + 1 - (i + 1)) [.p (.str s), .any, .any, .any, .p (int (kk : Nat)), .p (int ((i + 1) : Nat)), .any, .any, .any, .any, .any, .any, .any, .any, .any, .any, .any, .any, .any, .any, .any, .any, .any, .any, .any, .any, .any] [] (by omega) (by (simp only [ZZ, YY, Zd, ite_true, ite_false, forall_const, reduceCtorEq, Nat.reduceAdd, Nat.reduceMul, Nat.reduceLeDiff, Nat.reduceLT, Nat.reduceEqDiff]; try trivial)) (by (simp only [ZZ, YY, Zd, ite_true, ite_false, forall_const, reduceCtorEq, Nat.reduceAdd, Nat.reduceMul, Nat.reduceLeDiff, Nat.reduceLT, Nat.reduceEqDiff]; try trivial)) ⟨i + 1, rfl, by omega, by rw [htk, List.all_append, h3]; simp [hd], rfl, rfl⟩
  · intro h
    have hge : i = kk := by have := of_decide_eq_false h; omega
    subst hge
    simp only [ZZ, YY, Zd, ite_true, ite_false, forall_const, reduceCtorEq, Nat.reduceAdd, Nat.reduceMul, Nat.reduceLeDiff, Nat.reduceLT, Nat.reduceEqDiff]
    rw [hB, if_pos h3]
    refine ⟨i64_of (by omega) (by omega), ?_⟩
    simp
/-- What stands behind a mark that begins with a word. -/
def stepW (low w : List UInt8) : Option (List UInt8) := if Lib.hasPrefix low w = true then mkP (low.drop w.length) else none
def wsS : List (List UInt8) := [[114, 101], [102, 119, 100], [102, 119], [97, 119], [119, 103]]
def bkF (s : List UInt8) : Option (List UInt8) := if Lib.hasPrefix s [91] = true then bkP (s.drop 1) else none
/-- A mark: how long it is, and whether it counts. -/
def markF (s : List UInt8) : Nat × Nat := match wsS.findSome? (stepW (lowF s)) with
  | some r => (s.length - r.length, 1)
  | none => match bkF s with
    | some r => (s.length - r.length, 0)
    | none => (0, 0)
theorem brR_len (r : List UInt8) : brF r ≤ r.length ∧ (brR r).length ≤ r.length := by
  have hb : brF r ≤ r.length := by
    rw [brF]
    split
    · have : Lib.indexByte r 93 < r.length := by
        rcases ib_cases r 93 with ⟨h, _⟩ | ⟨a, b, h1, _, h3⟩
        · omega
        · rw [h3, h1]; simp; omega
      omega
    · omega
  exact ⟨hb, by rw [brR]; simp⟩
theorem mkP_len {r q : List UInt8} (h : mkP r = some q) : q.length + 1 ≤ r.length ∧ brR r = 58 :: q := by
  rw [mkP] at h
  split at h
  · rename_i h1
    obtain ⟨t, ht⟩ := (hp1 _ _).1 h1
    have := (brR_len r).2
    rw [ht] at h this
    cases h
    exact ⟨by simpa using this, ht⟩
  · cases h
theorem findSome_get {α β : Type} {f : α → Option β} : ∀ {l : List α} {k : Nat} {x : α} {y : β}, (∀ j z, j < k → l[j]? = some z → f z = none) → l[k]? = some x → f x = some y → l.findSome? f = some y
  | a :: l, 0, x, y, _, h1, h2 => by simp at h1; subst h1; simp [List.findSome?_cons, h2]
  | a :: l, k + 1, x, y, h, h1, h2 => by
    have ha : f a = none := h 0 a (by omega) rfl
    rw [List.findSome?_cons, ha]
    exact findSome_get (k := k) (fun j z hj hz => h (j + 1) z (by omega) hz) (by simpa using h1) h2
theorem findSome_no {α β : Type} {f : α → Option β} {l : List α} (h : ∀ j z, j < l.length → l[j]? = some z → f z = none) : l.findSome? f = none := by
  rw [List.findSome?_eq_none_iff]
  intro x hx
  obtain ⟨j, hj⟩ := List.getElem?_of_mem hx
  exact h j x (List.getElem?_eq_some_iff.1 hj).1 hj
theorem no_snoc {α β : Type} {f : α → Option β} {l : List α} {k : Nat} {x : α} (h : ∀ j z, j < k → l[j]? = some z → f z = none) (hx : l[k]? = some x) (hf : f x = none) : ∀ j z, j < k + 1 → l[j]? = some z → f z = none := by
  intro j z hj hz
  by_cases e : j = k
  · subst e; rw [hx] at hz; cases hz; exact hf
  · exact h j z (by omega) hz
theorem wsS_len {w : List UInt8} (h : w ∈ wsS) : w.length ≤ 3 := by revert h; revert w; decide
theorem mark_ok (s : List UInt8) (hs : s.length ≤ 900000000) : PCall Tryd.prog E 66 [.str s] (· = .tup [int ((markF s).1 : Nat), int ((markF s).2 : Nat)]) := by
  refine pcallF mixed Tryd.func66 ck_thread_mark ?_
  simp only [a0, l0, OS.ao, List.map_cons, List.map_nil, List.length_cons, List.length_nil, List.cons_append, List.nil_append, Nat.reduceSub, Nat.reduceAdd, List.replicate_succ, List.replicate_zero, ir_thread_mark, rs_thread_mark, ZZ, YY, Zd, ite_true, ite_false, forall_const, reduceCtorEq, Nat.reduceAdd, Nat.reduceMul, Nat.reduceLeDiff, Nat.reduceLT, Nat.reduceEqDiff]
  refine use1 (Lower_ok s (by omega)) rfl (.inl rfl) ?_
  have hll : (lowF s).length = s.length := by simp [lowF]
  simp only [ZZ, YY, Zd, ite_true, ite_false, forall_const, reduceCtorEq, Nat.reduceAdd, Nat.reduceMul, Nat.reduceLeDiff, Nat.reduceLT, Nat.reduceEqDiff]
  rw [show [[PV.str [114, 101]], [.str [102, 119, 100]], [.str [102, 119]], [.str [97, 119]], [.str [119, 103]]] = strE wsS from rfl]
  refine loop_intro (fun n fr L => ∃ (k : Nat), k ≤ 5 ∧ n = 5 - k ∧ (∀ j z, j < k → wsS[j]? = some z → stepW (lowF s) z = none) ∧ fr = [.p (.str s), .any, .any, .any, .p (.str (lowF s)), .any, .any, .any, .any, .any, .any, .any, .any, .any, .p (.sl 1 (strE wsS)), .p (int (5 : Nat)), .p (int (k : Nat)), .any, .any, .any, .any, .any, .any, .any, .any, .any, .any, .any, .any, .any, .any, .any, .any, .any, .any, .any, .any, .any, .any, .any, .any, .any, .any, .any, .any, .any, .any, .any, .any, .any, .any, .any, .any, .any, .any, .any, .any, .any, .any, .any, .any, .any] ∧ L = []) (5) [.p (.str s), .any, .any, .any, .p (.str (lowF s)), .any, .any, .any, .any, .any, .any, .any, .any, .any, .p (.sl 1 (strE wsS)), .p (int (5 : Nat)), .p (int (0 : Nat)), .any, .any, .any, .any, .any, .any, .any, .any, .any, .any, .any, .any, .any, .any, .any, .any, .any, .any, .any, .any, .any, .any, .any, .any, .any, .any, .any, .any, .any, .any, .any, .any, .any, .any, .any, .any, .any, .any, .any, .any, .any, .any, .any, .any, .any] [] (by simp only [ZZ, YY, Zd, ite_true, ite_false, forall_const, reduceCtorEq, Nat.reduceAdd, Nat.reduceMul, Nat.reduceLeDiff, Nat.reduceLT, Nat.reduceEqDiff, strE_len]; try trivial) (by (simp only [ZZ, YY, Zd, ite_true, ite_false, forall_const, reduceCtorEq, Nat.reduceAdd, Nat.reduceMul, Nat.reduceLeDiff, Nat.reduceLT, Nat.reduceEqDiff]; try trivial)) ⟨0, by omega, by omega, (fun j z hj => absurd hj (Nat.not_lt_zero _)), rfl, rfl⟩ ?_
  rintro n fr L ⟨k, hk, rfl, hn, rfl, rfl⟩
  simp only [ir_thread_mark_L0, ZZ, YY, Zd, ite_true, ite_false, forall_const, reduceCtorEq, Nat.reduceAdd, Nat.reduceMul, Nat.reduceLeDiff, Nat.reduceLT, Nat.reduceEqDiff]
  refine br ?_ ?_
  · intro h
    have hk5 : k < 5 := by have := of_decide_eq_true h; omega
    have hlt : k < wsS.length := hk5
    obtain ⟨x, hx⟩ : ∃ x, wsS[k]? = some x := ⟨_, List.getElem?_eq_getElem hlt⟩
    have hg := strE_get hx
    have hxl := wsS_len (List.mem_of_getElem? hx)
    simp only [ZZ, YY, Zd, ite_true, ite_false, forall_const, reduceCtorEq, Nat.reduceAdd, Nat.reduceMul, Nat.reduceLeDiff, Nat.reduceLT, Nat.reduceEqDiff, hg, strE_len]
    ((repeat' (with_reducible apply And.intro)) <;> try ((first | first | assumption | trivial | exact (fun hq => by rw [hq]; rfl) | exact i64_of (by omega) (by omega) | omega | (simp; done) | (simp; omega) | (intro hsc; have hs0 := hsc; (try have hsd := of_decide_eq_true hsc); (try simp only [Bool.not_eq_true', Bool.or_eq_false_iff, Bool.and_eq_true, Bool.or_eq_true, decide_eq_true_eq, decide_eq_false_iff_not] at hsc); (repeat' (with_reducible apply And.intro)) <;> (first | assumption | trivial | exact (fun hq => by rw [hq]; rfl) | exact i64_of (by omega) (by omega) | omega | (simp; done) | (simp; omega) | (intro hse; simp [hse, hs0]; done) | (intro hse; simp only [hse, hs0, Bool.true_and, Bool.and_true, Bool.not_false, Bool.not_true, Bool.and_self]; done))))))
    refine use1 (CutPrefix_ok (lowF s) x (by omega) (by omega)) rfl (.inl rfl) ?_
    simp only [ZZ, YY, Zd, ite_true, ite_false, forall_const, reduceCtorEq, Nat.reduceAdd, Nat.reduceMul, Nat.reduceLeDiff, Nat.reduceLT, Nat.reduceEqDiff]
    refine br ?_ ?_
    · intro hp
      have hp : ¬ Lib.hasPrefix (lowF s) x = true := by
        intro h; rw [cutPreF, if_pos h] at hp; cases hp
      simp only [ZZ, YY, Zd, ite_true, ite_false, forall_const, reduceCtorEq, Nat.reduceAdd, Nat.reduceMul, Nat.reduceLeDiff, Nat.reduceLT, Nat.reduceEqDiff]
      refine cut_same (by simp only [ZZ, YY, Zd, ite_true, ite_false, forall_const, reduceCtorEq, Nat.reduceAdd, Nat.reduceMul, Nat.reduceLeDiff, Nat.reduceLT, Nat.reduceEqDiff]) ?_
      simp only [ZZ, YY, Zd, ite_true, ite_false, forall_const, reduceCtorEq, Nat.reduceAdd, Nat.reduceMul, Nat.reduceLeDiff, Nat.reduceLT, Nat.reduceEqDiff]
      refine ⟨i64_of (by omega) (by omega), ?_⟩
      refine end_round (5 - (k + 1)) [.p (.str s), .any, .any, .any, .p (.str (lowF s)), .any, .any, .any, .any, .any, .any, .any, .any, .any, .p (.sl 1 (strE wsS)), .p (int (5 : Nat)), .p (int ((k + 1) : Nat)), .any, .any, .any, .any, .any, .any, .any, .any, .any, .any, .any, .any, .any, .any, .any, .any, .any, .any, .any, .any, .any, .any, .any, .any, .any, .any, .any, .any, .any, .any, .any, .any, .any, .any, .any, .any, .any, .any, .any, .any, .any, .any, .any, .any, .any] [] (by omega) (by (simp only [ZZ, YY, Zd, ite_true, ite_false, forall_const, reduceCtorEq, Nat.reduceAdd, Nat.reduceMul, Nat.reduceLeDiff, Nat.reduceLT, Nat.reduceEqDiff]; try trivial)) (by (simp only [ZZ, YY, Zd, ite_true, ite_false, forall_const, reduceCtorEq, Nat.reduceAdd, Nat.reduceMul, Nat.reduceLeDiff, Nat.reduceLT, Nat.reduceEqDiff]; try trivial)) ⟨k + 1, by omega, rfl, no_snoc hn hx (by rw [stepW, if_neg hp]), rfl, rfl⟩
    · intro hp
      have hp : Lib.hasPrefix (lowF s) x = true := by
        by_cases h : Lib.hasPrefix (lowF s) x = true
        · exact h
        · rw [cutPreF, if_neg h] at hp; cases hp
      rw [cutPreF, if_pos hp]
      have hst : stepW (lowF s) x = mkP ((lowF s).drop x.length) := by rw [stepW, if_pos hp]
      have hrl : ((lowF s).drop x.length).length ≤ s.length := by simp [lowF]
      generalize hr : (lowF s).drop x.length = r at *
      obtain ⟨hb1, hb2⟩ := brR_len r
      simp only [ZZ, YY, Zd, ite_true, ite_false, forall_const, reduceCtorEq, Nat.reduceAdd, Nat.reduceMul, Nat.reduceLeDiff, Nat.reduceLT, Nat.reduceEqDiff]
      refine use1 (bracketed_ok r (by omega)) rfl (.inl rfl) ?_
      simp only [ZZ, YY, Zd, ite_true, ite_false, forall_const, reduceCtorEq, Nat.reduceAdd, Nat.reduceMul, Nat.reduceLeDiff, Nat.reduceLT, Nat.reduceEqDiff]
      refine br_join (fun fr L => fr = [.p (.str s), .any, .any, .any, .p (.str (lowF s)), .any, .any, .p (.str (brR r)), .any, .any, .any, .any, .any, .any, .p (.sl 1 (strE wsS)), .p (int (5 : Nat)), .p (int (k : Nat)), .any, .any, .any, .any, .any, .any, .any, .any, .any, .any, .any, .any, .any, .any, .any, .any, .any, .any, .any, .any, .any, .any, .any, .any, .any, .any, .any, .any, .any, .any, .any, .any, .any, .any, .any, .any, .any, .any, .any, .any, .any, .any, .any, .any, .any] ∧ L = []) ?_ ?_ ?_
      · intro hb
        simp only [ZZ, YY, Zd, ite_true, ite_false, forall_const, reduceCtorEq, Nat.reduceAdd, Nat.reduceMul, Nat.reduceLeDiff, Nat.reduceLT, Nat.reduceEqDiff]
        refine ⟨⟨by omega, by omega⟩, ?_⟩
        rw [List.take_length, show List.drop (brF r) r = brR r from rfl]
        exact to_mid _ _ (by (simp only [ZZ, YY, Zd, ite_true, ite_false, forall_const, reduceCtorEq, Nat.reduceAdd, Nat.reduceMul, Nat.reduceLeDiff, Nat.reduceLT, Nat.reduceEqDiff]; try trivial)) (by simp only [ZZ, YY, Zd, ite_true, ite_false, forall_const, reduceCtorEq, Nat.reduceAdd, Nat.reduceMul, Nat.reduceLeDiff, Nat.reduceLT, Nat.reduceEqDiff]) ⟨rfl, rfl⟩
      · intro hb
        have hb0 : brR r = r := by
          have : brF r = 0 := by simpa using hb
          rw [brR, this, List.drop_zero]
        simp only [ZZ, YY, Zd, ite_true, ite_false, forall_const, reduceCtorEq, Nat.reduceAdd, Nat.reduceMul, Nat.reduceLeDiff, Nat.reduceLT, Nat.reduceEqDiff]
        rw [hb0]
        exact to_mid _ _ (by (simp only [ZZ, YY, Zd, ite_true, ite_false, forall_const, reduceCtorEq, Nat.reduceAdd, Nat.reduceMul, Nat.reduceLeDiff, Nat.reduceLT, Nat.reduceEqDiff]; try trivial)) (by simp only [ZZ, YY, Zd, ite_true, ite_false, forall_const, reduceCtorEq, Nat.reduceAdd, Nat.reduceMul, Nat.reduceLeDiff, Nat.reduceLT, Nat.reduceEqDiff]) ⟨rfl, rfl⟩
      rintro fr L ⟨rfl, rfl⟩
      simp only [ZZ, YY, Zd, ite_true, ite_false, forall_const, reduceCtorEq, Nat.reduceAdd, Nat.reduceMul, Nat.reduceLeDiff, Nat.reduceLT, Nat.reduceEqDiff]
      refine use1 (HasPrefix_ok (brR r) [58]) rfl (.inl rfl) ?_
      simp only [ZZ, YY, Zd, ite_true, ite_false, forall_const, reduceCtorEq, Nat.reduceAdd, Nat.reduceMul, Nat.reduceLeDiff, Nat.reduceLT, Nat.reduceEqDiff]
      refine br ?_ ?_
      · intro hh
        obtain ⟨q, hq⟩ := (hp1 _ _).1 hh
        have hm : mkP r = some q := by rw [mkP, if_pos hh, hq]; rfl
        have hF : markF s = (s.length - q.length, 1) := by rw [markF, findSome_get hn hx (hst.trans hm)]
        have hql : q.length + 1 ≤ r.length := (mkP_len hm).1
        rw [hq]
        simp only [ZZ, YY, Zd, ite_true, ite_false, forall_const, reduceCtorEq, Nat.reduceAdd, Nat.reduceMul, Nat.reduceLeDiff, Nat.reduceLT, Nat.reduceEqDiff]
        rw [hF]
        have e1 : (s.length : Int) - ((q.length + 1 : Nat) : Int) + 1 = ((s.length - q.length : Nat) : Int) := by omega
        simp only [ZZ, YY, Zd, ite_true, ite_false, forall_const, reduceCtorEq, Nat.reduceAdd, Nat.reduceMul, Nat.reduceLeDiff, Nat.reduceLT, Nat.reduceEqDiff, e1]
        ((repeat' (with_reducible apply And.intro)) <;> try ((first | first | assumption | trivial | exact (fun hq => by rw [hq]; rfl) | exact i64_of (by omega) (by omega) | omega | (simp; done) | (simp; omega) | (intro hsc; have hs0 := hsc; (try have hsd := of_decide_eq_true hsc); (try simp only [Bool.not_eq_true', Bool.or_eq_false_iff, Bool.and_eq_true, Bool.or_eq_true, decide_eq_true_eq, decide_eq_false_iff_not] at hsc); (repeat' (with_reducible apply And.intro)) <;> (first | assumption | trivial | exact (fun hq => by rw [hq]; rfl) | exact i64_of (by omega) (by omega) | omega | (simp; done) | (simp; omega) | (intro hse; simp [hse, hs0]; done) | (intro hse; simp only [hse, hs0, Bool.true_and, Bool.and_true, Bool.not_false, Bool.not_true, Bool.and_self]; done))))))
      · intro hh
        have hm : mkP r = none := by rw [mkP, if_neg (by simp [hh])]
        simp only [ZZ, YY, Zd, ite_true, ite_false, forall_const, reduceCtorEq, Nat.reduceAdd, Nat.reduceMul, Nat.reduceLeDiff, Nat.reduceLT, Nat.reduceEqDiff]
        refine cut_same (by simp only [ZZ, YY, Zd, ite_true, ite_false, forall_const, reduceCtorEq, Nat.reduceAdd, Nat.reduceMul, Nat.reduceLeDiff, Nat.reduceLT, Nat.reduceEqDiff]) ?_
        simp only [ZZ, YY, Zd, ite_true, ite_false, forall_const, reduceCtorEq, Nat.reduceAdd, Nat.reduceMul, Nat.reduceLeDiff, Nat.reduceLT, Nat.reduceEqDiff]
        refine ⟨i64_of (by omega) (by omega), ?_⟩
        refine end_round (5 - (k + 1)) [.p (.str s), .any, .any, .any, .p (.str (lowF s)), .any, .any, .any, .any, .any, .any, .any, .any, .any, .p (.sl 1 (strE wsS)), .p (int (5 : Nat)), .p (int ((k + 1) : Nat)), .any, .any, .any, .any, .any, .any, .any, .any, .any, .any, .any, .any, .any, .any, .any, .any, .any, .any, .any, .any, .any, .any, .any, .any, .any, .any, .any, .any, .any, .any, .any, .any, .any, .any, .any, .any, .any, .any, .any, .any, .any, .any, .any, .any, .any] [] (by omega) (by (simp only [ZZ, YY, Zd, ite_true, ite_false, forall_const, reduceCtorEq, Nat.reduceAdd, Nat.reduceMul, Nat.reduceLeDiff, Nat.reduceLT, Nat.reduceEqDiff]; try trivial)) (by (simp only [ZZ, YY, Zd, ite_true, ite_false, forall_const, reduceCtorEq, Nat.reduceAdd, Nat.reduceMul, Nat.reduceLeDiff, Nat.reduceLT, Nat.reduceEqDiff]; try trivial)) ⟨k + 1, by omega, rfl, no_snoc hn hx (hst.trans hm), rfl, rfl⟩
  · intro h
    have hge : k = 5 := by have := of_decide_eq_false h; omega
    subst hge
    have hF : markF s = match bkF s with | some r => (s.length - r.length, 0) | none => (0, 0) := by rw [markF, findSome_no hn]
    simp only [ZZ, YY, Zd, ite_true, ite_false, forall_const, reduceCtorEq, Nat.reduceAdd, Nat.reduceMul, Nat.reduceLeDiff, Nat.reduceLT, Nat.reduceEqDiff]
    refine use1 (HasPrefix_ok s [91]) rfl (.inl rfl) ?_
    simp only [ZZ, YY, Zd, ite_true, ite_false, forall_const, reduceCtorEq, Nat.reduceAdd, Nat.reduceMul, Nat.reduceLeDiff, Nat.reduceLT, Nat.reduceEqDiff]
    refine br ?_ ?_
    · intro hp
      obtain ⟨t, rfl⟩ := (hp1 _ _).1 hp
      have hbk : bkF (91 :: t) = bkP t := by rw [bkF, if_pos hp]; rfl
      have hbs : bkP t = if (0 ≤ Lib.indexAny t [91, 93] ∧ Lib.indexAny t [91, 93] ≤ 20) ∧ t.getD (Lib.indexAny t [91, 93]).toNat 0 = 93 then some (t.drop ((Lib.indexAny t [91, 93]).toNat + 1)) else none := rfl
      have hil : Lib.indexAny t [91, 93] < t.length ∧ -1 ≤ Lib.indexAny t [91, 93] := by
        refine ⟨?_, Lib.indexAny_ge _ _⟩
        rcases ia_cases t [91, 93] with ⟨h, _⟩ | ⟨a, x, b, h, _, _, h3⟩
        · rw [h]; omega
        · rw [h3, h]; simp; omega
      rw [hF, hbk, hbs]
      have htl : t.length ≤ 900000000 := by simp at hs; omega
      simp only [ZZ, YY, Zd, ite_true, ite_false, forall_const, reduceCtorEq, Nat.reduceAdd, Nat.reduceMul, Nat.reduceLeDiff, Nat.reduceLT, Nat.reduceEqDiff]
      refine ⟨⟨by omega, by omega⟩, ?_⟩
      rw [show List.drop (Int.toNat 1) (91 :: List.take t.length t) = t from by simp]
      refine use1 (IndexAny_ok t [91, 93] (by omega) (by decide) (by decide)) rfl (.inl rfl) ?_
      generalize Lib.indexAny t [91, 93] = j at *
      simp only [ZZ, YY, Zd, ite_true, ite_false, forall_const, reduceCtorEq, Nat.reduceAdd, Nat.reduceMul, Nat.reduceLeDiff, Nat.reduceLT, Nat.reduceEqDiff]
      refine use1 (In_ok j 0 20) rfl (.inl rfl) ?_
      simp only [ZZ, YY, Zd, ite_true, ite_false, forall_const, reduceCtorEq, Nat.reduceAdd, Nat.reduceMul, Nat.reduceLeDiff, Nat.reduceLT, Nat.reduceEqDiff]
      have hin : inE j 0 20 = true → 0 ≤ j ∧ j ≤ 20 := by intro h; simp only [inE, Bool.and_eq_true, decide_eq_true_eq] at h; exact h
      refine ⟨fun hi => ⟨hi, by have := hin hi; exact i64_of (by omega) (by omega)⟩, fun hi => ⟨hi, hi, by have := hin hi; omega, by have := hin hi; omega⟩, ?_⟩
      have hgd : 0 ≤ j → (91 :: t).getD (1 + j).toNat 0 = t.getD j.toNat 0 := by
        intro h
        rw [show (1 + j).toNat = j.toNat + 1 from by omega]
        rfl
      refine br ?_ ?_
      · intro hb
        simp only [Bool.and_eq_true, decide_eq_true_eq] at hb
        have h0 := hin hb.1
        have hc : t.getD j.toNat 0 = 93 := by rw [← hgd h0.1]; exact UInt8.toNat_inj.1 (show _ = 93 from by have := hb.2; omega)
        rw [if_pos ⟨h0, hc⟩]
        have e1 : j + 2 = ((t.length + 1 - (t.drop (j.toNat + 1)).length : Nat) : Int) := by rw [List.length_drop]; omega
        simp only [ZZ, YY, Zd, ite_true, ite_false, forall_const, reduceCtorEq, Nat.reduceAdd, Nat.reduceMul, Nat.reduceLeDiff, Nat.reduceLT, Nat.reduceEqDiff]
        refine ⟨i64_of (by omega) (by omega), ?_⟩
        rw [e1]
        rfl
      · intro hb
        rw [if_neg]
        · simp only [ZZ, YY, Zd, ite_true, ite_false, forall_const, reduceCtorEq, Nat.reduceAdd, Nat.reduceMul, Nat.reduceLeDiff, Nat.reduceLT, Nat.reduceEqDiff]
          refine cut_same (by simp only [ZZ, YY, Zd, ite_true, ite_false, forall_const, reduceCtorEq, Nat.reduceAdd, Nat.reduceMul, Nat.reduceLeDiff, Nat.reduceLT, Nat.reduceEqDiff]) ?_
          simp only [ZZ, YY, Zd, ite_true, ite_false, forall_const, reduceCtorEq, Nat.reduceAdd, Nat.reduceMul, Nat.reduceLeDiff, Nat.reduceLT, Nat.reduceEqDiff]
          rfl
        · rintro ⟨h0, hc⟩
          rw [hgd h0.1, hc, show inE j 0 20 = true from by simp only [inE, Bool.and_eq_true, decide_eq_true_eq]; exact h0] at hb
          exact absurd hb (by decide)
    · intro hp
      have hbk : bkF s = none := by rw [bkF, if_neg (by simp [hp])]
      rw [hF, hbk]
      simp only [ZZ, YY, Zd, ite_true, ite_false, forall_const, reduceCtorEq, Nat.reduceAdd, Nat.reduceMul, Nat.reduceLeDiff, Nat.reduceLT, Nat.reduceEqDiff]
      refine cut_same (by simp only [ZZ, YY, Zd, ite_true, ite_false, forall_const, reduceCtorEq, Nat.reduceAdd, Nat.reduceMul, Nat.reduceLeDiff, Nat.reduceLT, Nat.reduceEqDiff]) ?_
      simp only [ZZ, YY, Zd, ite_true, ite_false, forall_const, reduceCtorEq, Nat.reduceAdd, Nat.reduceMul, Nat.reduceLeDiff, Nat.reduceLT, Nat.reduceEqDiff]
      rfl
end
end Go.Proofs.YtndjmidmfmcbkaaDoor

/- strings.Builder at this cut, with the exact blocks that change: turned from the library's own walks (Derived/Shelf/Strings: Builder1, Builder2) to this program. -/
namespace Go.Proofs.YtndjmidmfmcbkaaDoor
open Go.RowKit
set_option linter.unusedVariables false
set_option linter.unusedSimpArgs false
set_option linter.defProp false

theorem b_info : (Tryd.prog.info? 5).map (fun i => (i.zero, i.size, i.bytes)) = some (some (.int .u8 0), 1, 1) := by kernel_rfl
theorem b_sizeB : (Tryd.prog.info? 124).map (·.size) = some 2 := by kernel_rfl
theorem b_liesB : liesAt Tryd.prog Tryd.prog.depth 124 (2 / Tryd.prog.cellsOf 124) 0 124 1 = true := by kernel_rfl
theorem b_usNone (W : World) (q : Option Addr) : (Builtin.unsafeString_ #[174, 3] 9 #[.pointer q, .int .i64 0]).run Tryd.prog W = .ok (.string .empty) W := Lib.run_unsafeString_none W _ _ _ q
theorem b_mixed : Tryd.prog.follows .mixedOrders = true := by kernel_rfl
theorem b_cells : Tryd.prog.cellsOf 5 = 1 := by kernel_rfl
theorem b_size : (Tryd.prog.info? 5).map (·.size) = some 1 := by kernel_rfl
abbrev tSb : TypeId := 124
abbrev tU8 : TypeId := 5

set_option maxHeartbeats 1000000 in
set_option maxRecDepth 100000 in
theorem b_ccUsed (b : Nat) (w : World) (h0 : w.cell? ⟨b, 0, none⟩ = some (.pointer (some ⟨b, 0, none⟩))) :
    Calls Tryd.prog 132 #[.pointer (some ⟨b, 0, none⟩)] w fun e w' => e = .returned (.tuple #[]) ∧ w' = w := by
  obtain ⟨j, hj, _⟩ := Option.map_eq_some_iff.1 b_sizeB
  go_enter Tryd.func132, Tryd.ntmps132
  go_wp2
  rw [Lib.run_neq_ptr_same w _ Tryd.underlying121 hj]
  go_wp2
  go_end0
  exact ⟨rfl, rfl⟩

set_option maxHeartbeats 1000000 in
set_option maxRecDepth 100000 in
theorem b_ccFresh (b : Nat) (w : World) (h0 : w.cell? ⟨b, 0, none⟩ = some (.pointer none)) (hsh : w.shape? b = some (124, 2)) (hfz : w.frozen? ⟨b, 0, none⟩ = false) :
    Calls Tryd.prog 132 #[.pointer (some ⟨b, 0, none⟩)] w fun e w' => e = .returned (.tuple #[]) ∧ w' = w.setCell ⟨b, 0, none⟩ (.pointer (some ⟨b, 0, none⟩)) := by
  obtain ⟨j, hj, hjs⟩ := Option.map_eq_some_iff.1 b_sizeB
  go_enter Tryd.func132, Tryd.ntmps132
  go_wp2
  rw [Lib.run_to_unsafe w ⟨b, 0, none⟩ Tryd.underlying121 Tryd.underlying188 hj (by rw [hjs]; decide) hsh (Nat.zero_lt_succ 1)]
  simp only [Result.andThen]
  rw [Oper.upon_value]
  go_wp2
  rw [run_callFunc_extern Tryd.func166 (by kernel_rfl) (by kernel_rfl) (by kernel_rfl) (e := Extern.AbiNoEscape.same) (by kernel_rfl)]
  rw [Lib.run_noEscape]
  simp only [Result.andThen]
  rw [Oper.upon_value]
  go_wp2
  rw [Lib.run_from_unsafe w ⟨b, 0, none⟩ Tryd.underlying188 Tryd.underlying121 hj hsh b_liesB]
  simp only [Result.andThen]
  rw [Oper.upon_value]
  go_wp2
  go_end0
  exact ⟨rfl, rfl⟩

theorem b_cc (b : Nat) (bs : List Value) (w : World) (h : Lib.IsBuilder 124 5 0 b bs w) :
    Calls Tryd.prog 132 #[.pointer (some ⟨b, 0, none⟩)] w fun e w' => e = .returned (.tuple #[]) ∧ CcPost 124 5 b bs w w' := by
  rcases h with h | h
  · refine (b_ccFresh b w h.cell0 h.shape h.frozen0).mono ?_
    rintro e w' ⟨rfl, rfl⟩
    exact ⟨rfl, ccpost_fresh h⟩
  · refine (b_ccUsed b w h.cell0).mono ?_
    rintro e w' ⟨rfl, rfl⟩
    exact ⟨rfl, ccpost_used h⟩

set_option maxHeartbeats 2000000 in
set_option maxRecDepth 100000 in
theorem sb_WriteString (b : Nat) (s t : List UInt8) (w : World) (h : Lib.IsBuilder 124 5 0 b (Lib.byteCells s) w) (hlen : s.length + t.length ≤ 140737488355328) :
    Calls Tryd.prog 90 #[.pointer (some ⟨b, 0, none⟩), .string ⟨t.toArray⟩] w fun e w' => e = .returned (.tuple #[.int .i64 t.length, .nilIface]) ∧ SbPost 124 5 b (s ++ t) w w' := by
  obtain ⟨i0, hi, hz0, hz1, hz2⟩ := info_parts b_info
  have hsz : (⟨t.toArray⟩ : ByteArray).size = t.length := by simp [ByteArray.size]
  have hcl : Lib.strCells ⟨t.toArray⟩ = Lib.byteCells t := by simp [Lib.strCells, Lib.byteCells]
  generalize hst : (⟨t.toArray⟩ : ByteArray) = st at hsz hcl ⊢
  rw [← hsz] at hlen ⊢
  go_enter Tryd.func90, Tryd.ntmps90
  go_wp2_with (go_at_call 132; refine (b_cc b _ _ h).mono ?_)
  rintro e w1 ⟨rfl, v, hbk, hown, hne, hG1, hbf⟩
  rw [Lib.byteCells_length] at hown
  have c0 : w1.cell? ⟨b, 0, none⟩ = some (.pointer (some ⟨b, 0, none⟩)) := by rw [Lib.cell_of_heap hbk]; rfl
  have c1 : w1.cell? ⟨b, 1, none⟩ = some v := by rw [Lib.cell_of_heap hbk]; rfl
  go_wp2_with (at_builtin; refine wpList_app_str rfl _ _ 122 9 rfl 0 5 i0 Tryd.underlying122 Tryd.underlying9 hi hz0 hz1 hz2 _ _ _ rfl hown st rfl (by unfold maxLen; omega) (by omega) (Nat.zero_le _) ?_)
  intro v' w2 hown' hgrow hat
  have hlt := lt_of_heap hbk
  have hb2 : w2.heap[b]? = some (.cells #[.pointer (some ⟨b, 0, none⟩), v] 124 (0, 0)) := by
    rw [hgrow.block b hlt (fun e => hne e.symm)]
    exact hbk
  have d0 : w2.cell? ⟨b, 0, none⟩ = some (.pointer (some ⟨b, 0, none⟩)) := by rw [Lib.cell_of_heap hb2]; rfl
  have d1 : w2.cell? ⟨b, 1, none⟩ = some v := by rw [Lib.cell_of_heap hb2]; rfl
  have f1 : w2.frozen? ⟨b, 1, none⟩ = false := Lib.frozen_of_heap hb2 1
  have hP : SbPost 124 5 b (s ++ t) w (w2.setCell ⟨b, 1, none⟩ v') :=
    sbpost_mk (by decide) hG1 hbf hbk hgrow hne hat (by first | (rw [hcl, hsz] at hown'; simpa [Lib.byteCells] using hown') | simpa [Lib.byteCells] using hown')
  obtain ⟨ao, n', cap, rfl⟩ : ∃ ao n' cap, v' = .slice ao n' cap := by
    rcases hown'.2 with ⟨hv, _⟩ | ⟨g, cap, cur, hv, _⟩
    · exact ⟨_, _, _, hv⟩
    · exact ⟨_, _, _, hv⟩
  go_wp2
  go_ret2
  exact ⟨by first | rfl | (rw [hsz]; rfl), hP⟩

end Go.Proofs.YtndjmidmfmcbkaaDoor

/- strings.Builder at this cut, its string, its length, its growth: turned from the library's own walks (Derived/Shelf/Strings: Builder1, Builder2) to this program. -/
namespace Go.Proofs.YtndjmidmfmcbkaaDoor
open Go.RowKit
set_option linter.unusedVariables false
set_option linter.unusedSimpArgs false
set_option linter.defProp false

set_option maxHeartbeats 1000000 in
set_option maxRecDepth 100000 in
theorem b_String (B b : Nat) (l : List UInt8) (w : World) (h : Lib.IsBuilder 124 5 B b (Lib.byteCells l) w) (h0 : l ≠ []) :
    Calls Tryd.prog 92 #[.pointer (some ⟨b, 0, none⟩)] w fun e w' => e = .returned (.string ⟨l.toArray⟩) ∧ Grow w w' (fun x => x = b ∨ bufOf w 124 b x) := by
  obtain ⟨p, hB, v, hbk, hown, hne⟩ : ∃ p, Lib.BuilderAt 124 5 B b p (Lib.byteCells l) w := by
    rcases h with h | h
    · exact ⟨_, h⟩
    · exact ⟨_, h⟩
  have hl0 : l.length ≠ 0 := by simpa using h0
  rw [Lib.byteCells_length] at hown
  obtain ⟨g, cap, cur, rfl, hbg, hg, hnc, hcm, hcs, htake⟩ : ∃ g cap cur, v = .slice (some ⟨g, 0, none⟩) l.length cap ∧ B ≤ g ∧ w.heap[g]? = some (.cells cur 5 (0, 0)) ∧ l.length ≤ cap ∧ cap ≤ maxLen ∧ cur.size = cap * 1 ∧ cur.toList.take (l.length * 1) = Lib.byteCells l := by
    rcases hown.2 with ⟨_, hz⟩ | ⟨g, cap, cur, hv, r⟩
    · exact absurd hz hl0
    · exact ⟨g, cap, cur, hv, r⟩
  have c1 : w.drew.cell? ⟨b, 1, none⟩ = some (.slice (some ⟨g, 0, none⟩) l.length cap) := by
    have : w.drew.heap[b]? = some (.cells #[p, .slice (some ⟨g, 0, none⟩) l.length cap] 124 (0, 0)) := hbk
    rw [Lib.cell_of_heap this]; rfl
  have hSD : (Builtin.unsafeSliceData_ #[122] 174 #[.slice (some ⟨g, 0, none⟩) l.length cap]).run Tryd.prog w.drew = .ok (.pointer (some ⟨g, 0, none⟩)) w.drew :=
    Lib.run_unsafeSliceData_row _ _ _ _ _ _ (by omega)
  have hUS : (Builtin.unsafeString_ #[174, 3] 9 #[.pointer (some ⟨g, 0, none⟩), .int .i64 l.length]).run Tryd.prog w.drew = .ok (.string ⟨l.toArray⟩) (w.drew.freeze ⟨g, 0, none⟩ l.length) := by
    refine Lib.run_unsafeString_row w.drew 174 3 9 5 Tryd.underlying174 b_cells g cur.size (by have hg' : w.drew.heap[g]? = some (.cells cur 5 (0, 0)) := hg; simp [World.shape?, hg']) l h0 (by omega) (by unfold maxLen at hcm; omega) ?_
    intro j x hx
    have := hown.cells (g := g) rfl j (.int .u8 x.toNat) (by simp [Lib.byteCells, hx])
    exact this
  have mixed := b_mixed
  go_enter Tryd.func92, Tryd.ntmps92
  go_wp2
  go_region_o
  all_goals (go_wp2; go_ret; exact ⟨rfl, grow_freeze (.inr ⟨_, _, hbk, rfl⟩)⟩)

set_option maxHeartbeats 2000000 in
set_option maxRecDepth 100000 in
theorem b_String_nil (B b : Nat) (p : Value) (w : World) (hbk : w.heap[b]? = some (.cells #[p, .slice none 0 0] 124 (0, 0))) :
    Calls Tryd.prog 92 #[.pointer (some ⟨b, 0, none⟩)] w fun e w' => e = .returned (.string ⟨#[]⟩) ∧ Grow w w' (fun x => x = b ∨ bufOf w 124 b x) := by
  have hUS := b_usNone
  have c1 : w.drew.cell? ⟨b, 1, none⟩ = some (.slice none 0 0) := by
    have : w.drew.heap[b]? = some (.cells #[p, .slice none 0 0] 124 (0, 0)) := hbk
    rw [Lib.cell_of_heap this]; rfl
  have hSD : (Builtin.unsafeSliceData_ #[122] 174 #[.slice none 0 0]).run Tryd.prog w.drew = .ok (.pointer none) w.drew := rfl
  have mixed := b_mixed
  go_enter Tryd.func92, Tryd.ntmps92
  go_wp2
  go_region_o
  all_goals (go_wp2; go_ret; exact ⟨rfl, (Grow.refl w _).drew⟩)

set_option maxHeartbeats 2000000 in
set_option maxRecDepth 100000 in
theorem b_String_noroom (B b g : Nat) (p : Value) (cur : Array Value) (w : World) (hBw : B ≤ w.heap.size) (hbk : w.heap[b]? = some (.cells #[p, .slice (some ⟨g, 0, none⟩) 0 0] 124 (0, 0))) (hg : w.heap[g]? = some (.cells cur 5 (0, 0))) :
    Calls Tryd.prog 92 #[.pointer (some ⟨b, 0, none⟩)] w fun e w' => e = .returned (.string ⟨#[]⟩) ∧ Grow w w' (fun x => x = b ∨ bufOf w 124 b x) := by
  have hUS := b_usNone
  have hlt : b < w.heap.size := by
    rcases Nat.lt_or_ge b w.heap.size with h' | h'
    · exact h'
    · simp [Array.getElem?_eq_none h'] at hbk
  have c1 : w.drew.cell? ⟨b, 1, none⟩ = some (.slice (some ⟨g, 0, none⟩) 0 0) := by
    have : w.drew.heap[b]? = some (.cells #[p, .slice (some ⟨g, 0, none⟩) 0 0] 124 (0, 0)) := hbk
    rw [Lib.cell_of_heap this]; rfl
  have hSD : (Builtin.unsafeSliceData_ #[122] 174 #[.slice (some ⟨g, 0, none⟩) 0 0]).run Tryd.prog w.drew = .ok (.pointer (some ⟨w.drew.heap.size, 0, none⟩)) (w.drew.alloc (.view ⟨g, 0, none⟩ 5)) :=
    Lib.run_unsafeSliceData_zero w.drew _ _ 5 Tryd.underlying174 ⟨g, 0, none⟩ 0 (5, cur.size) (by have hg' : w.drew.heap[g]? = some (.cells cur 5 (0, 0)) := hg; simp [World.shape?, hg'])
  have c2 : (w.drew.alloc (.view ⟨g, 0, none⟩ 5)).cell? ⟨b, 1, none⟩ = some (.slice (some ⟨g, 0, none⟩) 0 0) := by
    have : (w.drew.alloc (.view ⟨g, 0, none⟩ 5)).heap[b]? = _ := (Lib.alloc_old w.drew _ b hlt).trans hbk
    rw [Lib.cell_of_heap this]; rfl
  have c3 : (w.alloc (.view ⟨g, 0, none⟩ 5)).drew.cell? ⟨b, 1, none⟩ = some (.slice (some ⟨g, 0, none⟩) 0 0) := c2
  have c0 : w.cell? ⟨b, 1, none⟩ = some (.slice (some ⟨g, 0, none⟩) 0 0) := c1
  have mixed := b_mixed
  go_enter Tryd.func92, Tryd.ntmps92
  go_wp2
  go_region_o
  all_goals (go_wp2; go_ret; exact ⟨rfl, grow_alloc'⟩)

set_option maxHeartbeats 2000000 in
set_option maxRecDepth 100000 in
theorem b_String_room (B b g cap : Nat) (p : Value) (w : World) (hc0 : cap ≠ 0) (hbk : w.heap[b]? = some (.cells #[p, .slice (some ⟨g, 0, none⟩) 0 cap] 124 (0, 0))) :
    Calls Tryd.prog 92 #[.pointer (some ⟨b, 0, none⟩)] w fun e w' => e = .returned (.string ⟨#[]⟩) ∧ Grow w w' (fun x => x = b ∨ bufOf w 124 b x) := by
  have hUS := b_usNone
  have c1 : w.drew.cell? ⟨b, 1, none⟩ = some (.slice (some ⟨g, 0, none⟩) 0 cap) := by
    have : w.drew.heap[b]? = some (.cells #[p, .slice (some ⟨g, 0, none⟩) 0 cap] 124 (0, 0)) := hbk
    rw [Lib.cell_of_heap this]; rfl
  have hSD : (Builtin.unsafeSliceData_ #[122] 174 #[.slice (some ⟨g, 0, none⟩) 0 cap]).run Tryd.prog w.drew = .ok (.pointer (some ⟨g, 0, none⟩)) w.drew :=
    Lib.run_unsafeSliceData_row _ _ _ _ _ _ hc0
  clear hc0
  have mixed := b_mixed
  go_enter Tryd.func92, Tryd.ntmps92
  go_wp2
  go_region_o
  all_goals (go_wp2; go_ret; exact ⟨rfl, (Grow.refl w _).drew⟩)

theorem b_String_empty (B b : Nat) (w : World) (h : Lib.IsBuilder 124 5 B b [] w) (hBw : B ≤ w.heap.size) :
    Calls Tryd.prog 92 #[.pointer (some ⟨b, 0, none⟩)] w fun e w' => e = .returned (.string ⟨#[]⟩) ∧ Grow w w' (fun x => x = b ∨ bufOf w 124 b x) := by
  obtain ⟨p, hB, v, hbk, hown, hne⟩ : ∃ p, Lib.BuilderAt 124 5 B b p [] w := by
    rcases h with h | h
    · exact ⟨_, h⟩
    · exact ⟨_, h⟩
  rcases hown.2 with ⟨rfl, _⟩ | ⟨g, cap, cur, rfl, hbg, hg, _, _, _, _⟩
  · exact b_String_nil B b p w hbk
  · by_cases hc0 : cap = 0
    · subst hc0
      exact b_String_noroom B b g p cur w hBw hbk hg
    · exact b_String_room B b g cap p w hc0 hbk

theorem b_String_any (B b : Nat) (l : List UInt8) (w : World) (h : Lib.IsBuilder 124 5 B b (Lib.byteCells l) w) (hBw : B ≤ w.heap.size) :
    Calls Tryd.prog 92 #[.pointer (some ⟨b, 0, none⟩)] w fun e w' => e = .returned (.string ⟨l.toArray⟩) ∧ Grow w w' (fun x => x = b ∨ bufOf w 124 b x) := by
  cases l with
  | nil => exact b_String_empty B b w h hBw
  | cons x r => exact b_String B b (x :: r) w h (by simp)

set_option maxHeartbeats 2000000 in
set_option maxRecDepth 1000000 in
theorem b_grow_fresh (B b n : Nat) (w : World) (hB : B ≤ b) (hbk : w.heap[b]? = some (.cells #[.pointer (some ⟨b, 0, none⟩), .slice none 0 0] 124 (0, 0))) (hBw : B ≤ w.heap.size) (hn : n ≤ 281474976710656) :
    Calls Tryd.prog 133 #[.pointer (some ⟨b, 0, none⟩), .int .i64 n] w fun e w' => e = .returned (.tuple #[]) ∧ SbPost 124 5 b [] w w' := by
  obtain ⟨cs, hrun, hle, hmax⟩ := Lib.run_makeNoZero (P := Tryd.prog) w.drew #[3] 122 5 Tryd.underlying122 n hn
  have hw : IntKind.i64.wrap (IntKind.i64.wrap 0 + (n : Int)) = n := by
    rw [IntKind.wrap_i64, IntKind.wrap_i64]
    omega
  have hcall : (callFunc 167 #[.int .i64 (IntKind.i64.wrap (IntKind.i64.wrap 0 + (n : Int)))]).run Tryd.prog w.drew = .ok (.value (.slice (some ⟨w.drew.heap.size, 0, none⟩) n cs.size)) (w.drew.drew.drew.alloc (.cells cs 5)) := by
    rw [hw, run_callFunc_extern Tryd.func167 (by kernel_rfl) (by kernel_rfl) (by kernel_rfl) (e := Extern.BytealgMakeNoZero.makeNoZero #[3] #[122]) (by kernel_rfl), hrun]
    rfl
  have c1 : w.drew.cell? ⟨b, 1, none⟩ = some (.slice none 0 0) := by
    have : w.drew.heap[b]? = _ := hbk
    rw [Lib.cell_of_heap this]; rfl
  have c2 : (w.alloc (.cells cs 5)).cell? ⟨b, 1, none⟩ = some (.slice none 0 0) := by
    have hlt : b < w.heap.size := by
      rcases Nat.lt_or_ge b w.heap.size with h' | h'
      · exact h'
      · simp [Array.getElem?_eq_none h'] at hbk
    have : (w.alloc (.cells cs 5)).heap[b]? = _ := (Lib.alloc_old w _ b hlt).trans hbk
    rw [Lib.cell_of_heap this]; rfl
  have f2 : (w.alloc (.cells cs 5)).frozen? ⟨b, 1, none⟩ = false := by
    have hlt : b < w.heap.size := by
      rcases Nat.lt_or_ge b w.heap.size with h' | h'
      · exact h'
      · simp [Array.getElem?_eq_none h'] at hbk
    exact Lib.frozen_of_heap ((Lib.alloc_old w _ b hlt).trans hbk) 1
  have hcopy : ∀ W : World, (Builtin.copy_ #[122, 122] 3 #[.slice (some ⟨w.heap.size, 0, none⟩) 0 cs.size, .slice none 0 0]).run Tryd.prog W = .ok (goInt 0) W :=
    fun W => run_copy_none W 122 122 3 5 _ _ 0 cs.size 0 0 Tryd.underlying122 b_size rfl
  clear hw
  have mixed := b_mixed
  go_enter Tryd.func133, Tryd.ntmps133
  go_wp2
  have hfin := SbPost.of_grown (T := 124) (e := 5) (cs := cs) (by decide) hbk (hmax (by unfold maxLen; omega))
  go_region_o
  all_goals (go_wp2; go_end0; exact ⟨rfl, hfin⟩)

set_option maxHeartbeats 2000000 in
set_option maxRecDepth 1000000 in
theorem b_Grow_fresh (B b n : Nat) (w : World) (hB : B ≤ b) (hbk : w.heap[b]? = some (.cells #[.pointer none, .slice none 0 0] 124 (0, 0))) (hBw : B ≤ w.heap.size) (hn : n ≤ 281474976710656) :
    Calls Tryd.prog 89 #[.pointer (some ⟨b, 0, none⟩), .int .i64 n] w fun e w' => e = .returned (.tuple #[]) ∧ SbPost 124 5 b [] w w' := by
  have hbk1 : (w.setCell ⟨b, 0, none⟩ (.pointer (some ⟨b, 0, none⟩))).heap[b]? = some (.cells #[.pointer (some ⟨b, 0, none⟩), .slice none 0 0] 124 (0, 0)) := by
    simp [World.setCell, Array.getElem?_modify, hbk]
  have c1 : (w.setCell ⟨b, 0, none⟩ (.pointer (some ⟨b, 0, none⟩))).cell? ⟨b, 1, none⟩ = some (.slice none 0 0) := by rw [Lib.cell_of_heap hbk1]; rfl
  have mixed := b_mixed
  go_enter Tryd.func89, Tryd.ntmps89
  have c1' : (w.setCell ⟨b, 0, none⟩ (.pointer (some ⟨b, 0, none⟩))).drew.cell? ⟨b, 1, none⟩ = some (.slice none 0 0) := c1
  go_wp2_with (go_at_call 132; refine (b_ccFresh b w (by rw [Lib.cell_of_heap hbk]; rfl) (by simp [World.shape?, hbk]) (Lib.frozen_of_heap hbk 0)).mono ?_; rintro e w' ⟨rfl, rfl⟩)
  go_region_o
  all_goals go_wp2_with (go_at_call 133; refine (b_grow_fresh B b n (w.setCell ⟨b, 0, none⟩ (.pointer (some ⟨b, 0, none⟩))).drew hB hbk1 (by simpa [World.setCell, World.drew, -World.drew_eq] using hBw) hn).mono ?_; rintro e w' ⟨rfl, h1⟩)
  all_goals first
    | (go_end0; exact ⟨rfl, SbPost.behind hbk h1⟩)
    | (go_end0; exact ⟨rfl, SbPost.of_used hbk⟩)

end Go.Proofs.YtndjmidmfmcbkaaDoor

/- strings.Builder at calls of the layer; strings.Join. -/
namespace Go.Proofs.YtndjmidmfmcbkaaDoor
open Go.RowKit
set_option linter.unusedVariables false
set_option linter.unusedSimpArgs false
set_option linter.defProp false

/- strings.Join -/
def ir_strings_Join_L1 : IC :=
  (.seq (.reg [⟨some 66, .bin .lss (.t 65) (.t 64), none⟩])
    (.seq (.cond (.t 66) .skip (.exit 3))
    (.seq (.block 4 (.seq (.reg [⟨some 67, .ixa 1 (.t 63) (.t 65), none⟩,
      ⟨some 68, .ld 1 false (.t 67), none⟩,
      ⟨some 10, .mov (.t 68), none⟩])
    (.seq (.reg [⟨some 69, .mov (.t 1), none⟩,
      ⟨some 70, .call 90 [.t 8, .t 69], none⟩])
    (.reg [⟨some 71, .mov (.t 10), none⟩,
      ⟨some 72, .call 90 [.t 8, .t 71], none⟩]))))
    (.reg [⟨some 73, .bin .add (.t 65) (.c (.int .i64 1)), none⟩,
      ⟨some 65, .mov (.t 73), none⟩]))))
def ir_strings_Join_L0 : IC :=
  (.seq (.reg [⟨some 42, .bin .lss (.t 41) (.t 40), none⟩])
    (.seq (.cond (.t 42) .skip (.exit 1))
    (.seq (.block 2 (.seq (.reg [⟨some 43, .ixa 1 (.t 39) (.t 41), none⟩,
      ⟨some 44, .ld 1 false (.t 43), none⟩,
      ⟨some 7, .mov (.t 44), none⟩])
    (.seq (.seq (.reg [⟨some 45, .mov (.t 7), none⟩,
      ⟨some 46, .sln (.t 45), none⟩,
      ⟨some 47, .mov (.t 5), none⟩,
      ⟨some 48, .bin .sub (.c (.int .i64 9223372036854775807)) (.t 47), none⟩,
      ⟨some 49, .bin .gtr (.t 46) (.t 48), none⟩])
    (.cond (.t 49) (.reg [⟨some 50, .dead, none⟩,
      ⟨none, .dead, none⟩]) .skip))
    (.cut (.reg [⟨some 51, .mov (.t 5), none⟩,
      ⟨some 52, .mov (.t 7), none⟩,
      ⟨some 53, .sln (.t 52), none⟩,
      ⟨some 54, .bin .add (.t 51) (.t 53), none⟩,
      ⟨some 5, .mov (.t 54), none⟩])))))
    (.reg [⟨some 55, .bin .add (.t 41) (.c (.int .i64 1)), none⟩,
      ⟨some 41, .mov (.t 55), none⟩]))))
def ir_strings_Join : IC :=
  (.seq (.reg [⟨some 4, .mov (.c (.str [])), none⟩])
    (.seq (.seq (.reg [⟨some 11, .mov (.t 0), none⟩,
      ⟨some 12, .len (.t 11), none⟩])
    (.block 0 (.seq (.reg [⟨some 14, .bin .eql (.t 12) (.c (.int .i64 0)), none⟩,
      ⟨some 13, .mov (.t 14), none⟩])
    (.cond (.t 13) (.seq (.reg [⟨some 4, .mov (.c (.str [])), none⟩])
    .ret) (.seq (.reg [⟨some 16, .bin .eql (.t 12) (.c (.int .i64 1)), none⟩,
      ⟨some 15, .mov (.t 16), none⟩])
    (.cond (.t 15) (.seq (.reg [⟨some 17, .mov (.t 0), none⟩,
      ⟨some 18, .ixa 1 (.t 17) (.c (.int .i64 0)), none⟩,
      ⟨some 19, .ld 1 false (.t 18), none⟩,
      ⟨some 4, .mov (.t 19), none⟩])
    .ret) .skip))))))
    (.seq (.reg [⟨some 5, .mov (.c (.int .i64 0)), none⟩])
    (.seq (.seq (.reg [⟨some 20, .mov (.t 1), none⟩,
      ⟨some 21, .sln (.t 20), none⟩,
      ⟨some 22, .bin .gtr (.t 21) (.c (.int .i64 0)), none⟩])
    (.cond (.t 22) (.seq (.seq (.reg [⟨some 23, .mov (.t 1), none⟩,
      ⟨some 24, .sln (.t 23), none⟩,
      ⟨some 25, .mov (.t 0), none⟩,
      ⟨some 26, .len (.t 25), none⟩,
      ⟨some 27, .bin .sub (.t 26) (.c (.int .i64 1)), none⟩,
      ⟨some 28, .bin .quo (.c (.int .i64 9223372036854775807)) (.t 27), none⟩,
      ⟨some 29, .bin .geq (.t 24) (.t 28), none⟩])
    (.cond (.t 29) (.reg [⟨some 30, .dead, none⟩,
      ⟨none, .dead, none⟩]) .skip))
    (.cut (.reg [⟨some 31, .mov (.t 5), none⟩,
      ⟨some 32, .mov (.t 1), none⟩,
      ⟨some 33, .sln (.t 32), none⟩,
      ⟨some 34, .mov (.t 0), none⟩,
      ⟨some 35, .len (.t 34), none⟩,
      ⟨some 36, .bin .sub (.t 35) (.c (.int .i64 1)), none⟩,
      ⟨some 37, .bin .mul (.t 33) (.t 36), none⟩,
      ⟨some 38, .bin .add (.t 31) (.t 37), none⟩,
      ⟨some 5, .mov (.t 38), none⟩]))) .skip))
    (.cut (.seq (.seq (.reg [⟨some 39, .mov (.t 0), none⟩,
      ⟨some 40, .len (.t 39), none⟩,
      ⟨some 41, .mov (.c (.int .i64 0)), none⟩])
    (.block 1 (.loop ir_strings_Join_L0)))
    (.seq (.reg [⟨some 8, .alc 124 [.raw (.pointer none), .nl 1], none⟩])
    (.seq (.reg [⟨some 56, .mov (.t 5), none⟩,
      ⟨some 57, .call 89 [.t 8, .t 56], none⟩])
    (.seq (.reg [⟨some 58, .mov (.t 0), none⟩,
      ⟨some 59, .ixa 1 (.t 58) (.c (.int .i64 0)), none⟩,
      ⟨some 60, .ld 1 false (.t 59), none⟩,
      ⟨some 61, .call 90 [.t 8, .t 60], none⟩])
    (.seq (.seq (.reg [⟨some 62, .mov (.t 0), none⟩,
      ⟨some 63, .vsl 1 (.t 62) (some (.c (.int .i64 1))) none, none⟩,
      ⟨some 64, .len (.t 63), none⟩,
      ⟨some 65, .mov (.c (.int .i64 0)), none⟩])
    (.block 3 (.loop ir_strings_Join_L1)))
    (.seq (.reg [⟨some 74, .call 92 [.t 8], none⟩,
      ⟨some 4, .mov (.t 74), none⟩])
    .ret)))))))))))
def rs_strings_Join : List IRes := [.t 4]
theorem ck_strings_Join : chkF Tryd.prog Tryd.f44 ir_strings_Join rs_strings_Join 75 = true := by kernel_rfl


section
variable {E : Envt} {L : Objs} {k : Key} {i : Nat} {fr : List AV} {d : Option Nat} {is : List IOper} {Y : List PV} {K : List AV → Objs → Prop}
theorem useBS (i : Nat) (s t : List UInt8) (hat : SbAt L k i tSb tU8 s) (hki : k ≠ .l i) (hlen : s.length + t.length ≤ 140737488355328)
    (hk : awpOps Tryd.prog E Y is (Zf (fr.map (·.kill (.l i))) d (.p (.tup [int (t.length : Nat), .raw .nilIface]))) (putSb L k i tSb tU8 (s ++ t)) K) : CallOp Tryd.prog E 90 [.adr k 0, .p (.str t)] L d fr (contO Tryd.prog E Y is K) :=
  useW (vr := [.string ⟨t.toArray⟩]) (x := .tup [int (t.length : Nat), .raw .nilIface]) (v := .tuple #[.int .i64 t.length, .nilIface]) i tSb tU8 s (s ++ t) hat hki (fun w U ι vs h => by obtain ⟨v, r, rfl, h1, h2⟩ := h; simp only [ARep, PRep, ARepL] at h1 h2; rw [h1, h2]) (fun w U => ⟨[_, _], rfl, _, _, rfl, rfl, _, _, rfl, ⟨rfl, rfl⟩, rfl⟩)
    (fun b w h _ => sb_WriteString b s t w h hlen) hk
theorem useBG (i : Nat) (n : Nat) (hat : SbAt L k i tSb tU8 []) (hf : Zar L k = some (.box [.p nilP, .p (.nl 1)] tSb)) (hki : k ≠ .l i) (hn : n ≤ 281474976710656)
    (hk : awpOps Tryd.prog E Y is (Zf (fr.map (·.kill (.l i))) d (.p (.tup []))) (putSb L k i tSb tU8 []) K) : CallOp Tryd.prog E 89 [.adr k 0, .p (int (n : Nat))] L d fr (contO Tryd.prog E Y is K) :=
  useW (vr := [.int .i64 n]) (x := .tup []) (v := .tuple #[]) i tSb tU8 [] [] hat hki (fun w U ι vs h => by obtain ⟨v, r, rfl, h1, h2⟩ := h; simp only [ARep, PRep, ARepL] at h1 h2; rw [h1, h2]) (fun w U => ⟨[], rfl, rfl⟩)
    (fun b w _ h => b_Grow_fresh 0 b n w (Nat.zero_le _) (h hf) (Nat.zero_le _) hn) hk
theorem useBT (i : Nat) (s : List UInt8) (hat : SbAt L k i tSb tU8 s) (hki : k ≠ .l i)
    (hk : awpOps Tryd.prog E Y is (Zf (fr.map (·.kill (.l i))) d (.p (.str s))) (delSb L k i) K) : CallOp Tryd.prog E 92 [.adr k 0] L d fr (contO Tryd.prog E Y is K) :=
  useWS i tSb tU8 s hat hki (fun b w h => b_String_any 0 b s w h (Nat.zero_le _)) hk
theorem lens_take_le : ∀ (l : List (List UInt8)) (k : Nat), Lib.lens (l.take k) ≤ Lib.lens l
  | [], k => by simp
  | x :: r, 0 => by simp [Lib.lens]
  | x :: r, k + 1 => by have := lens_take_le r k; simp only [List.take_succ_cons, Lib.lens, List.map_cons, List.sum_cons] at *; omega
theorem Join_ok (l : List (List UInt8)) (sep : List UInt8) (hl : l.length ≤ 1000000000) (hlen : (Lib.join l sep).length ≤ 1000000000) : PCall Tryd.prog E 44 [strs l, .str sep] (· = .str (Lib.join l sep)) := by
  refine pcallF mixed Tryd.func44 ck_strings_Join ?_
  simp only [a0, l0, OS.ao, List.map_cons, List.map_nil, List.length_cons, List.length_nil, List.cons_append, List.nil_append, Nat.reduceSub, Nat.reduceAdd, List.replicate_succ, List.replicate_zero, ir_strings_Join, rs_strings_Join, ZZ, YY, Zd, ite_true, ite_false, forall_const, reduceCtorEq, Nat.reduceAdd, Nat.reduceMul, Nat.reduceLeDiff, Nat.reduceLT, Nat.reduceEqDiff]
  simp only [strs, ZZ, YY, Zd, ite_true, ite_false, forall_const, reduceCtorEq, Nat.reduceAdd, Nat.reduceMul, Nat.reduceLeDiff, Nat.reduceLT, Nat.reduceEqDiff]
  refine br ?_ ?_
  · intro h
    have h0 : l = [] := by
      have := of_decide_eq_true h
      simp at this
      exact this
    subst h0
    simp only [ZZ, YY, Zd, ite_true, ite_false, forall_const, reduceCtorEq, Nat.reduceAdd, Nat.reduceMul, Nat.reduceLeDiff, Nat.reduceLT, Nat.reduceEqDiff]
    rfl
  intro h
  have h0 : l.length ≠ 0 := by have := of_decide_eq_false h; simpa using this
  simp only [ZZ, YY, Zd, ite_true, ite_false, forall_const, reduceCtorEq, Nat.reduceAdd, Nat.reduceMul, Nat.reduceLeDiff, Nat.reduceLT, Nat.reduceEqDiff]
  obtain ⟨x, r, rfl⟩ : ∃ x r, l = x :: r := by cases l with | nil => exact absurd rfl h0 | cons x r => exact ⟨x, r, rfl⟩
  refine br ?_ ?_
  · intro h1
    have h1 : r = [] := List.eq_nil_of_length_eq_zero (by have := of_decide_eq_true h1; simp at this; omega)
    subst h1
    simp only [ZZ, YY, Zd, ite_true, ite_false, forall_const, reduceCtorEq, Nat.reduceAdd, Nat.reduceMul, Nat.reduceLeDiff, Nat.reduceLT, Nat.reduceEqDiff]
    refine ⟨by simp, by simp, ?_⟩
    rw [Lib.join_one]
    rfl
  intro h1
  have h1 : r.length ≠ 0 := by have := of_decide_eq_false h1; simp at this; omega
  have hJ := Lib.join_length x r sep
  have hcl : (x :: r).length = r.length + 1 := by simp
  have hmul : sep.length * r.length ≤ 1000000000 := by omega
  have hll : Lib.lens (x :: r) ≤ 1000000000 := by omega
  generalize hes : (x :: r).map (fun x => [PV.str x]) = es
  have hln : es.length = r.length + 1 := by rw [← hes]; simp
  have hget : ∀ (k : Nat) (y : List UInt8), (x :: r)[k]? = some y → es.getD k [] = [PV.str y] := fun k y h => by rw [← hes]; exact getD_map h
  simp only [ZZ, YY, Zd, ite_true, ite_false, forall_const, reduceCtorEq, Nat.reduceAdd, Nat.reduceMul, Nat.reduceLeDiff, Nat.reduceLT, Nat.reduceEqDiff]
  refine br_join (fun fr L => fr = [.p (.sl 1 es), .p (.str sep), .any, .any, .any, .p (int (sep.length * r.length : Nat)), .any, .any, .any, .any, .any, .any, .any, .any, .any, .any, .any, .any, .any, .any, .any, .any, .any, .any, .any, .any, .any, .any, .any, .any, .any, .any, .any, .any, .any, .any, .any, .any, .any, .any, .any, .any, .any, .any, .any, .any, .any, .any, .any, .any, .any, .any, .any, .any, .any, .any, .any, .any, .any, .any, .any, .any, .any, .any, .any, .any, .any, .any, .any, .any, .any, .any, .any, .any, .any] ∧ L = []) ?_ ?_ ?_
  · intro hs
    have hs : 0 < sep.length := by have := of_decide_eq_true hs; omega
    simp only [ZZ, YY, Zd, ite_true, ite_false, forall_const, reduceCtorEq, Nat.reduceAdd, Nat.reduceMul, Nat.reduceLeDiff, Nat.reduceLT, Nat.reduceEqDiff]
    have hq : ((9223372036854775807 : Int)).tdiv ((es.length : Int) - 1) = ((9223372036854775807 / r.length : Nat) : Int) := by
      rw [hln, Int.tdiv_eq_ediv_of_nonneg (by omega)]
      have : ((r.length + 1 : Nat) : Int) - 1 = (r.length : Int) := by omega
      rw [this]
      rfl
    have hq2 : 9223372036 ≤ 9223372036854775807 / r.length := (Nat.le_div_iff_mul_le (by omega)).2 (by omega)
    have he : (es.length : Int) - 1 = (r.length : Int) := by omega
    have hp : (sep.length : Int) * (r.length : Int) = ((sep.length * r.length : Nat) : Int) := by simp
    have hq3 : 9223372036854775807 / r.length ≤ 9223372036854775807 := Nat.div_le_self _ _
    have hsl : sep.length ≤ sep.length * r.length := Nat.le_mul_of_pos_right _ (by omega)
    rw [hq]
    generalize 9223372036854775807 / r.length = q at *
    simp only [he]
    refine ⟨i64_of (by omega) (by omega), ⟨by omega, i64_of (by omega) (by omega)⟩, ?_⟩
    refine br (fun h => absurd (of_decide_eq_true h) (by omega)) ?_
    intro _
    simp only [ZZ, YY, Zd, ite_true, ite_false, forall_const, reduceCtorEq, Nat.reduceAdd, Nat.reduceMul, Nat.reduceLeDiff, Nat.reduceLT, Nat.reduceEqDiff]
    refine cut_same (by simp only [ZZ, YY, Zd, ite_true, ite_false, forall_const, reduceCtorEq, Nat.reduceAdd, Nat.reduceMul, Nat.reduceLeDiff, Nat.reduceLT, Nat.reduceEqDiff]) ?_
    simp only [ZZ, YY, Zd, ite_true, ite_false, forall_const, reduceCtorEq, Nat.reduceAdd, Nat.reduceMul, Nat.reduceLeDiff, Nat.reduceLT, Nat.reduceEqDiff]
    simp only [he, hp]
    refine ⟨i64_of (by omega) (by omega), i64_of (by omega) (by omega), i64_of (by omega) (by omega), to_mid [.p (.sl 1 es), .p (.str sep), .any, .any, .any, .p (int (sep.length * r.length : Nat)), .any, .any, .any, .any, .any, .any, .any, .any, .any, .any, .any, .any, .any, .any, .any, .any, .any, .any, .any, .any, .any, .any, .any, .any, .any, .any, .any, .any, .any, .any, .any, .any, .any, .any, .any, .any, .any, .any, .any, .any, .any, .any, .any, .any, .any, .any, .any, .any, .any, .any, .any, .any, .any, .any, .any, .any, .any, .any, .any, .any, .any, .any, .any, .any, .any, .any, .any, .any, .any] [] (by simp only [Int.zero_add]; (simp only [ZZ, YY, Zd, ite_true, ite_false, forall_const, reduceCtorEq, Nat.reduceAdd, Nat.reduceMul, Nat.reduceLeDiff, Nat.reduceLT, Nat.reduceEqDiff]; try trivial)) (by simp only [ZZ, YY, Zd, ite_true, ite_false, forall_const, reduceCtorEq, Nat.reduceAdd, Nat.reduceMul, Nat.reduceLeDiff, Nat.reduceLT, Nat.reduceEqDiff]) ⟨rfl, rfl⟩⟩
  · intro hs
    have hs : sep.length = 0 := by have := of_decide_eq_false hs; omega
    simp only [ZZ, YY, Zd, ite_true, ite_false, forall_const, reduceCtorEq, Nat.reduceAdd, Nat.reduceMul, Nat.reduceLeDiff, Nat.reduceLT, Nat.reduceEqDiff]
    exact to_mid [.p (.sl 1 es), .p (.str sep), .any, .any, .any, .p (int (sep.length * r.length : Nat)), .any, .any, .any, .any, .any, .any, .any, .any, .any, .any, .any, .any, .any, .any, .any, .any, .any, .any, .any, .any, .any, .any, .any, .any, .any, .any, .any, .any, .any, .any, .any, .any, .any, .any, .any, .any, .any, .any, .any, .any, .any, .any, .any, .any, .any, .any, .any, .any, .any, .any, .any, .any, .any, .any, .any, .any, .any, .any, .any, .any, .any, .any, .any, .any, .any, .any, .any, .any, .any] [] (by rw [hs]; simp only [Nat.zero_mul]; (simp only [ZZ, YY, Zd, ite_true, ite_false, forall_const, reduceCtorEq, Nat.reduceAdd, Nat.reduceMul, Nat.reduceLeDiff, Nat.reduceLT, Nat.reduceEqDiff]; try trivial)) (by simp only [ZZ, YY, Zd, ite_true, ite_false, forall_const, reduceCtorEq, Nat.reduceAdd, Nat.reduceMul, Nat.reduceLeDiff, Nat.reduceLT, Nat.reduceEqDiff]) ⟨rfl, rfl⟩
  · rintro fr L ⟨rfl, rfl⟩
    simp only [ZZ, YY, Zd, ite_true, ite_false, forall_const, reduceCtorEq, Nat.reduceAdd, Nat.reduceMul, Nat.reduceLeDiff, Nat.reduceLT, Nat.reduceEqDiff]
    refine loop_intro (fun n fr L => ∃ (k : Nat) (m : Nat), k ≤ r.length + 1 ∧ n = r.length + 1 - k ∧ (m = sep.length * r.length + Lib.lens ((x :: r).take k)) ∧ fr = [.p (.sl 1 es), .p (.str sep), .any, .any, .any, .p (int (m : Nat)), .any, .any, .any, .any, .any, .any, .any, .any, .any, .any, .any, .any, .any, .any, .any, .any, .any, .any, .any, .any, .any, .any, .any, .any, .any, .any, .any, .any, .any, .any, .any, .any, .any, .p (.sl 1 es), .p (int (es.length : Nat)), .p (int (k : Nat)), .any, .any, .any, .any, .any, .any, .any, .any, .any, .any, .any, .any, .any, .any, .any, .any, .any, .any, .any, .any, .any, .any, .any, .any, .any, .any, .any, .any, .any, .any, .any, .any, .any] ∧ L = []) (r.length + 1) [.p (.sl 1 es), .p (.str sep), .any, .any, .any, .p (int ((sep.length * r.length) : Nat)), .any, .any, .any, .any, .any, .any, .any, .any, .any, .any, .any, .any, .any, .any, .any, .any, .any, .any, .any, .any, .any, .any, .any, .any, .any, .any, .any, .any, .any, .any, .any, .any, .any, .p (.sl 1 es), .p (int (es.length : Nat)), .p (int (0 : Nat)), .any, .any, .any, .any, .any, .any, .any, .any, .any, .any, .any, .any, .any, .any, .any, .any, .any, .any, .any, .any, .any, .any, .any, .any, .any, .any, .any, .any, .any, .any, .any, .any, .any] [] (by (simp only [ZZ, YY, Zd, ite_true, ite_false, forall_const, reduceCtorEq, Nat.reduceAdd, Nat.reduceMul, Nat.reduceLeDiff, Nat.reduceLT, Nat.reduceEqDiff]; try trivial)) (by (simp only [ZZ, YY, Zd, ite_true, ite_false, forall_const, reduceCtorEq, Nat.reduceAdd, Nat.reduceMul, Nat.reduceLeDiff, Nat.reduceLT, Nat.reduceEqDiff]; try trivial)) ⟨0, sep.length * r.length, by omega, by omega, by simp [Lib.lens], rfl, rfl⟩ ?_
    rintro n fr L ⟨k, m, hk, rfl, hm, rfl, rfl⟩
    simp only [ir_strings_Join_L0, ZZ, YY, Zd, ite_true, ite_false, forall_const, reduceCtorEq, Nat.reduceAdd, Nat.reduceMul, Nat.reduceLeDiff, Nat.reduceLT, Nat.reduceEqDiff]
    refine br ?_ ?_
    · intro h
      have hlt : k < r.length + 1 := by have := of_decide_eq_true h; omega
      obtain ⟨y, hy⟩ : ∃ y, (x :: r)[k]? = some y := ⟨_, List.getElem?_eq_getElem (by simpa using hlt)⟩
      have hg := hget k y hy
      have hs1 := Lib.lens_take_succ (x :: r) k y hy
      have hs2 := lens_take_le (x :: r) (k + 1)
      simp only [ZZ, YY, Zd, ite_true, ite_false, forall_const, reduceCtorEq, Nat.reduceAdd, Nat.reduceMul, Nat.reduceLeDiff, Nat.reduceLT, Nat.reduceEqDiff, hg]
      refine ⟨⟨by omega, by omega⟩, by omega, i64_of (by omega) (by omega), ?_⟩
      refine br (fun h => absurd (of_decide_eq_true h) (by omega)) ?_
      intro _
      simp only [ZZ, YY, Zd, ite_true, ite_false, forall_const, reduceCtorEq, Nat.reduceAdd, Nat.reduceMul, Nat.reduceLeDiff, Nat.reduceLT, Nat.reduceEqDiff]
      refine cut_same (by simp only [ZZ, YY, Zd, ite_true, ite_false, forall_const, reduceCtorEq, Nat.reduceAdd, Nat.reduceMul, Nat.reduceLeDiff, Nat.reduceLT, Nat.reduceEqDiff]) ?_
      simp only [ZZ, YY, Zd, ite_true, ite_false, forall_const, reduceCtorEq, Nat.reduceAdd, Nat.reduceMul, Nat.reduceLeDiff, Nat.reduceLT, Nat.reduceEqDiff]
      refine ⟨i64_of (by omega) (by omega), i64_of (by omega) (by omega), ?_⟩
      refine end_round (r.length + 1 - (k + 1)) [.p (.sl 1 es), .p (.str sep), .any, .any, .any, .p (int ((m + y.length) : Nat)), .any, .any, .any, .any, .any, .any, .any, .any, .any, .any, .any, .any, .any, .any, .any, .any, .any, .any, .any, .any, .any, .any, .any, .any, .any, .any, .any, .any, .any, .any, .any, .any, .any, .p (.sl 1 es), .p (int (es.length : Nat)), .p (int ((k + 1) : Nat)), .any, .any, .any, .any, .any, .any, .any, .any, .any, .any, .any, .any, .any, .any, .any, .any, .any, .any, .any, .any, .any, .any, .any, .any, .any, .any, .any, .any, .any, .any, .any, .any, .any] [] (by omega) (by (simp only [ZZ, YY, Zd, ite_true, ite_false, forall_const, reduceCtorEq, Nat.reduceAdd, Nat.reduceMul, Nat.reduceLeDiff, Nat.reduceLT, Nat.reduceEqDiff]; try trivial)) (by (simp only [ZZ, YY, Zd, ite_true, ite_false, forall_const, reduceCtorEq, Nat.reduceAdd, Nat.reduceMul, Nat.reduceLeDiff, Nat.reduceLT, Nat.reduceEqDiff]; try trivial)) ⟨k + 1, m + y.length, by omega, rfl, by omega, rfl, rfl⟩
    · intro h
      have hge : k = r.length + 1 := by have := of_decide_eq_false h; omega
      subst hge
      have hm' : m ≤ 1000000000 := by rw [hm, List.take_of_length_le (by simp)]; omega
      simp only [ZZ, YY, Zd, ite_true, ite_false, forall_const, reduceCtorEq, Nat.reduceAdd, Nat.reduceMul, Nat.reduceLeDiff, Nat.reduceLT, Nat.reduceEqDiff]
      refine useBG 1000 m (.inl ⟨rfl, rfl⟩) rfl (by simp) (by omega) ?_
      have hg0 := hget 0 x rfl
      have hlx : Lib.lens (x :: r) = x.length + Lib.lens r := by simp [Lib.lens]
      simp only [ZZ, YY, Zd, ite_true, ite_false, forall_const, reduceCtorEq, Nat.reduceAdd, Nat.reduceMul, Nat.reduceLeDiff, Nat.reduceLT, Nat.reduceEqDiff, putSb, Int.toNat_zero, hg0]
      refine ⟨⟨by omega, by omega⟩, by omega, ?_⟩
      refine useBS 1000 [] x (.inr ⟨rfl, rfl⟩) (by simp) (by simp; omega) ?_
      simp only [ZZ, YY, Zd, ite_true, ite_false, forall_const, reduceCtorEq, Nat.reduceAdd, Nat.reduceMul, Nat.reduceLeDiff, Nat.reduceLT, Nat.reduceEqDiff, putSb]
      refine ⟨⟨by omega, by omega⟩, ?_⟩
      have hd : (es.take es.length).drop 1 = strE r := by rw [List.take_length, ← hes]; simp [strE]
      simp only [Int.toNat_one, hd, strE_len]
      refine loop_intro (fun n fr L => ∃ (k : Nat) (s : List UInt8), k ≤ r.length ∧ n = r.length - k ∧ (s = x ++ Lib.joinTail sep (r.take k)) ∧ fr = [.any, .p (.str sep), .any, .any, .any, .any, .any, .any, .adr (.l 8) 0, .any, .any, .any, .any, .any, .any, .any, .any, .any, .any, .any, .any, .any, .any, .any, .any, .any, .any, .any, .any, .any, .any, .any, .any, .any, .any, .any, .any, .any, .any, .any, .any, .any, .any, .any, .any, .any, .any, .any, .any, .any, .any, .any, .any, .any, .any, .any, .any, .any, .any, .any, .any, .any, .any, .p (.sl 1 (strE r)), .p (int (r.length : Nat)), .p (int (k : Nat)), .any, .any, .any, .any, .any, .any, .any, .any, .any] ∧ L = [(.l 8, .box [.adr (.l 8) 0, .row (.l 1000)] tSb), (.l 1000, .row (bytC s) tU8 1 true)]) (r.length) [.any, .p (.str sep), .any, .any, .any, .any, .any, .any, .adr (.l 8) 0, .any, .any, .any, .any, .any, .any, .any, .any, .any, .any, .any, .any, .any, .any, .any, .any, .any, .any, .any, .any, .any, .any, .any, .any, .any, .any, .any, .any, .any, .any, .any, .any, .any, .any, .any, .any, .any, .any, .any, .any, .any, .any, .any, .any, .any, .any, .any, .any, .any, .any, .any, .any, .any, .any, .p (.sl 1 (strE r)), .p (int (r.length : Nat)), .p (int (0 : Nat)), .any, .any, .any, .any, .any, .any, .any, .any, .any] [(.l 8, .box [.adr (.l 8) 0, .row (.l 1000)] tSb), (.l 1000, .row (bytC x) tU8 1 true)] (by (simp only [ZZ, YY, Zd, ite_true, ite_false, forall_const, reduceCtorEq, Nat.reduceAdd, Nat.reduceMul, Nat.reduceLeDiff, Nat.reduceLT, Nat.reduceEqDiff]; try trivial)) (by (simp only [ZZ, YY, Zd, ite_true, ite_false, forall_const, reduceCtorEq, Nat.reduceAdd, Nat.reduceMul, Nat.reduceLeDiff, Nat.reduceLT, Nat.reduceEqDiff]; try trivial)) ⟨0, x, by omega, by omega, by simp [Lib.joinTail], rfl, rfl⟩ ?_
      rintro n fr L ⟨k, s, hk, rfl, hs, rfl, rfl⟩
      simp only [ir_strings_Join_L1, ZZ, YY, Zd, ite_true, ite_false, forall_const, reduceCtorEq, Nat.reduceAdd, Nat.reduceMul, Nat.reduceLeDiff, Nat.reduceLT, Nat.reduceEqDiff]
      refine br ?_ ?_
      · intro h
        have hlt : k < r.length := by have := of_decide_eq_true h; omega
        obtain ⟨y, hy⟩ : ∃ y, r[k]? = some y := ⟨_, List.getElem?_eq_getElem hlt⟩
        have hg := strE_get hy
        have hj1 := Lib.joinTail_take_succ sep r k y hy
        have hj2 := Lib.joinTail_take_le sep r (k + 1)
        have hj3 := Lib.joinTail_length sep r
        have hj4 : (Lib.joinTail sep (r.take (k + 1))).length = (Lib.joinTail sep (r.take k)).length + sep.length + y.length := by rw [hj1]; simp; omega
        have hsl : s.length = x.length + (Lib.joinTail sep (r.take k)).length := by rw [hs]; simp
        simp only [ZZ, YY, Zd, ite_true, ite_false, forall_const, reduceCtorEq, Nat.reduceAdd, Nat.reduceMul, Nat.reduceLeDiff, Nat.reduceLT, Nat.reduceEqDiff, strE_len, hg]
        refine ⟨⟨by omega, by omega⟩, by omega, ?_⟩
        refine useBS 1000 s sep (.inr ⟨rfl, rfl⟩) (by simp) (by omega) ?_
        simp only [ZZ, YY, Zd, ite_true, ite_false, forall_const, reduceCtorEq, Nat.reduceAdd, Nat.reduceMul, Nat.reduceLeDiff, Nat.reduceLT, Nat.reduceEqDiff, putSb]
        refine useBS 1000 (s ++ sep) y (.inr ⟨rfl, rfl⟩) (by simp) (by simp; omega) ?_
        simp only [ZZ, YY, Zd, ite_true, ite_false, forall_const, reduceCtorEq, Nat.reduceAdd, Nat.reduceMul, Nat.reduceLeDiff, Nat.reduceLT, Nat.reduceEqDiff, putSb]
        refine ⟨i64_of (by omega) (by omega), ?_⟩
        refine end_round (r.length - (k + 1)) [.any, .p (.str sep), .any, .any, .any, .any, .any, .any, .adr (.l 8) 0, .any, .any, .any, .any, .any, .any, .any, .any, .any, .any, .any, .any, .any, .any, .any, .any, .any, .any, .any, .any, .any, .any, .any, .any, .any, .any, .any, .any, .any, .any, .any, .any, .any, .any, .any, .any, .any, .any, .any, .any, .any, .any, .any, .any, .any, .any, .any, .any, .any, .any, .any, .any, .any, .any, .p (.sl 1 (strE r)), .p (int (r.length : Nat)), .p (int ((k + 1) : Nat)), .any, .any, .any, .any, .any, .any, .any, .any, .any] [(.l 8, .box [.adr (.l 8) 0, .row (.l 1000)] tSb), (.l 1000, .row (bytC (s ++ sep ++ y)) tU8 1 true)] (by omega) (by (simp only [ZZ, YY, Zd, ite_true, ite_false, forall_const, reduceCtorEq, Nat.reduceAdd, Nat.reduceMul, Nat.reduceLeDiff, Nat.reduceLT, Nat.reduceEqDiff]; try trivial)) (by (simp only [ZZ, YY, Zd, ite_true, ite_false, forall_const, reduceCtorEq, Nat.reduceAdd, Nat.reduceMul, Nat.reduceLeDiff, Nat.reduceLT, Nat.reduceEqDiff]; try trivial)) ⟨k + 1, s ++ sep ++ y, by omega, rfl, by rw [hj1, hs]; simp, rfl, rfl⟩
      · intro h
        have hge : k = r.length := by have := of_decide_eq_false h; omega
        subst hge
        simp only [ZZ, YY, Zd, ite_true, ite_false, forall_const, reduceCtorEq, Nat.reduceAdd, Nat.reduceMul, Nat.reduceLeDiff, Nat.reduceLT, Nat.reduceEqDiff]
        refine useBT 1000 s (.inr ⟨rfl, rfl⟩) (by simp) ?_
        simp only [ZZ, YY, Zd, ite_true, ite_false, forall_const, reduceCtorEq, Nat.reduceAdd, Nat.reduceMul, Nat.reduceLeDiff, Nat.reduceLT, Nat.reduceEqDiff]
        rw [hs, List.take_length, Lib.join_cons]
end
end Go.Proofs.YtndjmidmfmcbkaaDoor

/- Phrases: the places of phrases, found one by one or painted (plain). -/
namespace Go.Proofs.YtndjmidmfmcbkaaDoor
set_option linter.unusedVariables false
set_option linter.unusedSimpArgs false
set_option linter.defProp false

end Go.Proofs.YtndjmidmfmcbkaaDoor

/- Memos and phrases: what makes them, Find, and the reference's FindOf. -/
namespace Go.Proofs.YtndjmidmfmcbkaaDoor
open Go.RowKit
set_option linter.unusedVariables false
set_option linter.unusedSimpArgs false
set_option linter.defProp false

section
variable {E : Envt}
end
end Go.Proofs.YtndjmidmfmcbkaaDoor

/- Memos, Find and the reference's FindOf. -/
namespace Go.Proofs.YtndjmidmfmcbkaaDoor
open Go.RowKit
set_option linter.unusedVariables false
set_option linter.unusedSimpArgs false
set_option linter.defProp false




section
variable {E : Envt}
end
end Go.Proofs.YtndjmidmfmcbkaaDoor

/- Code points: what is covered as a whole (plain). -/
namespace Go.Proofs.YtndjmidmfmcbkaaDoor
set_option linter.unusedVariables false
set_option linter.unusedSimpArgs false
set_option linter.defProp false

end Go.Proofs.YtndjmidmfmcbkaaDoor

/- Sets as maps; the ends of words; what is seen and what leaks (plain). -/
namespace Go.Proofs.YtndjmidmfmcbkaaDoor
set_option linter.unusedVariables false
set_option linter.unusedSimpArgs false
set_option linter.defProp false

end Go.Proofs.YtndjmidmfmcbkaaDoor

/- Widen and what is covered: the walks. -/
namespace Go.Proofs.YtndjmidmfmcbkaaDoor
open Go.RowKit
set_option linter.unusedVariables false
set_option linter.unusedSimpArgs false
set_option linter.defProp false

section
variable {P : Program} {E : Envt} {w : World} {U : Nat → Prop}
end



section
variable {E : Envt}
end
end Go.Proofs.YtndjmidmfmcbkaaDoor

/- slices.Equal of strings. -/
namespace Go.Proofs.YtndjmidmfmcbkaaDoor
set_option linter.unusedVariables false
set_option linter.unusedSimpArgs false
set_option linter.defProp false
section
variable {E : Envt}
end
end Go.Proofs.YtndjmidmfmcbkaaDoor
