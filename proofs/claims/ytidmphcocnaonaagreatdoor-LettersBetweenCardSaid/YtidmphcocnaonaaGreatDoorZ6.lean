
/- Own texts, put together: C1 C2 C3 W0 V1 C6 K1 N1 I1. -/
import Derived.Test.YtidmphcocnaonaaGreatDoorZ5
import Derived.Test.YtidmphcocnaonaaGreatDoorRep
import Derived.Test.YtidmphcocnaonaaGreatDoorLayIndexByte
import Derived.Lib.IndexMore
import Derived.Test.YtidmphcocnaonaaGreatDoorZ3
import Derived.Test.YtidmphcocnaonaaGreatDoorZ4
import Derived.Test.YtidmphcocnaonaaGreatDoorSpec
import Derived.Shelf.Strings.IndexAnyAll
import Derived.Shelf.Small.Utf8
import Derived.BigQuiet
import Derived.WalkMore
import Derived.Deep.QuietTactic
import Derived.Shelf.RegionOpenPlain
import Derived.Deep.LoopGhost
import Derived.Laws.Runes
import Derived.Laws.RangeString
import Derived.Lib.IndexBytes
import Derived.Laws.Strings3
import Derived.Test.YtidmphcocnaonaaGreatDoorLaySplit
import Derived.Lib.SplitLaws
import Derived.Test.YtidmphcocnaonaaGreatDoorLayIndexAny
import Derived.Test.YtidmphcocnaonaaGreatDoorLayTrim
import Derived.Test.YtidmphcocnaonaaGreatDoorLayCompare
import Derived.Test.YtidmphcocnaonaaGreatDoorLayCut
/- Texts: the library's functions on strings, small letters, the reference's forms. -/
namespace Go.Proofs.YtidmphcocnaonaaGreatDoor
open Go.RowKit
set_option linter.unusedVariables false
set_option linter.unusedSimpArgs false
set_option linter.defProp false

theorem ba_size (s : List UInt8) : (⟨s.toArray⟩ : ByteArray).size = s.length := by simp [ByteArray.size]

section
variable {E : Envt}
theorem IndexByte_ok (s : List UInt8) (c : UInt8) : PCall Tryz.prog E 261 [.str s, .int .u8 (c.toNat : Nat)] (· = int (Lib.indexByte s c)) :=
  pcall_flat rfl rfl fun w _ => (Any.strings_IndexByte Tryz.layIndexByte ⟨s.toArray⟩ (c.toNat : Nat) w).mono fun e w' h => ⟨by rw [h.1]; simp [valX, valD], by rw [h.2]; exact Grow.refl _ _⟩
theorem HasPrefix_ok (s p : List UInt8) : PCall Tryz.prog E 120 [.str s, .str p] (· = .bool (Lib.hasPrefix s p)) :=
  pcall_flat rfl rfl fun w _ => (Any.strings_HasPrefix Tryz.layPrefix ⟨s.toArray⟩ ⟨p.toArray⟩ w).mono fun e w' h => ⟨h.1, by rw [h.2]; exact Grow.refl _ _⟩
end
theorem Index_ok (s t : List UInt8) (hs : s.length ≤ 1000000000) : PCall Tryz.prog E0 221 [.str s, .str t] (· = int (Lib.index s t)) :=
  pcall_flat rfl rfl fun w hE => by
    obtain ⟨_, m, hm⟩ := hE
    exact (Any.strings_Index { Tryz.layIndex with } ⟨s.toArray⟩ ⟨t.toArray⟩ m w (by rw [ba_size]; omega) hm).mono fun e w' h => ⟨h.1, by rw [h.2]; exact Grow.refl _ _⟩

/- paperchase/base.Lower -/
def ir_base_Lower_L0 : IC :=
  (.seq (.reg [⟨some 11, .bin .lss (.t 10) (.t 9), none⟩])
    (.seq (.cond (.t 11) .skip (.exit 0))
    (.seq (.block 1 (.seq (.reg [⟨some 12, .mov (.t 10), none⟩,
      ⟨some 13, .ixa 1 (.t 8) (.t 10), none⟩,
      ⟨some 14, .ld 1 false (.t 13), none⟩,
      ⟨some 4, .mov (.t 12), none⟩,
      ⟨some 5, .mov (.t 14), none⟩])
    (.seq (.reg [⟨some 15, .mov (.t 5), none⟩,
      ⟨some 16, .bin .geq (.t 15) (.c (.int .u8 65)), none⟩,
      ⟨some 17, .mov (.t 16), none⟩,
      ⟨some 18, .mov (.t 5), (some (17, true))⟩,
      ⟨some 19, .bin .leq (.t 18) (.c (.int .u8 90)), (some (17, true))⟩,
      ⟨some 20, .pick (.t 17) (.t 19) (.c (.bool false)), none⟩])
    (.cond (.t 20) (.reg [⟨some 21, .mov (.t 3), none⟩,
      ⟨some 22, .mov (.t 4), none⟩,
      ⟨some 23, .mov (.t 5), none⟩,
      ⟨some 24, .bin .add (.t 23) (.c (.int .u8 32)), none⟩,
      ⟨some 25, .ixa 1 (.t 21) (.t 22), none⟩,
      ⟨none, .st 1 (.t 25) (.t 24), none⟩]) .skip))))
    (.cut (.reg [⟨some 26, .bin .add (.t 10) (.c (.int .i64 1)), none⟩,
      ⟨some 10, .mov (.t 26), none⟩])))))
def ir_base_Lower : IC :=
  (.seq (.reg [⟨some 2, .mov (.c (.str [])), none⟩])
    (.seq (.reg [⟨some 6, .mov (.t 0), none⟩,
      ⟨some 7, .s2b 5 (.t 6), none⟩,
      ⟨some 3, .mov (.t 7), none⟩])
    (.seq (.seq (.reg [⟨some 8, .mov (.t 3), none⟩,
      ⟨some 9, .len (.t 8), none⟩,
      ⟨some 10, .mov (.c (.int .i64 0)), none⟩])
    (.block 0 (.loop ir_base_Lower_L0)))
    (.seq (.reg [⟨some 27, .mov (.t 3), none⟩,
      ⟨some 28, .b2s (.t 27), none⟩,
      ⟨some 2, .mov (.t 28), none⟩])
    .ret))))
def rs_base_Lower : List IRes := [.t 2]
theorem ck_base_Lower : chkF Tryz.prog Tryz.f250 ir_base_Lower rs_base_Lower 29 = true := by kernel_rfl
/- paperchase/chaseref1.wellFormed -/
def ir_chaseref1_wellFormed_L0 : IC :=
  (.seq (.reg [⟨some 11, .bin .lss (.t 10) (.t 9), none⟩])
    (.seq (.cond (.t 11) .skip (.exit 0))
    (.seq (.block 1 (.seq (.reg [⟨some 12, .ixa 1 (.t 8) (.t 10), none⟩,
      ⟨some 13, .ld 1 false (.t 12), none⟩,
      ⟨some 6, .mov (.t 13), none⟩])
    (.seq (.reg [⟨some 14, .mov (.t 6), none⟩,
      ⟨some 15, .bin .lss (.t 14) (.c (.int .u8 32)), none⟩,
      ⟨some 16, .mov (.t 15), none⟩,
      ⟨some 17, .mov (.t 1), (some (16, true))⟩,
      ⟨some 18, .mov (.t 17), (some (16, true))⟩,
      ⟨some 19, .mov (.t 6), (some (18, true))⟩,
      ⟨some 20, .bin .eql (.t 19) (.c (.int .u8 10)), (some (18, true))⟩,
      ⟨some 21, .pick (.t 18) (.t 20) (.c (.bool false)), (some (16, true))⟩,
      ⟨some 22, .not (.t 21), (some (16, true))⟩,
      ⟨some 23, .pick (.t 16) (.t 22) (.c (.bool false)), none⟩,
      ⟨some 24, .mov (.t 23), none⟩,
      ⟨some 25, .mov (.t 6), (some (24, false))⟩,
      ⟨some 26, .bin .eql (.t 25) (.c (.int .u8 127)), (some (24, false))⟩,
      ⟨some 27, .pick (.t 24) (.c (.bool true)) (.t 26), none⟩])
    (.cond (.t 27) (.seq (.reg [⟨some 4, .mov (.c (.bool false)), none⟩])
    .ret) .skip))))
    (.reg [⟨some 28, .bin .add (.t 10) (.c (.int .i64 1)), none⟩,
      ⟨some 10, .mov (.t 28), none⟩]))))
def ir_chaseref1_wellFormed : IC :=
  (.seq (.reg [⟨some 4, .mov (.c (.bool false)), none⟩])
    (.seq (.seq (.reg [⟨some 7, .mov (.t 0), none⟩,
      ⟨some 8, .s2b 5 (.t 7), none⟩,
      ⟨some 9, .len (.t 8), none⟩,
      ⟨some 10, .mov (.c (.int .i64 0)), none⟩])
    (.block 0 (.loop ir_chaseref1_wellFormed_L0)))
    (.seq (.reg [⟨some 29, .mov (.t 0), none⟩,
      ⟨some 30, .call 209 [.t 29], none⟩,
      ⟨some 4, .mov (.t 30), none⟩])
    .ret)))
def rs_chaseref1_wellFormed : List IRes := [.t 4]
theorem ck_chaseref1_wellFormed : chkF Tryz.prog Tryz.f129 ir_chaseref1_wellFormed rs_chaseref1_wellFormed 31 = true := by kernel_rfl
/- paperchase/chaseref1.TextOf -/
def ir_chaseref1_TextOf : IC :=
  (.seq (.reg [⟨some 2, .mov (.c (.bool false)), none⟩])
    (.seq (.reg [⟨some 3, .mov (.t 0), none⟩,
      ⟨some 4, .call 129 [.t 3, .c (.bool true)], none⟩,
      ⟨some 5, .mov (.t 4), none⟩,
      ⟨some 6, .mov (.t 0), (some (5, true))⟩,
      ⟨some 7, .bin .eql (.t 6) (.c (.str [])), (some (5, true))⟩,
      ⟨some 8, .mov (.t 7), (some (5, true))⟩,
      ⟨some 9, .mov (.t 0), (some (8, false))⟩,
      ⟨some 10, .call 100 [.t 9, .c (.str [10])], (some (8, false))⟩,
      ⟨some 11, .pick (.t 8) (.c (.bool true)) (.t 10), (some (5, true))⟩,
      ⟨some 12, .pick (.t 5) (.t 11) (.c (.bool false)), none⟩,
      ⟨some 2, .mov (.t 12), none⟩])
    .ret))
def rs_chaseref1_TextOf : List IRes := [.t 2]
theorem ck_chaseref1_TextOf : chkF Tryz.prog Tryz.f51 ir_chaseref1_TextOf rs_chaseref1_TextOf 13 = true := by kernel_rfl
/- paperchase/chaseref1.BodyFault -/
def ir_chaseref1_BodyFault : IC :=
  (.seq (.reg [⟨some 2, .mov (.c (.int .i64 0)), none⟩])
    (.seq (.seq (.reg [⟨some 3, .mov (.t 0), none⟩,
      ⟨some 4, .sln (.t 3), none⟩,
      ⟨some 5, .bin .gtr (.t 4) (.c (.int .i64 20000)), none⟩])
    (.cond (.t 5) (.seq (.reg [⟨some 2, .mov (.c (.int .i64 2)), none⟩])
    .ret) .skip))
    (.seq (.seq (.reg [⟨some 6, .mov (.t 0), none⟩,
      ⟨some 7, .call 51 [.t 6], none⟩,
      ⟨some 8, .not (.t 7), none⟩])
    (.cond (.t 8) (.seq (.reg [⟨some 2, .mov (.c (.int .i64 3)), none⟩])
    .ret) .skip))
    (.seq (.reg [⟨some 2, .mov (.c (.int .i64 0)), none⟩])
    .ret))))
def rs_chaseref1_BodyFault : List IRes := [.t 2]
theorem ck_chaseref1_BodyFault : chkF Tryz.prog Tryz.f10 ir_chaseref1_BodyFault rs_chaseref1_BodyFault 9 = true := by kernel_rfl


def lowB (c : UInt8) : UInt8 := if 65 ≤ c.toNat ∧ c.toNat ≤ 90 then c + 32 else c
def lowF (s : List UInt8) : List UInt8 := s.map lowB
theorem all256 {p : UInt8 → Prop} (h : ∀ n : Fin 256, p (UInt8.ofNat n.val)) (c : UInt8) : p c := by
  have := h ⟨c.toNat, c.toNat_lt⟩
  simpa using this
theorem low_wrap (c : UInt8) (h1 : 65 ≤ c.toNat) (h2 : c.toNat ≤ 90) : IntKind.u8.wrap ((c.toNat : Int) + 32) = (((lowB c).toNat : Nat) : Int) := by
  have h3 : (c + 32).toNat = c.toNat + 32 := by
    rw [UInt8.toNat_add]
    have : (32 : UInt8).toNat = 32 := rfl
    omega
  rw [lowB, if_pos ⟨h1, h2⟩, h3]
  have : IntKind.u8.wrap ((c.toNat : Int) + 32) = ((c.toNat : Int) + 32) % 256 := rfl
  rw [this]
  omega
theorem low_same (c : UInt8) (h : ¬ (65 ≤ c.toNat ∧ c.toNat ≤ 90)) : lowB c = c := by rw [lowB, if_neg h]
def smallL : List UInt8 := [97, 98, 99, 100, 101, 102, 103, 104, 105, 106, 107, 108, 109, 110, 111, 112, 113, 114, 115, 116, 117, 118, 119, 120, 121, 122]
theorem range_getD (s : List UInt8) (f : UInt8 → UInt8) : (List.range s.length).map (fun j => f (s.getD j 0)) = s.map f := by
  apply List.ext_getElem?
  intro j
  by_cases hj : j < s.length
  · simp [List.getElem?_range hj, List.getElem?_eq_getElem hj, List.getD]
  · rw [List.getElem?_eq_none (by simpa using hj), List.getElem?_eq_none (by simpa using hj)]
/-- The bytes below k are small already. -/
def lowG (s : List UInt8) (k : Nat) (j : Nat) : UInt8 := if j < k then lowB (s.getD j 0) else s.getD j 0
theorem lowG_nx (s : List UInt8) (k : Nat) : (fun j => if j = k then lowB (s.getD k 0) else lowG s k j) = lowG s (k + 1) := by
  funext j
  unfold lowG
  by_cases h : j = k
  · subst h; simp
  · simp only [h, if_false]
    by_cases h2 : j < k
    · rw [if_pos h2, if_pos (by omega)]
    · rw [if_neg h2, if_neg (by omega)]
theorem lowG_at (s : List UInt8) (k : Nat) : lowG s k k = s.getD k 0 := by simp [lowG]
theorem lowG_end (s : List UInt8) : (List.range s.length).map (lowG s s.length) = lowF s := by
  rw [lowF, ← range_getD]
  refine List.map_congr_left fun j hj => ?_
  simp only [List.mem_range] at hj
  simp [lowG, hj]
section
variable {E : Envt}
theorem Lower_ok (s : List UInt8) (hs : s.length ≤ 1000000000) : PCall Tryz.prog E 250 [.str s] (· = .str (lowF s)) := by
  refine pcallF mixed Tryz.func250 ck_base_Lower ?_
  simp only [a0, l0, OS.ao, List.map_cons, List.map_nil, List.length_cons, List.length_nil, List.cons_append, List.nil_append, Nat.reduceSub, Nat.reduceAdd, List.replicate_succ, List.replicate_zero, ir_base_Lower, rs_base_Lower, ZZ, YY, Ze, ite_true, ite_false, forall_const, reduceCtorEq, Nat.reduceAdd, Nat.reduceMul, Nat.reduceLeDiff, Nat.reduceLT, Nat.reduceEqDiff]
  refine ⟨by omega, ?_⟩
  rw [bU_of]
  simp only [ZZ, YY, Ze, ite_true, ite_false, forall_const, reduceCtorEq, Nat.reduceAdd, Nat.reduceMul, Nat.reduceLeDiff, Nat.reduceLT, Nat.reduceEqDiff, bU_len]
  refine loop_intro (fun n fr L => ∃ (k : Nat) (g : Nat → UInt8), k ≤ s.length ∧ n = s.length - k ∧ (g = lowG s k) ∧ fr = [.any, .any, .any, .row (.l 7), .any, .any, .any, .any, .row (.l 7), .p (int (s.length : Nat)), .p (int (k : Nat)), .any, .any, .any, .any, .any, .any, .any, .any, .any, .any, .any, .any, .any, .any, .any, .any, .any, .any] ∧ L = [(.l 7, .row (bU s.length g) 5 1 false)]) (s.length) [.any, .any, .any, .row (.l 7), .any, .any, .any, .any, .row (.l 7), .p (int (s.length : Nat)), .p (int (0 : Nat)), .any, .any, .any, .any, .any, .any, .any, .any, .any, .any, .any, .any, .any, .any, .any, .any, .any, .any] [(.l 7, .row (bU s.length (fun j => s.getD j 0)) 5 1 false)] (by (simp only [ZZ, YY, Ze, ite_true, ite_false, forall_const, reduceCtorEq, Nat.reduceAdd, Nat.reduceMul, Nat.reduceLeDiff, Nat.reduceLT, Nat.reduceEqDiff]; try trivial)) (by (simp only [ZZ, YY, Ze, ite_true, ite_false, forall_const, reduceCtorEq, Nat.reduceAdd, Nat.reduceMul, Nat.reduceLeDiff, Nat.reduceLT, Nat.reduceEqDiff]; try trivial)) ⟨0, fun j => s.getD j 0, by omega, by omega, by funext j; simp [lowG], rfl, rfl⟩ ?_
  rintro n fr L ⟨k, g, hk, rfl, hg, rfl, rfl⟩
  simp only [ir_base_Lower_L0, ZZ, YY, Ze, ite_true, ite_false, forall_const, reduceCtorEq, Nat.reduceAdd, Nat.reduceMul, Nat.reduceLeDiff, Nat.reduceLT, Nat.reduceEqDiff]
  refine br ?_ ?_
  · intro h
    have hlt : k < s.length := by have := of_decide_eq_true h; omega
    have hgi : (bU s.length g).getD k [] = [.int .u8 ((s.getD k 0).toNat : Nat)] := by rw [bU_get hlt, hg, lowG_at]
    have hbl := bU_len s.length g
    have hnx := lowG_nx s k
    generalize hcc : s.getD k 0 = c at hgi hnx
    have hset : (bU s.length g).set k [.int .u8 ((lowB c).toNat : Nat)] = bU s.length (fun j => if j = k then lowB c else g j) := bU_set (lowB c)
    simp only [ZZ, YY, Ze, ite_true, ite_false, forall_const, reduceCtorEq, Nat.reduceAdd, Nat.reduceMul, Nat.reduceLeDiff, Nat.reduceLT, Nat.reduceEqDiff, hgi, hbl]
    ((repeat' (with_reducible apply And.intro)) <;> try ((first | first | assumption | trivial | exact (fun hq => by rw [hq]; rfl) | exact i64_of (by omega) (by omega) | omega | (simp; done) | (simp; omega) | (intro hsc; have hs0 := hsc; (try have hsd := of_decide_eq_true hsc); (try simp only [Bool.not_eq_true', Bool.or_eq_false_iff, Bool.and_eq_true, Bool.or_eq_true, decide_eq_true_eq, decide_eq_false_iff_not] at hsc); (repeat' (with_reducible apply And.intro)) <;> (first | assumption | trivial | exact (fun hq => by rw [hq]; rfl) | exact i64_of (by omega) (by omega) | omega | (simp; done) | (simp; omega) | (intro hse; simp [hse, hs0]; done) | (intro hse; simp only [hse, hs0, Bool.true_and, Bool.and_true, Bool.not_false, Bool.not_true, Bool.and_self]; done))))))
    refine br ?_ ?_
    · intro hc
      simp only [Bool.and_eq_true, decide_eq_true_eq] at hc
      have hw := low_wrap c (by omega) (by omega)
      simp only [ZZ, YY, Ze, ite_true, ite_false, forall_const, reduceCtorEq, Nat.reduceAdd, Nat.reduceMul, Nat.reduceLeDiff, Nat.reduceLT, Nat.reduceEqDiff, hbl, hgi, hw, hset]
      ((repeat' (with_reducible apply And.intro)) <;> try ((first | first | assumption | trivial | exact (fun hq => by rw [hq]; rfl) | exact i64_of (by omega) (by omega) | omega | (simp; done) | (simp; omega) | (intro hsc; have hs0 := hsc; (try have hsd := of_decide_eq_true hsc); (try simp only [Bool.not_eq_true', Bool.or_eq_false_iff, Bool.and_eq_true, Bool.or_eq_true, decide_eq_true_eq, decide_eq_false_iff_not] at hsc); (repeat' (with_reducible apply And.intro)) <;> (first | assumption | trivial | exact (fun hq => by rw [hq]; rfl) | exact i64_of (by omega) (by omega) | omega | (simp; done) | (simp; omega) | (intro hse; simp [hse, hs0]; done) | (intro hse; simp only [hse, hs0, Bool.true_and, Bool.and_true, Bool.not_false, Bool.not_true, Bool.and_self]; done))))))
      refine cut_same (by simp only [ZZ, YY, Ze, ite_true, ite_false, forall_const, reduceCtorEq, Nat.reduceAdd, Nat.reduceMul, Nat.reduceLeDiff, Nat.reduceLT, Nat.reduceEqDiff]) ?_
      simp only [ZZ, YY, Ze, ite_true, ite_false, forall_const, reduceCtorEq, Nat.reduceAdd, Nat.reduceMul, Nat.reduceLeDiff, Nat.reduceLT, Nat.reduceEqDiff]
      ((repeat' (with_reducible apply And.intro)) <;> try ((first | first | assumption | trivial | exact (fun hq => by rw [hq]; rfl) | exact i64_of (by omega) (by omega) | omega | (simp; done) | (simp; omega) | (intro hsc; have hs0 := hsc; (try have hsd := of_decide_eq_true hsc); (try simp only [Bool.not_eq_true', Bool.or_eq_false_iff, Bool.and_eq_true, Bool.or_eq_true, decide_eq_true_eq, decide_eq_false_iff_not] at hsc); (repeat' (with_reducible apply And.intro)) <;> (first | assumption | trivial | exact (fun hq => by rw [hq]; rfl) | exact i64_of (by omega) (by omega) | omega | (simp; done) | (simp; omega) | (intro hse; simp [hse, hs0]; done) | (intro hse; simp only [hse, hs0, Bool.true_and, Bool.and_true, Bool.not_false, Bool.not_true, Bool.and_self]; done))))))
      refine end_round (s.length - (k + 1)) [.any, .any, .any, .row (.l 7), .any, .any, .any, .any, .row (.l 7), .p (int (s.length : Nat)), .p (int ((k + 1) : Nat)), .any, .any, .any, .any, .any, .any, .any, .any, .any, .any, .any, .any, .any, .any, .any, .any, .any, .any] [(.l 7, .row (bU s.length (fun j => if j = k then lowB c else g j)) 5 1 false)] (by omega) (by (simp only [ZZ, YY, Ze, ite_true, ite_false, forall_const, reduceCtorEq, Nat.reduceAdd, Nat.reduceMul, Nat.reduceLeDiff, Nat.reduceLT, Nat.reduceEqDiff]; try trivial)) (by (simp only [ZZ, YY, Ze, ite_true, ite_false, forall_const, reduceCtorEq, Nat.reduceAdd, Nat.reduceMul, Nat.reduceLeDiff, Nat.reduceLT, Nat.reduceEqDiff]; try trivial)) ⟨k + 1, fun j => if j = k then lowB c else g j, by omega, rfl, by rw [hg]; exact hnx, rfl, rfl⟩
    · intro hc
      have hsame : lowB c = c := low_same c (by
        intro h2
        simp only [Bool.and_eq_false_iff, decide_eq_false_iff_not] at hc
        omega)
      have hsg : (fun j => if j = k then lowB c else lowG s k j) = g := by
        funext j
        by_cases hj : j = k
        · subst hj
          rw [if_pos rfl, hsame, hg, lowG_at, hcc]
        · rw [if_neg hj, hg]
      simp only [ZZ, YY, Ze, ite_true, ite_false, forall_const, reduceCtorEq, Nat.reduceAdd, Nat.reduceMul, Nat.reduceLeDiff, Nat.reduceLT, Nat.reduceEqDiff]
      refine cut_same (by simp only [ZZ, YY, Ze, ite_true, ite_false, forall_const, reduceCtorEq, Nat.reduceAdd, Nat.reduceMul, Nat.reduceLeDiff, Nat.reduceLT, Nat.reduceEqDiff]) ?_
      simp only [ZZ, YY, Ze, ite_true, ite_false, forall_const, reduceCtorEq, Nat.reduceAdd, Nat.reduceMul, Nat.reduceLeDiff, Nat.reduceLT, Nat.reduceEqDiff]
      ((repeat' (with_reducible apply And.intro)) <;> try ((first | first | assumption | trivial | exact (fun hq => by rw [hq]; rfl) | exact i64_of (by omega) (by omega) | omega | (simp; done) | (simp; omega) | (intro hsc; have hs0 := hsc; (try have hsd := of_decide_eq_true hsc); (try simp only [Bool.not_eq_true', Bool.or_eq_false_iff, Bool.and_eq_true, Bool.or_eq_true, decide_eq_true_eq, decide_eq_false_iff_not] at hsc); (repeat' (with_reducible apply And.intro)) <;> (first | assumption | trivial | exact (fun hq => by rw [hq]; rfl) | exact i64_of (by omega) (by omega) | omega | (simp; done) | (simp; omega) | (intro hse; simp [hse, hs0]; done) | (intro hse; simp only [hse, hs0, Bool.true_and, Bool.and_true, Bool.not_false, Bool.not_true, Bool.and_self]; done))))))
      refine end_round (s.length - (k + 1)) [.any, .any, .any, .row (.l 7), .any, .any, .any, .any, .row (.l 7), .p (int (s.length : Nat)), .p (int ((k + 1) : Nat)), .any, .any, .any, .any, .any, .any, .any, .any, .any, .any, .any, .any, .any, .any, .any, .any, .any, .any] [(.l 7, .row (bU s.length g) 5 1 false)] (by omega) (by (simp only [ZZ, YY, Ze, ite_true, ite_false, forall_const, reduceCtorEq, Nat.reduceAdd, Nat.reduceMul, Nat.reduceLeDiff, Nat.reduceLT, Nat.reduceEqDiff]; try trivial)) (by (simp only [ZZ, YY, Ze, ite_true, ite_false, forall_const, reduceCtorEq, Nat.reduceAdd, Nat.reduceMul, Nat.reduceLeDiff, Nat.reduceLT, Nat.reduceEqDiff]; try trivial)) ⟨k + 1, g, by omega, rfl, by rw [← hnx, hsg], rfl, rfl⟩
  · intro h
    have hge : k = s.length := by have := of_decide_eq_false h; omega
    subst hge
    simp only [ZZ, YY, Ze, ite_true, ite_false, forall_const, reduceCtorEq, Nat.reduceAdd, Nat.reduceMul, Nat.reduceLeDiff, Nat.reduceLT, Nat.reduceEqDiff, bytes_bU]
    rw [hg, lowG_end]
end
theorem wellFormed_ok (s : List UInt8) (feeds : Bool) (hs : s.length ≤ 1000000000) : PCall Tryz.prog E0 129 [.str s, .bool feeds] (· = .bool (visE s feeds)) := by
  refine pcallF mixed Tryz.func129 ck_chaseref1_wellFormed ?_
  simp only [a0, l0, OS.ao, List.map_cons, List.map_nil, List.length_cons, List.length_nil, List.cons_append, List.nil_append, Nat.reduceSub, Nat.reduceAdd, List.replicate_succ, List.replicate_zero, ir_chaseref1_wellFormed, rs_chaseref1_wellFormed, ZZ, YY, Ze, ite_true, ite_false, forall_const, reduceCtorEq, Nat.reduceAdd, Nat.reduceMul, Nat.reduceLeDiff, Nat.reduceLT, Nat.reduceEqDiff]
  refine ⟨by omega, ?_⟩
  have hln : (s.map fun q => [PV.int .u8 (q.toNat : Nat)]).length = s.length := by simp
  have hget : ∀ k c, s[k]? = some c → (s.map fun q => [PV.int .u8 (q.toNat : Nat)]).getD k [] = [.int .u8 (c.toNat : Nat)] := fun k c h => getD_map h
  generalize (s.map fun q => [PV.int .u8 (q.toNat : Nat)]) = es at hln hget ⊢
  simp only [ZZ, YY, Ze, ite_true, ite_false, forall_const, reduceCtorEq, Nat.reduceAdd, Nat.reduceMul, Nat.reduceLeDiff, Nat.reduceLT, Nat.reduceEqDiff, hln]
  refine loop_intro (fun n fr L => ∃ (k : Nat), k ≤ s.length ∧ n = s.length - k ∧ (((s.take k).all fun c => !badB feeds c) = true) ∧ fr = [.p (.str s), .p (.bool feeds), .any, .any, .any, .any, .any, .any, .row (.l 8), .p (int (s.length : Nat)), .p (int (k : Nat)), .any, .any, .any, .any, .any, .any, .any, .any, .any, .any, .any, .any, .any, .any, .any, .any, .any, .any, .any, .any] ∧ L = [(.l 8, .row es 5 1 false)]) (s.length) [.p (.str s), .p (.bool feeds), .any, .any, .any, .any, .any, .any, .row (.l 8), .p (int (s.length : Nat)), .p (int (0 : Nat)), .any, .any, .any, .any, .any, .any, .any, .any, .any, .any, .any, .any, .any, .any, .any, .any, .any, .any, .any, .any] [(.l 8, .row es 5 1 false)] (by (simp only [ZZ, YY, Ze, ite_true, ite_false, forall_const, reduceCtorEq, Nat.reduceAdd, Nat.reduceMul, Nat.reduceLeDiff, Nat.reduceLT, Nat.reduceEqDiff]; try trivial)) (by (simp only [ZZ, YY, Ze, ite_true, ite_false, forall_const, reduceCtorEq, Nat.reduceAdd, Nat.reduceMul, Nat.reduceLeDiff, Nat.reduceLT, Nat.reduceEqDiff]; try trivial)) ⟨0, by omega, by omega, by simp, rfl, rfl⟩ ?_
  rintro n fr L ⟨k, hk, rfl, hall, rfl, rfl⟩
  simp only [ir_chaseref1_wellFormed_L0, ZZ, YY, Ze, ite_true, ite_false, forall_const, reduceCtorEq, Nat.reduceAdd, Nat.reduceMul, Nat.reduceLeDiff, Nat.reduceLT, Nat.reduceEqDiff]
  refine br ?_ ?_
  · intro h
    have hlt : k < s.length := by have := of_decide_eq_true h; omega
    obtain ⟨c, hc⟩ : ∃ x, s[k]? = some x := ⟨_, List.getElem?_eq_getElem hlt⟩
    have hg := hget k c hc
    have hnx := all_take (p := fun c => !badB feeds c) hc
    simp only [ZZ, YY, Ze, ite_true, ite_false, forall_const, reduceCtorEq, Nat.reduceAdd, Nat.reduceMul, Nat.reduceLeDiff, Nat.reduceLT, Nat.reduceEqDiff, hg, hln]
    ((repeat' (with_reducible apply And.intro)) <;> try ((first | first | assumption | trivial | exact (fun hq => by rw [hq]; rfl) | exact i64_of (by omega) (by omega) | omega | (simp; done) | (simp; omega) | (intro hsc; have hs0 := hsc; (try have hsd := of_decide_eq_true hsc); (try simp only [Bool.not_eq_true', Bool.or_eq_false_iff, Bool.and_eq_true, Bool.or_eq_true, decide_eq_true_eq, decide_eq_false_iff_not] at hsc); (repeat' (with_reducible apply And.intro)) <;> (first | assumption | trivial | exact (fun hq => by rw [hq]; rfl) | exact i64_of (by omega) (by omega) | omega | (simp; done) | (simp; omega) | (intro hse; simp [hse, hs0]; done) | (intro hse; simp only [hse, hs0, Bool.true_and, Bool.and_true, Bool.not_false, Bool.not_true, Bool.and_self]; done))))))
    refine br ?_ ?_
    · intro hb
      have hb : badB feeds c = true := hb
      simp only [ZZ, YY, Ze, ite_true, ite_false, forall_const, reduceCtorEq, Nat.reduceAdd, Nat.reduceMul, Nat.reduceLeDiff, Nat.reduceLT, Nat.reduceEqDiff]
      have : (s.all fun c => !badB feeds c) = false := by
        rw [List.all_eq_false]
        exact ⟨c, List.mem_of_getElem? hc, by simp [hb]⟩
      simp [visE, this]
    · intro hb
      have hb : badB feeds c = false := hb
      simp only [ZZ, YY, Ze, ite_true, ite_false, forall_const, reduceCtorEq, Nat.reduceAdd, Nat.reduceMul, Nat.reduceLeDiff, Nat.reduceLT, Nat.reduceEqDiff]
      ((repeat' (with_reducible apply And.intro)) <;> try ((first | first | assumption | trivial | exact (fun hq => by rw [hq]; rfl) | exact i64_of (by omega) (by omega) | omega | (simp; done) | (simp; omega) | (intro hsc; have hs0 := hsc; (try have hsd := of_decide_eq_true hsc); (try simp only [Bool.not_eq_true', Bool.or_eq_false_iff, Bool.and_eq_true, Bool.or_eq_true, decide_eq_true_eq, decide_eq_false_iff_not] at hsc); (repeat' (with_reducible apply And.intro)) <;> (first | assumption | trivial | exact (fun hq => by rw [hq]; rfl) | exact i64_of (by omega) (by omega) | omega | (simp; done) | (simp; omega) | (intro hse; simp [hse, hs0]; done) | (intro hse; simp only [hse, hs0, Bool.true_and, Bool.and_true, Bool.not_false, Bool.not_true, Bool.and_self]; done))))))
      refine end_round (s.length - (k + 1)) [.p (.str s), .p (.bool feeds), .any, .any, .any, .any, .any, .any, .row (.l 8), .p (int (s.length : Nat)), .p (int ((k + 1) : Nat)), .any, .any, .any, .any, .any, .any, .any, .any, .any, .any, .any, .any, .any, .any, .any, .any, .any, .any, .any, .any] [(.l 8, .row es 5 1 false)] (by omega) (by (simp only [ZZ, YY, Ze, ite_true, ite_false, forall_const, reduceCtorEq, Nat.reduceAdd, Nat.reduceMul, Nat.reduceLeDiff, Nat.reduceLT, Nat.reduceEqDiff]; try trivial)) (by (simp only [ZZ, YY, Ze, ite_true, ite_false, forall_const, reduceCtorEq, Nat.reduceAdd, Nat.reduceMul, Nat.reduceLeDiff, Nat.reduceLT, Nat.reduceEqDiff]; try trivial)) ⟨k + 1, by omega, rfl, by rw [hnx, hall, hb]; rfl, rfl, rfl⟩
  · intro h
    have hge : s.length ≤ k := by have := of_decide_eq_false h; omega
    rw [List.take_of_length_le hge] at hall
    simp only [ZZ, YY, Ze, ite_true, ite_false, forall_const, reduceCtorEq, Nat.reduceAdd, Nat.reduceMul, Nat.reduceLeDiff, Nat.reduceLT, Nat.reduceEqDiff]
    refine use1 (Valid_ok s (by omega)) rfl (.inl rfl) ?_
    simp only [ZZ, YY, Ze, ite_true, ite_false, forall_const, reduceCtorEq, Nat.reduceAdd, Nat.reduceMul, Nat.reduceLeDiff, Nat.reduceLT, Nat.reduceEqDiff]
    simp [visE, hall]
theorem TextOf_ok (s : List UInt8) (hs : s.length ≤ 1000000000) : PCall Tryz.prog E0 51 [.str s] (· = .bool (textE s)) := by
  refine pcallF mixed Tryz.func51 ck_chaseref1_TextOf ?_
  simp only [a0, l0, OS.ao, List.map_cons, List.map_nil, List.length_cons, List.length_nil, List.cons_append, List.nil_append, Nat.reduceSub, Nat.reduceAdd, List.replicate_succ, List.replicate_zero, ir_chaseref1_TextOf, rs_chaseref1_TextOf, ZZ, YY, Ze, ite_true, ite_false, forall_const, reduceCtorEq, Nat.reduceAdd, Nat.reduceMul, Nat.reduceLeDiff, Nat.reduceLT, Nat.reduceEqDiff]
  refine use1 (wellFormed_ok s true hs) rfl (.inl rfl) ?_
  simp only [ZZ, YY, Ze, ite_true, ite_false, forall_const, reduceCtorEq, Nat.reduceAdd, Nat.reduceMul, Nat.reduceLeDiff, Nat.reduceLT, Nat.reduceEqDiff]
  ((repeat' (with_reducible apply And.intro)) <;> try ((first | first | assumption | trivial | exact (fun hq => by rw [hq]; rfl) | exact i64_of (by omega) (by omega) | omega | (simp; done) | (simp; omega) | (intro hsc; have hs0 := hsc; (try have hsd := of_decide_eq_true hsc); (try simp only [Bool.not_eq_true', Bool.or_eq_false_iff, Bool.and_eq_true, Bool.or_eq_true, decide_eq_true_eq, decide_eq_false_iff_not] at hsc); (repeat' (with_reducible apply And.intro)) <;> (first | assumption | trivial | exact (fun hq => by rw [hq]; rfl) | exact i64_of (by omega) (by omega) | omega | (simp; done) | (simp; omega) | (intro hse; simp [hse, hs0]; done) | (intro hse; simp only [hse, hs0, Bool.true_and, Bool.and_true, Bool.not_false, Bool.not_true, Bool.and_self]; done))))))
  refine useG (fun _ => HasSuffix_ok s [10] (by omega)) rfl (.inl rfl) ?_
  simp only [ZZ, YY, Ze, ite_true, ite_false, forall_const, reduceCtorEq, Nat.reduceAdd, Nat.reduceMul, Nat.reduceLeDiff, Nat.reduceLT, Nat.reduceEqDiff]
  ((repeat' (with_reducible apply And.intro)) <;> try ((first | first | assumption | trivial | exact (fun hq => by rw [hq]; rfl) | exact i64_of (by omega) (by omega) | omega | (simp; done) | (simp; omega) | (intro hsc; have hs0 := hsc; (try have hsd := of_decide_eq_true hsc); (try simp only [Bool.not_eq_true', Bool.or_eq_false_iff, Bool.and_eq_true, Bool.or_eq_true, decide_eq_true_eq, decide_eq_false_iff_not] at hsc); (repeat' (with_reducible apply And.intro)) <;> (first | assumption | trivial | exact (fun hq => by rw [hq]; rfl) | exact i64_of (by omega) (by omega) | omega | (simp; done) | (simp; omega) | (intro hse; simp [hse, hs0]; done) | (intro hse; simp only [hse, hs0, Bool.true_and, Bool.and_true, Bool.not_false, Bool.not_true, Bool.and_self]; done))))))
def bodyE (s : List UInt8) : Int := if 20000 < s.length then 2 else if textE s = true then 0 else 3
theorem BodyFault_ok (s : List UInt8) (hs : s.length ≤ 1000000000) : PCall Tryz.prog E0 10 [.str s] (· = int (bodyE s)) := by
  refine pcallF mixed Tryz.func10 ck_chaseref1_BodyFault ?_
  simp only [a0, l0, OS.ao, List.map_cons, List.map_nil, List.length_cons, List.length_nil, List.cons_append, List.nil_append, Nat.reduceSub, Nat.reduceAdd, List.replicate_succ, List.replicate_zero, ir_chaseref1_BodyFault, rs_chaseref1_BodyFault, ZZ, YY, Ze, ite_true, ite_false, forall_const, reduceCtorEq, Nat.reduceAdd, Nat.reduceMul, Nat.reduceLeDiff, Nat.reduceLT, Nat.reduceEqDiff]
  refine br ?_ ?_
  · intro h
    have h := of_decide_eq_true h
    simp only [ZZ, YY, Ze, ite_true, ite_false, forall_const, reduceCtorEq, Nat.reduceAdd, Nat.reduceMul, Nat.reduceLeDiff, Nat.reduceLT, Nat.reduceEqDiff]
    rw [bodyE, if_pos (by omega)]
  · intro h
    have h := of_decide_eq_false h
    simp only [ZZ, YY, Ze, ite_true, ite_false, forall_const, reduceCtorEq, Nat.reduceAdd, Nat.reduceMul, Nat.reduceLeDiff, Nat.reduceLT, Nat.reduceEqDiff]
    refine use1 (TextOf_ok s hs) rfl (.inl rfl) ?_
    simp only [ZZ, YY, Ze, ite_true, ite_false, forall_const, reduceCtorEq, Nat.reduceAdd, Nat.reduceMul, Nat.reduceLeDiff, Nat.reduceLT, Nat.reduceEqDiff]
    rw [bodyE, if_neg (by omega)]
    refine br ?_ ?_
    · intro h2
      simp only [ZZ, YY, Ze, ite_true, ite_false, forall_const, reduceCtorEq, Nat.reduceAdd, Nat.reduceMul, Nat.reduceLeDiff, Nat.reduceLT, Nat.reduceEqDiff]
      rw [if_neg (by simpa using h2)]
    · intro h2
      simp only [ZZ, YY, Ze, ite_true, ite_false, forall_const, reduceCtorEq, Nat.reduceAdd, Nat.reduceMul, Nat.reduceLeDiff, Nat.reduceLT, Nat.reduceEqDiff]
      rw [if_pos (by simpa using h2)]
end Go.Proofs.YtidmphcocnaonaaGreatDoor

/- Phrases: the places of phrases, found one by one or painted (plain). -/
namespace Go.Proofs.YtidmphcocnaonaaGreatDoor
set_option linter.unusedVariables false
set_option linter.unusedSimpArgs false
set_option linter.defProp false

end Go.Proofs.YtidmphcocnaonaaGreatDoor

/- Memos and phrases: what makes them, Find, and the reference's FindOf. -/
namespace Go.Proofs.YtidmphcocnaonaaGreatDoor
open Go.RowKit
set_option linter.unusedVariables false
set_option linter.unusedSimpArgs false
set_option linter.defProp false

/- (*paperchase/chasemake.Stream).One -/
def ir_chasemake_Stream_One : IC :=
  (.seq (.reg [⟨some 4, .mov (.c (.str [])), none⟩])
    (.seq (.reg [⟨some 5, .mov (.t 0), none⟩,
      ⟨some 6, .mov (.t 1), none⟩,
      ⟨some 7, .call 45 [.t 5, .t 6], none⟩,
      ⟨some 4, .mov (.t 7), none⟩])
    .ret))
def rs_chasemake_Stream_One : List IRes := [.t 4]
theorem ck_chasemake_Stream_One : chkF Tryz.prog Tryz.f38 ir_chasemake_Stream_One rs_chasemake_Stream_One 8 = true := by kernel_rfl


section
variable {E : Envt}
def idxF {α : Type} (q : α → Bool) (l : List α) : Int := match l.findIdx? q with | some i => (i : Int) | none => -1
theorem idxF_hit {α : Type} {q : α → Bool} {l : List α} {k : Nat} {x : α} (h : l[k]? = some x) (hx : q x = true) (hno : ∀ y ∈ l.take k, q y = false) : idxF q l = k := by
  obtain ⟨hk, hxk⟩ := List.getElem?_eq_some_iff.1 h
  have : l.findIdx? q = some k := by
    rw [List.findIdx?_eq_some_iff_getElem]
    refine ⟨hk, by rw [hxk]; exact hx, fun j hj => ?_⟩
    have := hno l[j] (by rw [List.mem_take_iff_getElem]; exact ⟨j, by omega, rfl⟩)
    simp [this]
  simp [idxF, this]
theorem idxF_none {α : Type} {q : α → Bool} {l : List α} (hno : ∀ y ∈ l, q y = false) : idxF q l = -1 := by
  have : l.findIdx? q = none := by rw [List.findIdx?_eq_none_iff]; exact hno
  simp [idxF, this]
theorem idxF_any {α : Type} (q : α → Bool) (l : List α) : decide ((0 : Int) ≤ idxF q l) = l.any q := by
  rw [← List.findIdx?_isSome]
  unfold idxF
  cases l.findIdx? q <;> simp
theorem One_ok (l : List Int) (k : Nat) (c : List (List UInt8)) (hk : k ≤ 1000000) (hl : l.length ≤ 9223372036854775807) (h0 : 0 < c.length) (h1 : c.length ≤ 1000000) :
    SCall Tryz.prog E 38 T (stm l k) [strs c] (fun x cs' => ∃ y, x = .str y ∧ y ∈ c ∧ cs' = stm l (k + 1)) := by
  unfold SCall
  refine gcallP mixed Tryz.func38 ck_chasemake_Stream_One ?_
  simp only [a0, l0, OS.ao, List.map_cons, List.map_nil, List.length_cons, List.length_nil, List.cons_append, List.nil_append, Nat.reduceSub, Nat.reduceAdd, List.replicate_succ, List.replicate_zero, ir_chasemake_Stream_One, rs_chasemake_Stream_One, ZZ, YY, Ze, ite_true, ite_false, forall_const, reduceCtorEq, Nat.reduceAdd, Nat.reduceMul, Nat.reduceLeDiff, Nat.reduceLT, Nat.reduceEqDiff]
  refine useS (one_ok l k c hk hl h0 h1) rfl rfl rfl (by simp only [ZZ, YY, Ze, ite_true, ite_false, forall_const, reduceCtorEq, Nat.reduceAdd, Nat.reduceMul, Nat.reduceLeDiff, Nat.reduceLT, Nat.reduceEqDiff]) ?_
  rintro x cs' ⟨y, rfl, hy, rfl⟩
  simp only [ZZ, YY, Ze, ite_true, ite_false, forall_const, reduceCtorEq, Nat.reduceAdd, Nat.reduceMul, Nat.reduceLeDiff, Nat.reduceLT, Nat.reduceEqDiff]
  exact fin_S (stm l (k + 1)) rfl ⟨_, rfl, hy, rfl⟩
end
end Go.Proofs.YtidmphcocnaonaaGreatDoor

/- Searches in lists of addresses. -/
namespace Go.Proofs.YtidmphcocnaonaaGreatDoor
open Go.RowKit
set_option linter.unusedVariables false
set_option linter.unusedSimpArgs false
set_option linter.defProp false

/- slices.IndexFunc[[]paperchase/api.Address,paperchase/api.Address] -/
def ir_slices_IndexFunc_api_Address_api_Address_L0 : IC :=
  (.seq (.reg [⟨some 9, .bin .lss (.t 8) (.t 7), none⟩])
    (.seq (.cond (.t 9) .skip (.exit 0))
    (.seq (.block 1 (.seq (.reg [⟨some 10, .mov (.t 8), none⟩,
      ⟨some 5, .mov (.t 10), none⟩])
    (.seq (.reg [⟨some 11, .mov (.t 1), none⟩,
      ⟨some 12, .mov (.t 0), none⟩,
      ⟨some 13, .mov (.t 5), none⟩,
      ⟨some 14, .ixa 2 (.t 12) (.t 13), none⟩,
      ⟨some 15, .ld 2 true (.t 14), none⟩,
      ⟨some 16, .callv (.t 11) [.t 15], none⟩])
    (.cond (.t 16) (.seq (.reg [⟨some 17, .mov (.t 5), none⟩,
      ⟨some 4, .mov (.t 17), none⟩])
    .ret) .skip))))
    (.reg [⟨some 18, .bin .add (.t 8) (.c (.int .i64 1)), none⟩,
      ⟨some 8, .mov (.t 18), none⟩]))))
def ir_slices_IndexFunc_api_Address_api_Address : IC :=
  (.seq (.reg [⟨some 4, .mov (.c (.int .i64 0)), none⟩])
    (.seq (.seq (.reg [⟨some 6, .mov (.t 0), none⟩,
      ⟨some 7, .len (.t 6), none⟩,
      ⟨some 8, .mov (.c (.int .i64 0)), none⟩])
    (.block 0 (.loop ir_slices_IndexFunc_api_Address_api_Address_L0)))
    (.seq (.reg [⟨some 4, .mov (.c (.int .i64 (-1))), none⟩])
    .ret)))
def rs_slices_IndexFunc_api_Address_api_Address : List IRes := [.t 4]
theorem ck_slices_IndexFunc_api_Address_api_Address : chkF Tryz.prog Tryz.f258 ir_slices_IndexFunc_api_Address_api_Address rs_slices_IndexFunc_api_Address_api_Address 19 = true := by kernel_rfl
/- slices.ContainsFunc[[]paperchase/api.Address,paperchase/api.Address] -/
def ir_slices_ContainsFunc_api_Address_api_Address : IC :=
  (.seq (.reg [⟨some 4, .mov (.c (.bool false)), none⟩])
    (.seq (.reg [⟨some 5, .mov (.t 0), none⟩,
      ⟨some 6, .mov (.t 1), none⟩,
      ⟨some 7, .call 258 [.t 5, .t 6], none⟩,
      ⟨some 8, .bin .geq (.t 7) (.c (.int .i64 0)), none⟩,
      ⟨some 4, .mov (.t 8), none⟩])
    .ret))
def rs_slices_ContainsFunc_api_Address_api_Address : List IRes := [.t 4]
theorem ck_slices_ContainsFunc_api_Address_api_Address : chkF Tryz.prog Tryz.f189 ir_slices_ContainsFunc_api_Address_api_Address rs_slices_ContainsFunc_api_Address_api_Address 9 = true := by kernel_rfl

abbrev AdT := List UInt8 × List UInt8
def adC (q : AdT) : List PV := [.str q.1, .str q.2]
def adrE (l : List AdT) : List (List PV) := l.map adC
theorem adrE_len (l : List AdT) : (adrE l).length = l.length := by simp [adrE]
theorem adrE_get {l : List AdT} {k : Nat} {x : AdT} (h : l[k]? = some x) : (adrE l).getD k [] = [.str x.1, .str x.2] := getD_map h
section
variable {E : Envt}
theorem IndexFuncA_ok (l : List AdT) (f : FuncId) (ps : List PV) (q : AdT → Bool) (hl : l.length ≤ 1000000000) (hfn : Unit → fnB Tryz.prog f = true) (hps : Zl [] (ps.map .p) = true) (hf : ∀ x ∈ l, PCall Tryz.prog E f (.agg (adC x) :: ps) (· = .bool (q x))) (hn : ∀ x, Zbh [] (.p (.agg (adC x)) :: ps.map .p) = some (.agg (adC x) :: ps)) (hr : ∀ x, Zbj (.p (.agg (adC x)) :: ps.map .p) = true) : PCall Tryz.prog E 258 [.sl 2 (adrE l), .clo f ps] (· = int (idxF q l)) := by
  refine pcallF mixed Tryz.func258 ck_slices_IndexFunc_api_Address_api_Address ?_
  simp only [a0, l0, OS.ao, List.map_cons, List.map_nil, List.length_cons, List.length_nil, List.cons_append, List.nil_append, Nat.reduceSub, Nat.reduceAdd, List.replicate_succ, List.replicate_zero, ir_slices_IndexFunc_api_Address_api_Address, rs_slices_IndexFunc_api_Address_api_Address, ZZ, YY, Ze, ite_true, ite_false, forall_const, reduceCtorEq, Nat.reduceAdd, Nat.reduceMul, Nat.reduceLeDiff, Nat.reduceLT, Nat.reduceEqDiff]
  simp only [ZZ, YY, Ze, ite_true, ite_false, forall_const, reduceCtorEq, Nat.reduceAdd, Nat.reduceMul, Nat.reduceLeDiff, Nat.reduceLT, Nat.reduceEqDiff, adrE_len]
  refine loop_intro (fun n fr L => ∃ (k : Nat), k ≤ l.length ∧ n = l.length - k ∧ (∀ x ∈ l.take k, q x = false) ∧ fr = [.p (.sl 2 (adrE l)), .p (.clo f ps), .any, .any, .any, .any, .any, .p (int (l.length : Nat)), .p (int (k : Nat)), .any, .any, .any, .any, .any, .any, .any, .any, .any, .any] ∧ L = []) (l.length) [.p (.sl 2 (adrE l)), .p (.clo f ps), .any, .any, .any, .any, .any, .p (int (l.length : Nat)), .p (int (0 : Nat)), .any, .any, .any, .any, .any, .any, .any, .any, .any, .any] [] (by simp only [adrE_len, ZZ, YY, Ze, ite_true, ite_false, forall_const, reduceCtorEq, Nat.reduceAdd, Nat.reduceMul, Nat.reduceLeDiff, Nat.reduceLT, Nat.reduceEqDiff]; try trivial) (by (simp only [ZZ, YY, Ze, ite_true, ite_false, forall_const, reduceCtorEq, Nat.reduceAdd, Nat.reduceMul, Nat.reduceLeDiff, Nat.reduceLT, Nat.reduceEqDiff]; try trivial)) ⟨0, by omega, by omega, by simp, rfl, rfl⟩ ?_
  rintro n fr L ⟨k, hk, rfl, hno, rfl, rfl⟩
  simp only [ir_slices_IndexFunc_api_Address_api_Address_L0, ZZ, YY, Ze, ite_true, ite_false, forall_const, reduceCtorEq, Nat.reduceAdd, Nat.reduceMul, Nat.reduceLeDiff, Nat.reduceLT, Nat.reduceEqDiff]
  refine br ?_ ?_
  · intro h
    have hlt : k < l.length := by have := of_decide_eq_true h; omega
    obtain ⟨x, hx⟩ : ∃ x, l[k]? = some x := ⟨_, List.getElem?_eq_getElem hlt⟩
    have hg := adrE_get hx
    simp only [ZZ, YY, Ze, ite_true, ite_false, forall_const, reduceCtorEq, Nat.reduceAdd, Nat.reduceMul, Nat.reduceLeDiff, Nat.reduceLT, Nat.reduceEqDiff, hg, adrE_len, hfn ()]
    refine ⟨⟨by omega, by omega⟩, by omega, hps, ?_⟩
    refine use1 (hf x (List.mem_of_getElem? hx)) (hn x) (.inl (hr x)) ?_
    simp only [ZZ, YY, Ze, ite_true, ite_false, forall_const, reduceCtorEq, Nat.reduceAdd, Nat.reduceMul, Nat.reduceLeDiff, Nat.reduceLT, Nat.reduceEqDiff]
    refine br ?_ ?_
    · intro hq
      simp only [ZZ, YY, Ze, ite_true, ite_false, forall_const, reduceCtorEq, Nat.reduceAdd, Nat.reduceMul, Nat.reduceLeDiff, Nat.reduceLT, Nat.reduceEqDiff]
      rw [idxF_hit hx hq hno]
    · intro hq
      simp only [ZZ, YY, Ze, ite_true, ite_false, forall_const, reduceCtorEq, Nat.reduceAdd, Nat.reduceMul, Nat.reduceLeDiff, Nat.reduceLT, Nat.reduceEqDiff]
      ((repeat' (with_reducible apply And.intro)) <;> try ((first | first | assumption | trivial | exact (fun hq => by rw [hq]; rfl) | exact i64_of (by omega) (by omega) | omega | (simp; done) | (simp; omega) | (intro hsc; have hs0 := hsc; (try have hsd := of_decide_eq_true hsc); (try simp only [Bool.not_eq_true', Bool.or_eq_false_iff, Bool.and_eq_true, Bool.or_eq_true, decide_eq_true_eq, decide_eq_false_iff_not] at hsc); (repeat' (with_reducible apply And.intro)) <;> (first | assumption | trivial | exact (fun hq => by rw [hq]; rfl) | exact i64_of (by omega) (by omega) | omega | (simp; done) | (simp; omega) | (intro hse; simp [hse, hs0]; done) | (intro hse; simp only [hse, hs0, Bool.true_and, Bool.and_true, Bool.not_false, Bool.not_true, Bool.and_self]; done))))))
      refine end_round (l.length - (k + 1)) [.p (.sl 2 (adrE l)), .p (.clo f ps), .any, .any, .any, .any, .any, .p (int (l.length : Nat)), .p (int ((k + 1) : Nat)), .any, .any, .any, .any, .any, .any, .any, .any, .any, .any] [] (by omega) (by (simp only [ZZ, YY, Ze, ite_true, ite_false, forall_const, reduceCtorEq, Nat.reduceAdd, Nat.reduceMul, Nat.reduceLeDiff, Nat.reduceLT, Nat.reduceEqDiff]; try trivial)) (by (simp only [ZZ, YY, Ze, ite_true, ite_false, forall_const, reduceCtorEq, Nat.reduceAdd, Nat.reduceMul, Nat.reduceLeDiff, Nat.reduceLT, Nat.reduceEqDiff]; try trivial)) ⟨k + 1, by omega, rfl, by rw [List.take_succ_eq_append_getElem hlt]; intro y hy; rcases List.mem_append.1 hy with hy | hy; exact hno y hy; rw [List.mem_singleton] at hy; rw [hy, (List.getElem?_eq_some_iff.1 hx).2]; exact hq, rfl, rfl⟩
  · intro h
    have hge : l.length ≤ k := by have := of_decide_eq_false h; omega
    rw [List.take_of_length_le hge] at hno
    simp only [ZZ, YY, Ze, ite_true, ite_false, forall_const, reduceCtorEq, Nat.reduceAdd, Nat.reduceMul, Nat.reduceLeDiff, Nat.reduceLT, Nat.reduceEqDiff]
    rw [idxF_none hno]
theorem ContainsFuncA_ok (l : List AdT) (f : FuncId) (ps : List PV) (q : AdT → Bool) (hl : l.length ≤ 1000000000) (hfn : Unit → fnB Tryz.prog f = true) (hps : Zl [] (ps.map .p) = true) (hf : ∀ x ∈ l, PCall Tryz.prog E f (.agg (adC x) :: ps) (· = .bool (q x))) (hn : ∀ x, Zbh [] (.p (.agg (adC x)) :: ps.map .p) = some (.agg (adC x) :: ps)) (hr : ∀ x, Zbj (.p (.agg (adC x)) :: ps.map .p) = true) : PCall Tryz.prog E 189 [.sl 2 (adrE l), .clo f ps] (· = .bool (l.any q)) := by
  refine pcallF mixed Tryz.func189 ck_slices_ContainsFunc_api_Address_api_Address ?_
  simp only [a0, l0, OS.ao, List.map_cons, List.map_nil, List.length_cons, List.length_nil, List.cons_append, List.nil_append, Nat.reduceSub, Nat.reduceAdd, List.replicate_succ, List.replicate_zero, ir_slices_ContainsFunc_api_Address_api_Address, rs_slices_ContainsFunc_api_Address_api_Address, ZZ, YY, Ze, ite_true, ite_false, forall_const, reduceCtorEq, Nat.reduceAdd, Nat.reduceMul, Nat.reduceLeDiff, Nat.reduceLT, Nat.reduceEqDiff]
  refine use1 (IndexFuncA_ok l f ps q hl hfn hps hf hn hr) rfl (.inl rfl) ?_
  simp only [ZZ, YY, Ze, ite_true, ite_false, forall_const, reduceCtorEq, Nat.reduceAdd, Nat.reduceMul, Nat.reduceLeDiff, Nat.reduceLT, Nat.reduceEqDiff]
  rw [idxF_any]
end
end Go.Proofs.YtidmphcocnaonaaGreatDoor

/- The calendar, on both sides: how long months and years are, the number of a day. -/
namespace Go.Proofs.YtidmphcocnaonaaGreatDoor
open Go.RowKit
set_option linter.unusedVariables false
set_option linter.unusedSimpArgs false
set_option linter.defProp false

/- paperchase/base.Moment -/
def ir_base_Moment : IC :=
  (.seq (.reg [⟨some 2, .mov (.c (.bool false)), none⟩])
    (.seq (.reg [⟨some 3, .mov (.t 0), none⟩,
      ⟨some 4, .call 71 [.t 3, .c (.int .i64 0), .c (.int .i64 5761439)], none⟩,
      ⟨some 2, .mov (.t 4), none⟩])
    .ret))
def rs_base_Moment : List IRes := [.t 2]
theorem ck_base_Moment : chkF Tryz.prog Tryz.f92 ir_base_Moment rs_base_Moment 5 = true := by kernel_rfl
/- paperchase/chaseref1.Moment -/
def ir_chaseref1_Moment : IC :=
  (.seq (.reg [⟨some 2, .mov (.c (.bool false)), none⟩])
    (.seq (.reg [⟨some 3, .mov (.t 0), none⟩,
      ⟨some 4, .bin .geq (.t 3) (.c (.int .i64 0)), none⟩,
      ⟨some 5, .mov (.t 4), none⟩,
      ⟨some 6, .mov (.t 0), (some (5, true))⟩,
      ⟨some 7, .bin .lss (.t 6) (.c (.int .i64 5761440)), (some (5, true))⟩,
      ⟨some 8, .pick (.t 5) (.t 7) (.c (.bool false)), none⟩,
      ⟨some 2, .mov (.t 8), none⟩])
    .ret))
def rs_chaseref1_Moment : List IRes := [.t 2]
theorem ck_chaseref1_Moment : chkF Tryz.prog Tryz.f32 ir_chaseref1_Moment rs_chaseref1_Moment 9 = true := by kernel_rfl

section
variable {E : Envt}
theorem Moment_ok (n : Int) : PCall Tryz.prog E 92 [int n] (· = .bool (inE n 0 5761439)) := by
  refine pcallF mixed Tryz.func92 ck_base_Moment ?_
  simp only [a0, l0, OS.ao, List.map_cons, List.map_nil, List.length_cons, List.length_nil, List.cons_append, List.nil_append, Nat.reduceSub, Nat.reduceAdd, List.replicate_succ, List.replicate_zero, ir_base_Moment, rs_base_Moment, ZZ, YY, Ze, ite_true, ite_false, forall_const, reduceCtorEq, Nat.reduceAdd, Nat.reduceMul, Nat.reduceLeDiff, Nat.reduceLT, Nat.reduceEqDiff]
  refine use1 (In_ok n 0 5761439) rfl (.inl rfl) ?_
  simp only [ZZ, YY, Ze, ite_true, ite_false, forall_const, reduceCtorEq, Nat.reduceAdd, Nat.reduceMul, Nat.reduceLeDiff, Nat.reduceLT, Nat.reduceEqDiff]
theorem MomentR_ok (n : Int) : PCall Tryz.prog E 32 [int n] (· = .bool (inE n 0 5761439)) := by
  refine pcallF mixed Tryz.func32 ck_chaseref1_Moment ?_
  simp only [a0, l0, OS.ao, List.map_cons, List.map_nil, List.length_cons, List.length_nil, List.cons_append, List.nil_append, Nat.reduceSub, Nat.reduceAdd, List.replicate_succ, List.replicate_zero, ir_chaseref1_Moment, rs_chaseref1_Moment, ZZ, YY, Ze, ite_true, ite_false, forall_const, reduceCtorEq, Nat.reduceAdd, Nat.reduceMul, Nat.reduceLeDiff, Nat.reduceLT, Nat.reduceEqDiff]
  have : (decide (0 ≤ n) && decide (n < 5761440)) = inE n 0 5761439 := by
    unfold inE
    rw [Bool.eq_iff_iff]
    simp only [Bool.and_eq_true, decide_eq_true_eq]
    omega
  rw [this]
end
end Go.Proofs.YtidmphcocnaonaaGreatDoor

/- Letters and words. -/
namespace Go.Proofs.YtidmphcocnaonaaGreatDoor
open Go.RowKit
set_option linter.unusedVariables false
set_option linter.unusedSimpArgs false
set_option linter.defProp false

/- paperchase/base.Digit -/
def ir_base_Digit : IC :=
  (.seq (.reg [⟨some 2, .mov (.c (.bool false)), none⟩])
    (.seq (.reg [⟨some 3, .mov (.t 0), none⟩,
      ⟨some 4, .bin .geq (.t 3) (.c (.int .u8 48)), none⟩,
      ⟨some 5, .mov (.t 4), none⟩,
      ⟨some 6, .mov (.t 0), (some (5, true))⟩,
      ⟨some 7, .bin .leq (.t 6) (.c (.int .u8 57)), (some (5, true))⟩,
      ⟨some 8, .pick (.t 5) (.t 7) (.c (.bool false)), none⟩,
      ⟨some 2, .mov (.t 8), none⟩])
    .ret))
def rs_base_Digit : List IRes := [.t 2]
theorem ck_base_Digit : chkF Tryz.prog Tryz.f240 ir_base_Digit rs_base_Digit 9 = true := by kernel_rfl


abbrev tStr : Nat := 9
def digB (c : UInt8) : Bool := decide (48 ≤ (c.toNat : Int)) && decide ((c.toNat : Int) ≤ 57)
section
variable {E : Envt}
theorem Digit_ok (c : UInt8) : PCall Tryz.prog E 240 [.int .u8 (c.toNat : Nat)] (· = .bool (digB c)) := by
  refine pcallF mixed Tryz.func240 ck_base_Digit ?_
  simp only [a0, l0, OS.ao, List.map_cons, List.map_nil, List.length_cons, List.length_nil, List.cons_append, List.nil_append, Nat.reduceSub, Nat.reduceAdd, List.replicate_succ, List.replicate_zero, ir_base_Digit, rs_base_Digit, ZZ, YY, Ze, ite_true, ite_false, forall_const, reduceCtorEq, Nat.reduceAdd, Nat.reduceMul, Nat.reduceLeDiff, Nat.reduceLT, Nat.reduceEqDiff]
  ((repeat' (with_reducible apply And.intro)) <;> try ((first | first | assumption | trivial | exact (fun hq => by rw [hq]; rfl) | exact i64_of (by omega) (by omega) | omega | (simp; done) | (simp; omega) | (intro hsc; have hs0 := hsc; (try have hsd := of_decide_eq_true hsc); (try simp only [Bool.not_eq_true', Bool.or_eq_false_iff, Bool.and_eq_true, Bool.or_eq_true, decide_eq_true_eq, decide_eq_false_iff_not] at hsc); (repeat' (with_reducible apply And.intro)) <;> (first | assumption | trivial | exact (fun hq => by rw [hq]; rfl) | exact i64_of (by omega) (by omega) | omega | (simp; done) | (simp; omega) | (intro hse; simp [hse, hs0]; done) | (intro hse; simp only [hse, hs0, Bool.true_and, Bool.and_true, Bool.not_false, Bool.not_true, Bool.and_self]; done))))))
def strE (l : List (List UInt8)) : List (List PV) := l.map fun x => [PV.str x]
theorem strE_len (l : List (List UInt8)) : (strE l).length = l.length := by simp [strE]
theorem strE_app (l m : List (List UInt8)) : strE (l ++ m) = strE l ++ strE m := by simp [strE]
theorem strs_eq (l : List (List UInt8)) : strs l = .sl 1 (strE l) := rfl
theorem strE_get {l : List (List UInt8)} {k : Nat} {x : List UInt8} (h : l[k]? = some x) : (strE l).getD k [] = [.str x] := getD_map h
end
section
variable {E : Envt}
end
end Go.Proofs.YtidmphcocnaonaaGreatDoor

/- strings.IndexRune at a rune beyond ASCII in an ASCII string; strings.IndexAny of any string at ASCII letters. -/
namespace Go.Proofs.YtidmphcocnaonaaGreatDoor
open Go.Shelf Go.RowKit Go.Lib
set_option linter.unusedVariables false
set_option linter.unusedSimpArgs false
set_option linter.defProp false

theorem get_bang {s : ByteArray} {j : Nat} (h : j < s.size) : s.get! j = s[j]'h := by
  simp [ByteArray.get!, getElem!_pos, h]
  rfl
theorem decode_high (s : ByteArray) (pos : Nat) (h : pos < s.size) (ha : 128 ≤ (s[pos]'h).toNat) :
    128 ≤ (Utf8.decode s pos).1 ∧ (Utf8.decode s pos).1 ≤ 1114111 ∧ 1 ≤ (Utf8.decode s pos).2 ∧ pos + (Utf8.decode s pos).2 ≤ s.size ∧ ∀ j (hj : j < s.size), pos ≤ j → j < pos + (Utf8.decode s pos).2 → 128 ≤ (s[j]'hj).toNat := by
  have g0 : s.get! (pos + 0) = s[pos]'h := get_bang h
  have hb : (s[pos]'h).toNat < 256 := (s[pos]'h).toNat_lt
  have hc : ∀ k, (decide (pos + k < s.size) && ((s.get! (pos + k)).toNat / 64 == 2)) = true → ∃ hk : pos + k < s.size, 128 ≤ (s[pos + k]'hk).toNat := by
    intro k hk
    simp only [Bool.and_eq_true, decide_eq_true_eq, beq_iff_eq] at hk
    refine ⟨hk.1, ?_⟩
    have := hk.2
    rw [get_bang hk.1] at this
    omega
  have one : ∀ j (hj : j < s.size), pos ≤ j → j < pos + 1 → 128 ≤ (s[j]'hj).toNat := by
    intro j hj h1 h2
    obtain rfl : j = pos := by omega
    exact ha
  have hw : ∀ n, n ≤ 4 → (∀ k, 1 ≤ k → k < n → (decide (pos + k < s.size) && ((s.get! (pos + k)).toNat / 64 == 2)) = true) → 1 ≤ n → pos + n ≤ s.size ∧ ∀ j (hj : j < s.size), pos ≤ j → j < pos + n → 128 ≤ (s[j]'hj).toNat := by
    intro n hn hk h1
    constructor
    · by_cases e : n = 1
      · omega
      · obtain ⟨hx, _⟩ := hc (n - 1) (hk (n - 1) (by omega) (by omega))
        omega
    · intro j hj j1 j2
      by_cases e : j = pos
      · subst e; exact ha
      · obtain ⟨k, rfl⟩ : ∃ k, j = pos + k := ⟨j - pos, by omega⟩
        obtain ⟨_, hx⟩ := hc k (hk k (by omega) (by omega))
        exact hx
  unfold Utf8.decode
  simp only [g0]
  rw [if_neg (by omega)]
  split
  · rename_i h1
    simp only [Bool.and_eq_true] at h1
    split
    · rename_i h2
      refine ⟨by omega, by omega, (by show 1 ≤ 2; decide), ?_⟩
      exact hw 2 (by decide) (fun k k1 k2 => by obtain rfl : k = 1 := by omega
                                                simpa using h1.2) (by decide)
    · exact ⟨by decide, by decide, by decide, by omega, one⟩
  · split
    · rename_i h1
      simp only [Bool.and_eq_true] at h1
      split
      · rename_i h2
        simp only [Bool.and_eq_true, decide_eq_true_eq] at h2
        refine ⟨by omega, ?_, (by show 1 ≤ 3; decide), ?_⟩
        · have := h2.2
          rw [Utf8.valid] at this
          simp only [Bool.or_eq_true, Bool.and_eq_true, decide_eq_true_eq] at this
          omega
        · exact hw 3 (by decide) (fun k k1 k2 => by
            rcases (show k = 1 ∨ k = 2 by omega) with rfl | rfl
            · simpa using h1.1.2
            · simpa using h1.2) (by decide)
      · exact ⟨by decide, by decide, by decide, by omega, one⟩
    · split
      · rename_i h1
        simp only [Bool.and_eq_true] at h1
        split
        · rename_i h2
          simp only [Bool.and_eq_true, decide_eq_true_eq] at h2
          refine ⟨by omega, ?_, (by show 1 ≤ 4; decide), ?_⟩
          · have := h2.2
            rw [Utf8.valid] at this
            simp only [Bool.or_eq_true, Bool.and_eq_true, decide_eq_true_eq] at this
            omega
          · exact hw 4 (by decide) (fun k k1 k2 => by
              rcases (show k = 1 ∨ k = 2 ∨ k = 3 by omega) with rfl | rfl | rfl
              · simpa using h1.1.1.2
              · simpa using h1.1.2
              · simpa using h1.2) (by decide)
        · exact ⟨by decide, by decide, by decide, by omega, one⟩
      · exact ⟨by decide, by decide, by decide, by omega, one⟩

/-- The next rune of a string that is ranged over. -/
theorem run_next_any {P : Program} (w : World) (g : Nat) (s : ByteArray) (pos : Nat) (ty : TypeId) (hg : w.heap[g]? = some (.stringIter s pos)) (h : pos < s.size) :
    (Instr.next (.pointer (some ⟨g, 0, none⟩)) true ty).run P w = .ok (.tuple #[.bool true, .int .i64 pos, .int .i32 (Utf8.decode s pos).1]) { w with heap := w.heap.setIfInBounds g (.stringIter s (pos + (Utf8.decode s pos).2)) } := by
  simp only [Instr.next, getObj, setObj, Sem.run_bind, Sem.run, hg, Result.andThen, h, if_true]
  rfl
theorem run_next_over {P : Program} (w : World) (g : Nat) (s : ByteArray) (pos : Nat) (ty : TypeId) (hg : w.heap[g]? = some (.stringIter s pos)) (h : ¬ pos < s.size) :
    (Instr.next (.pointer (some ⟨g, 0, none⟩)) true ty).run P w = .ok (.tuple #[.bool false]) w := by
  simp only [Instr.next, getObj, Sem.run_bind, Sem.run, hg, Result.andThen, h, if_false]
  rfl

theorem indexByte_absent {l : List UInt8} {c : UInt8} (h : ∀ b ∈ l, b ≠ c) : Lib.indexByte l c = -1 := by
  have h1 := Lib.contains_iff_indexByte l c
  have h2 : l.contains c = false := by
    rw [Bool.eq_false_iff]
    intro h3
    exact h c (by simpa using h3) rfl
  rw [h2] at h1
  have h3 : ¬ (0 : Int) ≤ Lib.indexByte l c := of_decide_eq_false h1.symm
  have h4 : -1 ≤ Lib.indexByte l c := by rw [← Lib.indexAny_one]; exact Lib.indexAny_ge _ _
  omega

def Asc (s : ByteArray) : Prop := ∀ (j : Nat) (b : UInt8), s.data.toList[j]? = some b → b.toNat < 128
theorem Asc.at' {s : ByteArray} (h : Asc s) {j : Nat} (hj : j < s.size) : (s[j]'hj).toNat < 128 := h j _ (Lib.data_getElem? s j hj)
theorem Asc.rest {s : ByteArray} (h : Asc s) (i : Nat) {c : UInt8} (hc : 128 ≤ c.toNat) : Lib.indexByte (s.extract i s.size).data.toList c = -1 := by
  refine indexByte_absent fun b hb e => ?_
  have hb := mem_extract hb
  obtain ⟨j, hj⟩ := List.getElem?_of_mem hb
  have := h j b hj
  rw [e] at this
  omega

theorem iter_step {w wx : World} {s : ByteArray} {i : Nat} (hit : wx.heap[w.heap.size]? = some (.stringIter s i)) (hbl : Below w.heap.size w wx) (j : Nat) :
    ({ wx with heap := wx.heap.setIfInBounds w.heap.size (.stringIter s j) } : World).heap[w.heap.size]? = some (.stringIter s j) ∧ Below w.heap.size w { wx with heap := wx.heap.setIfInBounds w.heap.size (.stringIter s j) } := by
  have hlt : w.heap.size < wx.heap.size := (Array.getElem?_eq_some_iff.1 hit).1
  refine ⟨by simp [hlt], hbl.os, hbl.tape, hbl.output, by simpa using hbl.size, fun b hb => ?_⟩
  rw [← hbl.block b hb]
  exact Array.getElem?_setIfInBounds_ne (by omega)
theorem noAny_high {s chars : ByteArray} (ha : Asc chars) {i n : Nat} (h : Lib.NoAny s.data.toList chars.data.toList i) (hn : ∀ j (hj : j < s.size), i ≤ j → j < i + n → 128 ≤ (s[j]'hj).toNat) : Lib.NoAny s.data.toList chars.data.toList (i + n) := by
  intro j b hj hb
  by_cases hji : j < i
  · exact h j b hji hb
  · have hjs : j < s.size := by
      have := (List.getElem?_eq_some_iff.1 hb).1
      rwa [← Lib.size_eq] at this
    have h1 := hn j hjs (by omega) hj
    have h2 : s[j]'hjs = b := by
      have := Lib.data_getElem? s j hjs
      rw [this] at hb; exact Option.some.inj hb
    rw [h2] at h1
    rw [Bool.eq_false_iff]
    intro h3
    have h3 : b ∈ chars.data.toList := by simpa using h3
    obtain ⟨k, hk⟩ := List.getElem?_of_mem h3
    have := ha k b hk
    omega
theorem below_drewN {B : Nat} {a w : World} {n : Nat} (h : Below B a w) : Below B a (w.drewN n) := ⟨h.os, h.tape, h.output, h.size, h.block⟩

section
variable {P : Program} {ρ : Ren}
set_option maxHeartbeats 4000000 in
set_option maxRecDepth 1000000 in
theorem IndexRune_err (L : Lays.n152 P ρ) (s : ByteArray) (w : World) (hs : Asc s) :
    Calls P (ρ.f 152) #[.string s, .int .i32 65533] w fun e w' => e = .returned (.int .i64 (-1)) ∧ Below w.heap.size w w' := by
  have HA : Aside (Asc s) := hs
  clear hs
  have t3 := L.t3; have a3 := L.a3; have z3 := L.z3; have v3 := L.v3
  have t4 := L.t4; have a4 := L.a4; have z4 := L.z4; have v4 := L.v4
  have t5 := L.t5; have a5 := L.a5; have z5 := L.z5; have v5 := L.v5
  have t9 := L.t9; have a9 := L.a9; have z9 := L.z9; have v9 := L.v9
  have t21 := L.t21; have a21 := L.a21; have z21 := L.z21; have v21 := L.v21
  go_enter L.f152, Body.n152_ntmps ρ
  go_wp2
  go_loopg [5, 6] s.size (fun g _ _ wx => ∃ i : Nat, i + g = s.size ∧ wx = w.iter s i)
  case atStart => exact ⟨0, by omega, rfl⟩
  case round =>
    obtain ⟨i, hig, rfl⟩ := hrel
    cases gk with
    | zero =>
      obtain rfl : i = s.size := by omega
      have hnx := run_next_end (P := P) w s s.size
      go_wp2
      go_ret
      exact ⟨rfl, (Below.refl _ _).alloc (Nat.le_refl _) _⟩
    | succ g =>
      have hi : i < s.size := by omega
      have hx128 := HA.out.at' hi
      have hnx := fun ty => run_next_ascii (P := P) w s i ty hi hx128
      have hne : (((s[i]'hi).toNat : Int) == 65533) = false := beq_eq_false_iff_ne.2 (by omega)
      go_wp2
      go_roundg g
      case measure => omega
      case rel => exact ⟨i + 1, by omega, rfl⟩

set_option maxHeartbeats 8000000 in
set_option maxRecDepth 1000000 in
theorem IndexRune_val (L : Lays.n152 P ρ) (s : ByteArray) (r : Int) (w : World) (hs : Asc s) (hz : s.size < 4611686018427387904) (h1 : 128 ≤ r) (h2 : r ≤ 1114111) (h3 : r ≠ 65533) :
    Calls P (ρ.f 152) #[.string s, .int .i32 r] w fun e w' => e = .returned (.int .i64 (-1)) ∧ Below w.heap.size w w' := by
  have HA : Aside (Asc s) := hs
  clear hs
  have hne : (r == 65533) = false := beq_eq_false_iff_ne.2 h3
  have hlt : decide (r < 128) = false := decide_eq_false (by omega)
  have hle : decide (0 ≤ r) = true := decide_eq_true (by omega)
  have t3 := L.t3; have a3 := L.a3; have z3 := L.z3; have v3 := L.v3
  have t4 := L.t4; have a4 := L.a4; have z4 := L.z4; have v4 := L.v4
  have t5 := L.t5; have a5 := L.a5; have z5 := L.z5; have v5 := L.v5
  have t9 := L.t9; have a9 := L.a9; have z9 := L.z9; have v9 := L.v9
  have t21 := L.t21; have a21 := L.a21; have z21 := L.z21; have v21 := L.v21
  have mixed := L.mixed
  have e119 : ∀ args w, (callFunc (ρ.f 119) args).run P w = .ok (.enter (ρ.f 119) args) w := enters_of L.f119 (by kernel_rfl) rfl
  have e137 : ∀ args w, (callFunc (ρ.f 137) args).run P w = .ok (.enter (ρ.f 137) args) w := enters_of L.f137 (by kernel_rfl) rfl
  by_cases hv : Lib.validRune r = true
  · have hv2 : Utf8.valid r = true := by
      unfold Utf8.valid
      have h := hv
      unfold Lib.validRune at h
      simp at h ⊢
      omega
    obtain ⟨m1, m2, m3⟩ := encode_facts r hv2 h1
    generalize hE : Utf8.encode r = rs at *
    obtain ⟨m, hm⟩ : ∃ m, rs.size = m + 1 := ⟨rs.size - 1, by omega⟩
    have hmr : m < rs.size := by omega
    have m3' : 128 ≤ (rs[m]'hmr).toNat := by
      have h := m3 (by omega)
      have e : rs.size - 1 = m := by omega
      simpa only [e] using h
    clear m3
    have w1 : IntKind.i64.wrap ((rs.size : Int) - 1) = (m : Int) := by rw [wrap_small _ (by omega) (by omega)]; omega
    have hx := HA.out.rest (m + 1) m3'
    have w4 : m < s.size → IntKind.i64.wrap ((m : Int) + 1) = (m : Int) + 1 := fun _ => wrap_small _ (by omega) (by omega)
    clear hm m1 m2
    go_enter L.f152, Body.n152_ntmps ρ
    go_wp2_with (go_at_fn (ρ.f 119); refine (Any.utf8_ValidRune { L with } _ _).mono ?_; rintro e w' ⟨rfl, hw⟩; rw [hw])
    go_step3
    go_wp2
    go_loopg [9] 1 (fun g s9 wx => g = 1 ∧ s9 = .int .i64 (m : Int) ∧ wx = w)
    case atStart => exact ⟨rfl, rfl, rfl⟩
    case round =>
      obtain ⟨rfl, rfl, rfl⟩ := hrel
      by_cases hin : m < s.size
      · have w3 : decide ((m : Int) < (s.size : Int)) = true := decide_eq_true (by omega)
        have hb : (((s[m]'hin).toNat : Int) == ((rs[m]'hmr).toNat : Int)) = false := beq_eq_false_iff_ne.2 (by have := HA.out.at' hin; omega)
        have w4 := w4 hin
        have i3 : (m : Int) + 1 ≤ (s.size : Int) := by omega
        have i4 : ¬ (s.size : Int) < (m : Int) + 1 := by omega
        have i5 : (0 : Int) ≤ (m : Int) + 1 := by omega
        have i6 : ((m : Int) + 1).toNat = m + 1 := by omega
        have i7 : ¬ (s.size : Int) < (m : Int) := by omega
        go_wp2_with fail
        go_step3
        go_wp2_with fail
        go_quiet_o (fail)
        go_wp2_with fail
        have hc : ∀ W, Calls P (ρ.f 137) #[.string (s.extract (m + 1) s.size), .int .u8 ((rs[m]'hmr).toNat : Int)] W fun e w' => e = .returned (.int .i64 (-1)) ∧ w' = W := fun W => by
          have h := Any.strings_IndexByte (P := P) (ρ := ρ) { L with } (s.extract (m + 1) s.size) ((rs[m]'hmr).toNat : Int) W
          rwa [show (((rs[m]'hmr).toNat : Int)).toNat.toUInt8 = rs[m]'hmr from by simp, hx] at h
        go_quiet_o (exact (hc _).mono fun _ _ h => ⟨h.1, _, h.2⟩)
        go_wp2_with fail
        simp only [Exit.noGoto, Exit.inBlock, Exit.then]
        go_ret
        exact ⟨rfl, below_drewN (Below.refl _ _)⟩
      · have w3 : decide ((m : Int) < (s.size : Int)) = false := decide_eq_false (by omega)
        go_wp2
        rw [Exit.noGoto_ret]
        go_ret
        exact ⟨rfl, Below.refl _ _⟩
  · have hv' : Lib.validRune r = false := Bool.eq_false_iff.2 hv
    go_enter L.f152, Body.n152_ntmps ρ
    go_wp2_with (go_at_fn (ρ.f 119); refine (Any.utf8_ValidRune { L with } _ _).mono ?_; rintro e w' ⟨rfl, rfl⟩)
    go_ret
    exact ⟨rfl, Below.refl _ _⟩

theorem IndexRune_high (L : Lays.n152 P ρ) (s : ByteArray) (r : Int) (w : World) (hs : Asc s) (hz : s.size < 4611686018427387904) (h1 : 128 ≤ r) (h2 : r ≤ 1114111) :
    Calls P (ρ.f 152) #[.string s, .int .i32 r] w fun e w' => e = .returned (.int .i64 (-1)) ∧ Below w.heap.size w w' := by
  by_cases h3 : r = 65533
  · subst h3; exact IndexRune_err L s w hs
  · exact IndexRune_val L s r w hs hz h1 h2 h3

set_option maxHeartbeats 8000000 in
set_option maxRecDepth 1000000 in
/-- A string of at most eight bytes, whatever they are. -/
theorem IndexAny_short (L : Lays.n153 P ρ) (s chars : ByteArray) (w : World) (h2 : 2 ≤ chars.size) (h8 : s.size ≤ 8) (hz : chars.size < 4611686018427387904) (hascii : Asc chars) :
    Calls P (ρ.f 153) #[.string s, .string chars] w fun e w' => e = .returned (.int .i64 (Lib.indexAny s.data.toList chars.data.toList)) ∧ Below w.heap.size w w' := by
  have HA : Aside (Asc chars) := hascii
  clear hascii
  have hemp : chars.toList.isEmpty = false := by
    rw [Lib.toList_data]
    cases h : chars.data.toList with
    | nil => have := Lib.size_eq chars; rw [h, List.length_nil] at this; omega
    | cons _ _ => rfl
  have hn1 : ((chars.size : Int) == 1) = false := beq_eq_false_iff_ne.2 (by omega)
  have h8z : decide ((8 : Int) < (s.size : Int)) = false := decide_eq_false (by omega)
  have t3 := L.t3; have a3 := L.a3; have z3 := L.z3; have v3 := L.v3
  have t4 := L.t4; have a4 := L.a4; have z4 := L.z4; have v4 := L.v4
  have t5 := L.t5; have a5 := L.a5; have z5 := L.z5; have v5 := L.v5
  have t9 := L.t9; have a9 := L.a9; have z9 := L.z9; have v9 := L.v9
  have t21 := L.t21; have a21 := L.a21; have z21 := L.z21; have v21 := L.v21
  have e152 : ∀ args w, (callFunc (ρ.f 152) args).run P w = .ok (.enter (ρ.f 152) args) w := enters_of L.f152 (by kernel_rfl) rfl
  have e226 : ∀ args w, (callFunc (ρ.f 226) args).run P w = .ok (.enter (ρ.f 226) args) w := enters_of L.f226 (by kernel_rfl) rfl
  go_enter L.f153, Body.n153_ntmps ρ
  go_wp2_with (go_at_fn (ρ.f 226); refine (Any.strings_shouldUseASCIISet { L with } _ _).mono ?_; rintro e w' ⟨rfl, hw⟩; rw [hw, h8z])
  go_loopg [9, 10] s.size (fun g _ _ wx => ∃ i : Nat, i ≤ s.size ∧ s.size - i ≤ g ∧ wx.heap[w.heap.size]? = some (.stringIter s i) ∧ Below w.heap.size w wx ∧ Lib.NoAny s.data.toList chars.data.toList i)
  case atStart => exact ⟨0, by omega, by omega, by rw [World.iter_heap], (Below.refl _ _).alloc (Nat.le_refl _) _, Lib.NoAny.zero _ _⟩
  case round =>
    obtain ⟨i, his, hig, hit, hbl, hno⟩ := hrel
    have HN : Aside (Lib.NoAny s.data.toList chars.data.toList i) := hno
    clear hno
    by_cases hi : i < s.size
    · obtain ⟨g, rfl⟩ : ∃ g, gk = g + 1 := ⟨gk - 1, by omega⟩
      by_cases hx128 : (s[i]'hi).toNat < 128
      · obtain ⟨x, hx⟩ : ∃ x : UInt8, s[i]'hi = x := ⟨_, rfl⟩
        have hnx := fun ty => run_next_any (P := P) wr w.heap.size s i ty hit hi
        obtain ⟨k1, k2⟩ := iter_step hit hbl (i + 1)
        rw [decode_ascii s i hi hx128] at hnx
        simp only [hx] at hnx hx128
        have hxl : s.data.toList[i]? = some x := by rw [← hx]; exact Lib.data_getElem? s i hi
        generalize hW : ({ wr with heap := wr.heap.setIfInBounds w.heap.size (.stringIter s (i + 1)) } : World) = W1 at *
        have Hx : Aside (s.data.toList[i]? = some x) := hxl
        clear hxl hx hW
        have hcon := Lib.contains_iff_indexByte chars.data.toList x
        have hback : ((x.toNat : Int)).toNat.toUInt8 = x := by simp
        cases hin : chars.data.toList.contains x
        · rw [hin] at hcon
          have hlt : ¬ ((0 : Int) ≤ Lib.indexByte chars.data.toList x) := of_decide_eq_false hcon.symm
          clear hcon
          go_wp2_with (go_at_fn (ρ.f 152); refine (Any.strings_IndexRune_ascii { L with } _ _ _ (by omega) (by omega)).mono ?_; rintro e w' ⟨rfl, hw⟩; rw [hw, hback])
          go_roundg g
          case measure => omega
          case rel => exact ⟨i + 1, by omega, by omega, k1, k2, HN.out.succ Hx.out hin⟩
        · rw [hin] at hcon
          have hge : (0 : Int) ≤ Lib.indexByte chars.data.toList x := of_decide_eq_true hcon.symm
          clear hcon
          go_wp2_with (go_at_fn (ρ.f 152); refine (Any.strings_IndexRune_ascii { L with } _ _ _ (by omega) (by omega)).mono ?_; rintro e w' ⟨rfl, hw⟩; rw [hw, hback])
          go_ret
          exact ⟨by rw [Lib.indexAny_hit HN.out Hx.out hin]; rfl, k2⟩
      · obtain ⟨d1, d2, d3, d4, d5⟩ := decode_high s i hi (by omega)
        have hnx := fun ty => run_next_any (P := P) wr w.heap.size s i ty hit hi
        obtain ⟨k1, k2⟩ := iter_step hit hbl (i + (Utf8.decode s i).2)
        generalize hW : ({ wr with heap := wr.heap.setIfInBounds w.heap.size (.stringIter s (i + (Utf8.decode s i).2)) } : World) = W1 at *
        have H5 : Aside (Lib.NoAny s.data.toList chars.data.toList (i + (Utf8.decode s i).2)) := noAny_high HA.out HN.out d5
        clear d5 hW
        generalize (Utf8.decode s i).2 = wd at *
        generalize hcc : (((Utf8.decode s i).1 : Nat) : Int) = cc at *
        have hc1 : 128 ≤ cc := by omega
        have hc2 : cc ≤ 1114111 := by omega
        clear hcc d1 d2
        have hneg : ¬ (0 : Int) ≤ -1 := by decide
        go_wp2_with (go_at_fn (ρ.f 152); refine (IndexRune_high { L with } chars cc W1 HA.out hz hc1 hc2).mono ?_; rintro e w' ⟨rfl, hw⟩)
        go_roundg g
        case measure => omega
        case rel => exact ⟨i + wd, by omega, by omega, by rw [hw.block _ (Array.getElem?_eq_some_iff.1 k1).1]; exact k1, k2.trans (hw.mono k2.size), H5.out⟩
    · obtain rfl : i = s.size := by omega
      have hnx := fun ty => run_next_over (P := P) _ _ s s.size ty hit (by omega)
      go_wp2
      go_ret
      exact ⟨by rw [Lib.indexAny_none (by rw [← Lib.size_eq]; exact HN.out)]; rfl, hbl⟩

/-- strings.IndexAny of any string, at ASCII letters. -/
theorem IndexAny_all (L : Lays.n153 P ρ) (h116 : (P.info? (ρ.t 116)).map (fun i => (i.zero, i.size)) = some (some (.agg (Array.replicate 256 (.bool false))), 256)) (s chars : ByteArray) (w : World) (hs : s.size < 4294967281) (hcs : chars.size < 4294967281) (hac : Asc chars) :
    Calls P (ρ.f 153) #[.string s, .string chars] w fun e w' => e = .returned (.int .i64 (Lib.indexAny s.data.toList chars.data.toList)) ∧ Below w.heap.size w w' := by
  by_cases h0 : chars.size = 0
  · exact (Any.strings_IndexAny_none L s chars w h0).mono fun e w' ⟨h1, h2⟩ => ⟨h1, h2 ▸ Below.refl _ _⟩
  by_cases h1 : chars.size = 1
  · exact (Any.strings_IndexAny_one L s chars w h1 hac).mono fun e w' ⟨h1, h2⟩ => ⟨h1, h2 ▸ Below.refl _ _⟩
  by_cases h8 : s.size ≤ 8
  · exact IndexAny_short L s chars w (by omega) h8 (by omega) hac
  · refine (Any.strings_IndexAny_long L (zero_of_info h116).1 (zero_of_info h116).2 s chars w (by omega) (by omega) hs hcs hac).mono fun e w' ⟨h1, h2⟩ => ⟨h1, ?_⟩
    rw [h2]
    exact ((Below.refl _ _).alloc (Nat.le_refl _) _).alloc (by simp) _
end
end Go.Proofs.YtidmphcocnaonaaGreatDoor

/- strings.Split at one byte: its pieces. -/
namespace Go.Proofs.YtidmphcocnaonaaGreatDoor
open Go.RowKit
set_option linter.unusedVariables false
set_option linter.unusedSimpArgs false
set_option linter.defProp false

/-- Pieces. -/
def splF (s : List UInt8) (c : UInt8) : List (List UInt8) := (Lib.splitB ⟨#[c]⟩ 0 (Lib.countB ⟨s.toArray⟩ ⟨#[c]⟩) ⟨s.toArray⟩).map (·.data.toList)
theorem splitB_sizes (sep : ByteArray) : ∀ (k : Nat) (s : ByteArray), (Lib.splitB sep 0 k s).length ≤ k + 1 ∧ ∀ x ∈ Lib.splitB sep 0 k s, x.size ≤ s.size := by
  intro k
  induction k with
  | zero => intro s; simp [Lib.splitB]
  | succ k ih =>
    intro s
    unfold Lib.splitB
    split
    · simp
    · have := ih (s.extract ((Lib.indexB s sep).toNat + sep.size) s.size)
      refine ⟨by simp; omega, fun x hx => ?_⟩
      simp only [List.mem_cons] at hx
      rcases hx with rfl | hx
      · simp; omega
      · have := this.2 x hx; simp at this; omega
theorem splF_len (s : List UInt8) (c : UInt8) : (splF s c).length ≤ s.length + 1 := by
  have h1 := (splitB_sizes ⟨#[c]⟩ (Lib.countB ⟨s.toArray⟩ ⟨#[c]⟩) ⟨s.toArray⟩).1
  have h2 := Lib.countB_le ⟨#[c]⟩ (Nat.le_refl 1) (⟨s.toArray⟩ : ByteArray).size ⟨s.toArray⟩ (Nat.le_refl _)
  rw [ba_size] at h2
  simp only [splF, List.length_map]
  omega
theorem splF_mem (s : List UInt8) (c : UInt8) : ∀ x ∈ splF s c, x.length ≤ s.length := by
  intro x hx
  simp only [splF, List.mem_map] at hx
  obtain ⟨y, hy, rfl⟩ := hx
  have := (splitB_sizes ⟨#[c]⟩ (Lib.countB ⟨s.toArray⟩ ⟨#[c]⟩) ⟨s.toArray⟩).2 y hy
  rw [ba_size] at this
  rw [Array.length_toList]
  exact this
theorem repE_strs' {w : World} {U : Nat → Prop} {b : Nat} : ∀ (l : List ByteArray) (off : Nat), (∀ i x, l[i]? = some x → w.cell? ⟨b, off + i, none⟩ = some (.string x)) → PRepE w U b 1 off ((l.map (·.data.toList)).map fun x => [.str x])
  | [], off, h => trivial
  | x :: r, off, h => by
    refine ⟨rfl, ⟨⟨.string x, by simpa using h 0 _ rfl, rfl, ?_⟩, trivial⟩, repE_strs' r (off + 1) fun i u hu => ?_⟩
    · simp [PRep]
    · have := h (i + 1) u (by simpa using hu)
      rwa [show off + (i + 1) = off + 1 + i from by omega] at this
theorem splInfo : (Tryz.prog.info? 9).map (fun i => (i.zero, i.size, i.bytes)) = some (some (.string ByteArray.empty), 1, 16) := by kernel_rfl
theorem Split_ok (s : List UInt8) (c : UInt8) (hs : s.length ≤ 1000000000) : PCall Tryz.prog E0 93 [.str s, .str [c]] (· = strs (splF s c)) := by
  intro w U vs hU hE hEb hA
  obtain ⟨_, m, hm⟩ := hE
  simp only [PRepL, PRep] at hA
  obtain ⟨v, r, rfl, rfl, v2, r2, rfl, rfl, rfl⟩ := hA
  refine (Any.strings_Split Tryz.laySplit splInfo ⟨s.toArray⟩ ⟨#[c]⟩ m w (by rw [ba_size]; omega) hm (Nat.le_refl 1)).mono ?_
  rintro e w' ⟨rfl, rfl⟩
  have hl := Lib.splitB_all ⟨#[c]⟩ (Nat.le_refl 1) 0 _ (⟨s.toArray⟩ : ByteArray) rfl
  refine ⟨_, _, rfl, rfl, ?_, ⟨rfl, rfl, rfl, by simp, fun k hk _ => Lib.alloc_old w _ k hk⟩⟩
  have hln : (List.map (fun x => [PV.str x]) (splF s c)).length = Lib.countB ⟨s.toArray⟩ ⟨#[c]⟩ + 1 := by simp [splF, hl]
  refine ⟨some ⟨w.heap.size, 0, none⟩, Lib.countB ⟨s.toArray⟩ ⟨#[c]⟩ + 1, by rw [hln], by rw [hln]; exact Nat.le_refl _, fun _ => ⟨w.heap.size, 0, rfl, by simp, fun h => by have := hU _ h; omega, ?_⟩⟩
  · refine repE_strs' _ 0 fun i x hx => ?_
    rw [Lib.cell_of_heap (heap_alloc_new w _)]
    simp [hx]
end Go.Proofs.YtidmphcocnaonaaGreatDoor

/- Sets of bytes, cuts and splits of strings. -/
namespace Go.Proofs.YtidmphcocnaonaaGreatDoor
open Go.RowKit
set_option linter.unusedVariables false
set_option linter.unusedSimpArgs false
set_option linter.defProp false

/- paperchase/chaseref1.made -/
def ir_chaseref1_made : IC :=
  (.seq (.reg [⟨some 4, .mov (.c (.bool false)), none⟩])
    (.seq (.reg [⟨some 5, .mov (.t 0), none⟩,
      ⟨some 6, .mov (.t 1), none⟩,
      ⟨some 7, .call 55 [.t 5, .t 6], none⟩,
      ⟨some 8, .bin .eql (.t 7) (.c (.str [])), none⟩,
      ⟨some 4, .mov (.t 8), none⟩])
    .ret))
def rs_chaseref1_made : List IRes := [.t 4]
theorem ck_chaseref1_made : chkF Tryz.prog Tryz.f116 ir_chaseref1_made rs_chaseref1_made 9 = true := by kernel_rfl


def madeF (s of : List UInt8) : Bool := decide (Lib.trimS s of = [])
theorem dropW_nil {p : UInt8 → Bool} : ∀ {l : List UInt8}, l.dropWhile p = [] ↔ l.all p = true
  | [] => by simp
  | x :: r => by
    simp only [List.dropWhile, List.all_cons]
    cases h : p x
    · simp
    · simpa using dropW_nil (l := r)
theorem madeF_all (s of : List UInt8) : madeF s of = s.all (fun c => of.contains c) := by
  rw [Bool.eq_iff_iff, madeF, decide_eq_true_iff, Lib.trimS, Lib.trimLeftS, Lib.trimRightS, dropW_nil]
  constructor
  · intro h
    have h2 : ∀ l : List UInt8, (l.dropWhile fun c => of.contains c).all (fun c => of.contains c) = true → l.all (fun c => of.contains c) = true := by
      intro l
      induction l with
      | nil => simp
      | cons x r ih =>
        simp only [List.dropWhile]
        cases hx : of.contains x
        · intro h; exact h
        · intro h; simp only [List.all_cons, hx, Bool.true_and]; exact ih h
    have := h2 s.reverse (by simpa [List.all_reverse] using h)
    simpa [List.all_reverse] using this
  · intro h
    have : (s.reverse.dropWhile fun c => of.contains c) = [] := dropW_nil.2 (by simpa [List.all_reverse] using h)
    rw [this]
    simp
section
variable {E : Envt}
def asc (l : List UInt8) : Bool := l.all fun b => decide (b.toNat < 128)
theorem asc_at {l : List UInt8} (h : asc l = true) : ∀ (j : Nat) b, (⟨l.toArray⟩ : ByteArray).data.toList[j]? = some b → b.toNat < 128 :=
  fun _ b hb => of_decide_eq_true (List.all_eq_true.1 h b (List.mem_of_getElem? (by simpa using hb)))
theorem IndexAny_ok (s cs : List UInt8) (hs : s.length ≤ 1000000000) (hcs : cs.length ≤ 1000000) (h2 : asc cs = true) : PCall Tryz.prog E 329 [.str s, .str cs] (· = int (Lib.indexAny s cs)) :=
  pcall_flat rfl rfl fun w _ => (IndexAny_all Tryz.layIndexAny (by kernel_rfl) ⟨s.toArray⟩ ⟨cs.toArray⟩ w (by rw [ba_size]; omega) (by rw [ba_size]; omega) (asc_at h2)).mono fun e w' h => ⟨h.1, grow_below h.2⟩
theorem TrimSet_ok (s cs : List UInt8) (hs : s.length ≤ 1000000000) (hcs : cs.length ≤ 1000000) (h2 : asc cs = true) : PCall Tryz.prog E 55 [.str s, .str cs] (· = .str (Lib.trimS s cs)) :=
  pcall_flat rfl rfl fun w _ => (Any.strings_Trim_laid Tryz.layTrim (by kernel_rfl) ⟨s.toArray⟩ ⟨cs.toArray⟩ w (by rw [ba_size]; omega) (by rw [ba_size]; omega) (asc_at h2)).mono fun e w' h => ⟨h.1, grow_below h.2⟩
theorem made_ok (s of : List UInt8) (hs : s.length ≤ 1000000000) (ho : of.length ≤ 1000) (ha : asc of = true) : PCall Tryz.prog E 116 [.str s, .str of] (· = .bool (madeF s of)) := by
  refine pcallF mixed Tryz.func116 ck_chaseref1_made ?_
  simp only [a0, l0, OS.ao, List.map_cons, List.map_nil, List.length_cons, List.length_nil, List.cons_append, List.nil_append, Nat.reduceSub, Nat.reduceAdd, List.replicate_succ, List.replicate_zero, ir_chaseref1_made, rs_chaseref1_made, ZZ, YY, Ze, ite_true, ite_false, forall_const, reduceCtorEq, Nat.reduceAdd, Nat.reduceMul, Nat.reduceLeDiff, Nat.reduceLT, Nat.reduceEqDiff]
  refine use1 (TrimSet_ok s of hs (by omega) ha) rfl (.inl rfl) ?_
  simp only [ZZ, YY, Ze, ite_true, ite_false, forall_const, reduceCtorEq, Nat.reduceAdd, Nat.reduceMul, Nat.reduceLeDiff, Nat.reduceLT, Nat.reduceEqDiff]
  rfl

/-- Cuts. -/
def cutF (s p : List UInt8) : List UInt8 × List UInt8 × Bool := if 0 ≤ Lib.index s p then (s.take (Lib.index s p).toNat, s.drop ((Lib.index s p).toNat + p.length), true) else (s, [], false)
end
theorem Cut_ok (s p : List UInt8) (hs : s.length ≤ 1000000000) : PCall Tryz.prog E0 115 [.str s, .str p] (· = .tup [.str (cutF s p).1, .str (cutF s p).2.1, .bool (cutF s p).2.2]) := by
  intro w U vs hU hE hEb hA
  obtain ⟨_, m, hm⟩ := hE
  simp only [PRepL, PRep] at hA
  obtain ⟨v, r, rfl, rfl, v2, r2, rfl, rfl, rfl⟩ := hA
  refine (Any.strings_Cut Tryz.layCut ⟨s.toArray⟩ ⟨p.toArray⟩ m w (by rw [ba_size]; omega) hm).mono ?_
  rintro e w' ⟨rfl, n, rfl⟩
  exact ⟨_, _, rfl, rfl, ⟨[_, _, _], rfl, _, _, rfl, rfl, _, _, rfl, rfl, _, _, rfl, rfl, rfl⟩, ⟨rfl, rfl, rfl, Nat.le_refl _, fun _ _ _ => rfl⟩⟩
theorem cutF_len (s p : List UInt8) : (cutF s p).1.length ≤ s.length ∧ (cutF s p).2.1.length ≤ s.length := by
  unfold cutF
  split
  · exact ⟨by simp; omega, by simp⟩
  · simp
end Go.Proofs.YtidmphcocnaonaaGreatDoor
