
/- Own texts, put together: C3 R3 R6 M8. -/
import Derived.Test.YthfpehmbellmcaaGreatDoorZ7
import Derived.Test.YthfpehmbellmcaaGreatDoorZ6
import Derived.Test.YthfpehmbellmcaaGreatDoorZ5
import Derived.Laws.Cover4
/- Memos and phrases: what makes them, Find, and the reference's FindOf. -/
namespace Go.Proofs.YthfpehmbellmcaaGreatDoor
open Go.RowKit
set_option linter.unusedVariables false
set_option linter.unusedSimpArgs false
set_option linter.defProp false

section
variable {E : Envt}
def idxF {α : Type} (q : α → Bool) (l : List α) : Int := match l.findIdx? q with | some i => (i : Int) | none => -1
theorem idxF_hit {α : Type} {q : α → Bool} {l : List α} {k : Nat} {x : α} (h : l[k]? = some x) (hx : q x = true) (hno : ∀ y ∈ l.take k, q y = false) : idxF q l = k := by
  obtain ⟨hk, hxk⟩ := List.getElem?_eq_some_iff.1 h
  have : l.findIdx? q = some k := by
    rw [List.findIdx?_eq_some_iff_getElem]
    refine ⟨hk, by rw [hxk]; exact hx, fun j hj => ?_⟩
    have := hno l[j] (by rw [List.mem_take_iff_getElem]; exact ⟨j, by omega, rfl⟩)
    simp [this]
  simp [idxF, this]
theorem idxF_none {α : Type} {q : α → Bool} {l : List α} (hno : ∀ y ∈ l, q y = false) : idxF q l = -1 := by
  have : l.findIdx? q = none := by rw [List.findIdx?_eq_none_iff]; exact hno
  simp [idxF, this]
theorem idxF_any {α : Type} (q : α → Bool) (l : List α) : decide ((0 : Int) ≤ idxF q l) = l.any q := by
  rw [← List.findIdx?_isSome]
  unfold idxF
  cases l.findIdx? q <;> simp
end
end Go.Proofs.YthfpehmbellmcaaGreatDoor

/- Keys, and what is wrong with documents, on both sides. -/
namespace Go.Proofs.YthfpehmbellmcaaGreatDoor
open Go.RowKit
set_option linter.unusedVariables false
set_option linter.unusedSimpArgs false
set_option linter.defProp false

/- paperchase/base.small -/
def ir_base_small : IC :=
  (.seq (.reg [⟨some 2, .mov (.c (.bool false)), none⟩])
    (.seq (.reg [⟨some 3, .mov (.t 0), none⟩,
      ⟨some 4, .bin .geq (.t 3) (.c (.int .u8 97)), none⟩,
      ⟨some 5, .mov (.t 4), none⟩,
      ⟨some 6, .mov (.t 0), (some (5, true))⟩,
      ⟨some 7, .bin .leq (.t 6) (.c (.int .u8 122)), (some (5, true))⟩,
      ⟨some 8, .pick (.t 5) (.t 7) (.c (.bool false)), none⟩,
      ⟨some 2, .mov (.t 8), none⟩])
    .ret))
def rs_base_small : List IRes := [.t 2]
theorem ck_base_small : chkF Tryz.prog Tryz.f147 ir_base_small rs_base_small 9 = true := by kernel_rfl
/- paperchase/base.Key -/
def ir_base_Key_L0 : IC :=
  (.seq (.reg [⟨some 18, .bin .lss (.t 17) (.t 16), none⟩])
    (.seq (.cond (.t 18) .skip (.exit 0))
    (.seq (.block 1 (.seq (.reg [⟨some 19, .mov (.t 17), none⟩,
      ⟨some 3, .mov (.t 19), none⟩])
    (.seq (.reg [⟨some 20, .mov (.t 0), none⟩,
      ⟨some 21, .mov (.t 3), none⟩,
      ⟨some 22, .idx (.t 20) (.t 21), none⟩,
      ⟨some 4, .mov (.t 22), none⟩])
    (.seq (.reg [⟨some 23, .mov (.t 4), none⟩,
      ⟨some 24, .call 147 [.t 23], none⟩,
      ⟨some 25, .not (.t 24), none⟩,
      ⟨some 26, .mov (.t 25), none⟩,
      ⟨some 27, .mov (.t 4), (some (26, true))⟩,
      ⟨some 28, .call 148 [.t 27], (some (26, true))⟩,
      ⟨some 29, .not (.t 28), (some (26, true))⟩,
      ⟨some 30, .pick (.t 26) (.t 29) (.c (.bool false)), none⟩,
      ⟨some 31, .mov (.t 30), none⟩,
      ⟨some 32, .mov (.t 4), (some (31, true))⟩,
      ⟨some 33, .bin .neq (.t 32) (.c (.int .u8 45)), (some (31, true))⟩,
      ⟨some 34, .pick (.t 31) (.t 33) (.c (.bool false)), none⟩,
      ⟨some 35, .mov (.t 34), none⟩,
      ⟨some 36, .mov (.t 4), (some (35, true))⟩,
      ⟨some 37, .bin .neq (.t 36) (.c (.int .u8 95)), (some (35, true))⟩,
      ⟨some 38, .pick (.t 35) (.t 37) (.c (.bool false)), none⟩])
    (.cond (.t 38) (.seq (.reg [⟨some 2, .mov (.c (.bool false)), none⟩])
    .ret) .skip)))))
    (.reg [⟨some 39, .bin .add (.t 17) (.c (.int .i64 1)), none⟩,
      ⟨some 17, .mov (.t 39), none⟩]))))
def ir_base_Key : IC :=
  (.seq (.reg [⟨some 2, .mov (.c (.bool false)), none⟩])
    (.seq (.seq (.reg [⟨some 5, .mov (.t 0), none⟩,
      ⟨some 6, .sln (.t 5), none⟩,
      ⟨some 7, .call 58 [.t 6, .c (.int .i64 1), .c (.int .i64 40)], none⟩,
      ⟨some 8, .not (.t 7), none⟩,
      ⟨some 9, .mov (.t 8), none⟩,
      ⟨some 10, .mov (.t 0), (some (9, false))⟩,
      ⟨some 11, .idx (.t 10) (.c (.int .i64 0)), (some (9, false))⟩,
      ⟨some 12, .call 147 [.t 11], (some (9, false))⟩,
      ⟨some 13, .not (.t 12), (some (9, false))⟩,
      ⟨some 14, .pick (.t 9) (.c (.bool true)) (.t 13), none⟩])
    (.cond (.t 14) (.seq (.reg [⟨some 2, .mov (.c (.bool false)), none⟩])
    .ret) .skip))
    (.seq (.seq (.reg [⟨some 15, .mov (.t 0), none⟩,
      ⟨some 16, .sln (.t 15), none⟩,
      ⟨some 17, .mov (.c (.int .i64 0)), none⟩])
    (.block 0 (.loop ir_base_Key_L0)))
    (.seq (.reg [⟨some 2, .mov (.c (.bool true)), none⟩])
    .ret))))
def rs_base_Key : List IRes := [.t 2]
theorem ck_base_Key : chkF Tryz.prog Tryz.f110 ir_base_Key rs_base_Key 40 = true := by kernel_rfl
/- paperchase/chaseref1.KeyOf -/
def ir_chaseref1_KeyOf : IC :=
  (.seq (.reg [⟨some 2, .mov (.c (.bool false)), none⟩])
    (.seq (.reg [⟨some 3, .mov (.t 0), none⟩,
      ⟨some 4, .sln (.t 3), none⟩,
      ⟨some 5, .bin .geq (.t 4) (.c (.int .i64 1)), none⟩,
      ⟨some 6, .mov (.t 5), none⟩,
      ⟨some 7, .mov (.t 0), (some (6, true))⟩,
      ⟨some 8, .sln (.t 7), (some (6, true))⟩,
      ⟨some 9, .bin .leq (.t 8) (.c (.int .i64 40)), (some (6, true))⟩,
      ⟨some 10, .pick (.t 6) (.t 9) (.c (.bool false)), none⟩,
      ⟨some 11, .mov (.t 10), none⟩,
      ⟨some 12, .mov (.t 0), (some (11, true))⟩,
      ⟨some 13, .call 154 [.t 12, .c (.str [97, 98, 99, 100, 101, 102, 103, 104, 105, 106, 107, 108, 109, 110, 111, 112, 113, 114, 115, 116, 117, 118, 119, 120, 121, 122, 48, 49, 50, 51, 52, 53, 54, 55, 56, 57, 45, 95])], (some (11, true))⟩,
      ⟨some 14, .pick (.t 11) (.t 13) (.c (.bool false)), none⟩,
      ⟨some 15, .mov (.t 14), none⟩,
      ⟨some 16, .mov (.t 0), (some (15, true))⟩,
      ⟨some 17, .ssl (.t 16) none (some (.c (.int .i64 1))), (some (15, true))⟩,
      ⟨some 18, .call 154 [.t 17, .c (.str [97, 98, 99, 100, 101, 102, 103, 104, 105, 106, 107, 108, 109, 110, 111, 112, 113, 114, 115, 116, 117, 118, 119, 120, 121, 122])], (some (15, true))⟩,
      ⟨some 19, .pick (.t 15) (.t 18) (.c (.bool false)), none⟩,
      ⟨some 2, .mov (.t 19), none⟩])
    .ret))
def rs_chaseref1_KeyOf : List IRes := [.t 2]
theorem ck_chaseref1_KeyOf : chkF Tryz.prog Tryz.f115 ir_chaseref1_KeyOf rs_chaseref1_KeyOf 20 = true := by kernel_rfl

def smB (c : UInt8) : Bool := decide (97 ≤ (c.toNat : Int)) && decide ((c.toNat : Int) ≤ 122)
def kcB (c : UInt8) : Bool := ((smB c || digB c) || decide (c = 45)) || decide (c = 95)
def keyB (s : List UInt8) : Bool := (inE s.length 1 40 && smB (s.headD 0)) && s.all kcB
def smSet : List UInt8 := [97, 98, 99, 100, 101, 102, 103, 104, 105, 106, 107, 108, 109, 110, 111, 112, 113, 114, 115, 116, 117, 118, 119, 120, 121, 122]
def kcSet : List UInt8 := smSet ++ [48, 49, 50, 51, 52, 53, 54, 55, 56, 57, 45, 95]
theorem smB_set (c : UInt8) : smSet.contains c = smB c := all256 (p := fun c => smSet.contains c = smB c) (by decide +kernel) c
theorem kcB_set (c : UInt8) : kcSet.contains c = kcB c := all256 (p := fun c => kcSet.contains c = kcB c) (by decide +kernel) c
theorem u8_45 (c : UInt8) : decide ((c.toNat : Int) = 45) = decide (c = 45) := all256 (p := fun c => decide ((c.toNat : Int) = 45) = decide (c = 45)) (by decide +kernel) c
theorem u8_95 (c : UInt8) : decide ((c.toNat : Int) = 95) = decide (c = 95) := all256 (p := fun c => decide ((c.toNat : Int) = 95) = decide (c = 95)) (by decide +kernel) c
section
variable {E : Envt}
theorem small_ok (c : UInt8) : PCall Tryz.prog E 147 [.int .u8 (c.toNat : Nat)] (· = .bool (smB c)) := by
  refine pcallF mixed Tryz.func147 ck_base_small ?_
  simp only [a0, l0, OS.ao, List.map_cons, List.map_nil, List.length_cons, List.length_nil, List.cons_append, List.nil_append, Nat.reduceSub, Nat.reduceAdd, List.replicate_succ, List.replicate_zero, ir_base_small, rs_base_small, ZZ, YY, Ze, ite_true, ite_false, forall_const, reduceCtorEq, Nat.reduceAdd, Nat.reduceMul, Nat.reduceLeDiff, Nat.reduceLT, Nat.reduceEqDiff]
  ((repeat' (with_reducible apply And.intro)) <;> try ((first | first | assumption | trivial | exact (fun hq => by rw [hq]; rfl) | exact i64_of (by omega) (by omega) | omega | (simp; done) | (simp; omega) | (intro hsc; have hs0 := hsc; (try have hsd := of_decide_eq_true hsc); (try simp only [Bool.not_eq_true', Bool.or_eq_false_iff, Bool.and_eq_true, Bool.or_eq_true, decide_eq_true_eq, decide_eq_false_iff_not] at hsc); (repeat' (with_reducible apply And.intro)) <;> (first | assumption | trivial | exact (fun hq => by rw [hq]; rfl) | exact i64_of (by omega) (by omega) | omega | (simp; done) | (simp; omega) | (intro hse; simp [hse, hs0]; done) | (intro hse; simp only [hse, hs0, Bool.true_and, Bool.and_true, Bool.not_false, Bool.not_true, Bool.and_self]; done))))))
theorem Key_ok (s : List UInt8) (hs : s.length ≤ 1000000000) : PCall Tryz.prog E 110 [.str s] (· = .bool (keyB s)) := by
  refine pcallF mixed Tryz.func110 ck_base_Key ?_
  simp only [a0, l0, OS.ao, List.map_cons, List.map_nil, List.length_cons, List.length_nil, List.cons_append, List.nil_append, Nat.reduceSub, Nat.reduceAdd, List.replicate_succ, List.replicate_zero, ir_base_Key, rs_base_Key, ZZ, YY, Ze, ite_true, ite_false, forall_const, reduceCtorEq, Nat.reduceAdd, Nat.reduceMul, Nat.reduceLeDiff, Nat.reduceLT, Nat.reduceEqDiff]
  refine use1 (In_ok s.length 1 40) rfl (.inl rfl) ?_
  by_cases hi : inE s.length 1 40 = true
  rotate_left
  · have hi : inE s.length 1 40 = false := by simpa using hi
    have hk : keyB s = false := by rw [keyB, hi]; rfl
    rw [hi, hk]
    simp only [ZZ, YY, Ze, ite_true, ite_false, forall_const, reduceCtorEq, Nat.reduceAdd, Nat.reduceMul, Nat.reduceLeDiff, Nat.reduceLT, Nat.reduceEqDiff]
    refine ⟨fun h => h.elim, ?_⟩
    refine useGC (fun h => by cases h) (fun _ => ?_)
    simp only [ZZ, YY, Ze, ite_true, ite_false, forall_const, reduceCtorEq, Nat.reduceAdd, Nat.reduceMul, Nat.reduceLeDiff, Nat.reduceLT, Nat.reduceEqDiff]
  have hi2 := hi
  simp only [inE, Bool.and_eq_true, decide_eq_true_eq] at hi2
  obtain ⟨c0, hc0⟩ : ∃ c, s[0]? = some c := ⟨_, List.getElem?_eq_getElem (by omega)⟩
  have hd0 : s.headD 0 = c0 := by cases s with | nil => simp at hc0 | cons a r => simpa using hc0
  have hg0 : s.getD (Int.toNat 0) 0 = c0 := by simp [List.getD, hc0]
  have hk : keyB s = (smB c0 && s.all kcB) := by rw [keyB, hi, hd0, Bool.true_and]
  rw [hi, hk]
  simp only [ZZ, YY, Ze, ite_true, ite_false, forall_const, reduceCtorEq, Nat.reduceAdd, Nat.reduceMul, Nat.reduceLeDiff, Nat.reduceLT, Nat.reduceEqDiff, hg0]
  ((repeat' (with_reducible apply And.intro)) <;> try ((first | first | assumption | trivial | exact (fun hq => by rw [hq]; rfl) | exact i64_of (by omega) (by omega) | omega | (simp; done) | (simp; omega) | (intro hsc; have hs0 := hsc; (try have hsd := of_decide_eq_true hsc); (try simp only [Bool.not_eq_true', Bool.or_eq_false_iff, Bool.and_eq_true, Bool.or_eq_true, decide_eq_true_eq, decide_eq_false_iff_not] at hsc); (repeat' (with_reducible apply And.intro)) <;> (first | assumption | trivial | exact (fun hq => by rw [hq]; rfl) | exact i64_of (by omega) (by omega) | omega | (simp; done) | (simp; omega) | (intro hse; simp [hse, hs0]; done) | (intro hse; simp only [hse, hs0, Bool.true_and, Bool.and_true, Bool.not_false, Bool.not_true, Bool.and_self]; done))))))
  refine useG (fun _ => small_ok c0) rfl (.inl rfl) ?_
  simp only [ZZ, YY, Ze, ite_true, ite_false, forall_const, reduceCtorEq, Nat.reduceAdd, Nat.reduceMul, Nat.reduceLeDiff, Nat.reduceLT, Nat.reduceEqDiff]
  refine br ?_ ?_
  · intro h
    have h : smB c0 = false := by simpa using h
    simp only [ZZ, YY, Ze, ite_true, ite_false, forall_const, reduceCtorEq, Nat.reduceAdd, Nat.reduceMul, Nat.reduceLeDiff, Nat.reduceLT, Nat.reduceEqDiff]
    rw [h]
    rfl
  intro h
  have h : smB c0 = true := by simpa using h
  rw [h, Bool.true_and]
  simp only [ZZ, YY, Ze, ite_true, ite_false, forall_const, reduceCtorEq, Nat.reduceAdd, Nat.reduceMul, Nat.reduceLeDiff, Nat.reduceLT, Nat.reduceEqDiff]
  refine loop_intro (fun n fr L => ∃ (k : Nat), k ≤ s.length ∧ n = s.length - k ∧ (s.all kcB = (s.drop k).all kcB) ∧ fr = [.p (.str s), .any, .any, .any, .any, .any, .any, .any, .any, .any, .any, .any, .any, .any, .any, .any, .p (int (s.length : Nat)), .p (int (k : Nat)), .any, .any, .any, .any, .any, .any, .any, .any, .any, .any, .any, .any, .any, .any, .any, .any, .any, .any, .any, .any, .any, .any] ∧ L = []) (s.length) [.p (.str s), .any, .any, .any, .any, .any, .any, .any, .any, .any, .any, .any, .any, .any, .any, .any, .p (int (s.length : Nat)), .p (int (0 : Nat)), .any, .any, .any, .any, .any, .any, .any, .any, .any, .any, .any, .any, .any, .any, .any, .any, .any, .any, .any, .any, .any, .any] [] (by (simp only [ZZ, YY, Ze, ite_true, ite_false, forall_const, reduceCtorEq, Nat.reduceAdd, Nat.reduceMul, Nat.reduceLeDiff, Nat.reduceLT, Nat.reduceEqDiff]; try trivial)) (by (simp only [ZZ, YY, Ze, ite_true, ite_false, forall_const, reduceCtorEq, Nat.reduceAdd, Nat.reduceMul, Nat.reduceLeDiff, Nat.reduceLT, Nat.reduceEqDiff]; try trivial)) ⟨0, by omega, by omega, by simp, rfl, rfl⟩ ?_
  rintro n fr L ⟨k, hk, rfl, hf, rfl, rfl⟩
  simp only [ir_base_Key_L0, ZZ, YY, Ze, ite_true, ite_false, forall_const, reduceCtorEq, Nat.reduceAdd, Nat.reduceMul, Nat.reduceLeDiff, Nat.reduceLT, Nat.reduceEqDiff]
  refine br ?_ ?_
  · intro h2
    have hlt : k < s.length := by have := of_decide_eq_true h2; omega
    obtain ⟨c, hc⟩ : ∃ c, s[k]? = some c := ⟨_, List.getElem?_eq_getElem hlt⟩
    have hg : s.getD k 0 = c := by simp [List.getD, hc]
    have hdr : s.drop k = c :: s.drop (k + 1) := by
      obtain ⟨hl, rfl⟩ := List.getElem?_eq_some_iff.1 hc
      exact List.drop_eq_getElem_cons hl
    rw [hdr, List.all_cons] at hf
    simp only [ZZ, YY, Ze, ite_true, ite_false, forall_const, reduceCtorEq, Nat.reduceAdd, Nat.reduceMul, Nat.reduceLeDiff, Nat.reduceLT, Nat.reduceEqDiff, hg]
    ((repeat' (with_reducible apply And.intro)) <;> try ((first | first | assumption | trivial | exact (fun hq => by rw [hq]; rfl) | exact i64_of (by omega) (by omega) | omega | (simp; done) | (simp; omega) | (intro hsc; have hs0 := hsc; (try have hsd := of_decide_eq_true hsc); (try simp only [Bool.not_eq_true', Bool.or_eq_false_iff, Bool.and_eq_true, Bool.or_eq_true, decide_eq_true_eq, decide_eq_false_iff_not] at hsc); (repeat' (with_reducible apply And.intro)) <;> (first | assumption | trivial | exact (fun hq => by rw [hq]; rfl) | exact i64_of (by omega) (by omega) | omega | (simp; done) | (simp; omega) | (intro hse; simp [hse, hs0]; done) | (intro hse; simp only [hse, hs0, Bool.true_and, Bool.and_true, Bool.not_false, Bool.not_true, Bool.and_self]; done))))))
    refine use1 (small_ok c) rfl (.inl rfl) ?_
    simp only [ZZ, YY, Ze, ite_true, ite_false, forall_const, reduceCtorEq, Nat.reduceAdd, Nat.reduceMul, Nat.reduceLeDiff, Nat.reduceLT, Nat.reduceEqDiff]
    refine useG (fun _ => Digit_ok c) rfl (.inl rfl) ?_
    have hkc : (!smB c && !digB c && !decide (c = 45) && !decide (c = 95)) = !kcB c := by
      unfold kcB
      cases smB c <;> cases digB c <;> cases decide (c = 45) <;> cases decide (c = 95) <;> rfl
    simp only [ZZ, YY, Ze, ite_true, ite_false, forall_const, reduceCtorEq, Nat.reduceAdd, Nat.reduceMul, Nat.reduceLeDiff, Nat.reduceLT, Nat.reduceEqDiff, u8_45, u8_95, hkc]
    ((repeat' (with_reducible apply And.intro)) <;> try ((first | first | assumption | trivial | exact (fun hq => by rw [hq]; rfl) | exact i64_of (by omega) (by omega) | omega | (simp; done) | (simp; omega) | (intro hsc; have hs0 := hsc; (try have hsd := of_decide_eq_true hsc); (try simp only [Bool.not_eq_true', Bool.or_eq_false_iff, Bool.and_eq_true, Bool.or_eq_true, decide_eq_true_eq, decide_eq_false_iff_not] at hsc); (repeat' (with_reducible apply And.intro)) <;> (first | assumption | trivial | exact (fun hq => by rw [hq]; rfl) | exact i64_of (by omega) (by omega) | omega | (simp; done) | (simp; omega) | (intro hse; simp [hse, hs0]; done) | (intro hse; simp only [hse, hs0, Bool.true_and, Bool.and_true, Bool.not_false, Bool.not_true, Bool.and_self]; done))))))
    refine br ?_ ?_
    · intro hb
      have hb : kcB c = false := by simpa using hb
      rw [hf, hb]
      simp only [ZZ, YY, Ze, ite_true, ite_false, forall_const, reduceCtorEq, Nat.reduceAdd, Nat.reduceMul, Nat.reduceLeDiff, Nat.reduceLT, Nat.reduceEqDiff]
      rfl
    · intro hb
      have hb : kcB c = true := by simpa using hb
      rw [hb, Bool.true_and] at hf
      simp only [ZZ, YY, Ze, ite_true, ite_false, forall_const, reduceCtorEq, Nat.reduceAdd, Nat.reduceMul, Nat.reduceLeDiff, Nat.reduceLT, Nat.reduceEqDiff]
      ((repeat' (with_reducible apply And.intro)) <;> try ((first | first | assumption | trivial | exact (fun hq => by rw [hq]; rfl) | exact i64_of (by omega) (by omega) | omega | (simp; done) | (simp; omega) | (intro hsc; have hs0 := hsc; (try have hsd := of_decide_eq_true hsc); (try simp only [Bool.not_eq_true', Bool.or_eq_false_iff, Bool.and_eq_true, Bool.or_eq_true, decide_eq_true_eq, decide_eq_false_iff_not] at hsc); (repeat' (with_reducible apply And.intro)) <;> (first | assumption | trivial | exact (fun hq => by rw [hq]; rfl) | exact i64_of (by omega) (by omega) | omega | (simp; done) | (simp; omega) | (intro hse; simp [hse, hs0]; done) | (intro hse; simp only [hse, hs0, Bool.true_and, Bool.and_true, Bool.not_false, Bool.not_true, Bool.and_self]; done))))))
      refine end_round (s.length - (k + 1)) [.p (.str s), .any, .any, .any, .any, .any, .any, .any, .any, .any, .any, .any, .any, .any, .any, .any, .p (int (s.length : Nat)), .p (int ((k + 1) : Nat)), .any, .any, .any, .any, .any, .any, .any, .any, .any, .any, .any, .any, .any, .any, .any, .any, .any, .any, .any, .any, .any, .any] [] (by omega) (by (simp only [ZZ, YY, Ze, ite_true, ite_false, forall_const, reduceCtorEq, Nat.reduceAdd, Nat.reduceMul, Nat.reduceLeDiff, Nat.reduceLT, Nat.reduceEqDiff]; try trivial)) (by (simp only [ZZ, YY, Ze, ite_true, ite_false, forall_const, reduceCtorEq, Nat.reduceAdd, Nat.reduceMul, Nat.reduceLeDiff, Nat.reduceLT, Nat.reduceEqDiff]; try trivial)) ⟨k + 1, by omega, rfl, hf, rfl, rfl⟩
  · intro h2
    have hge : k = s.length := by have := of_decide_eq_false h2; omega
    rw [hf, hge, List.drop_length]
    simp only [ZZ, YY, Ze, ite_true, ite_false, forall_const, reduceCtorEq, Nat.reduceAdd, Nat.reduceMul, Nat.reduceLeDiff, Nat.reduceLT, Nat.reduceEqDiff]
theorem KeyOf_ok (s : List UInt8) (hs : s.length ≤ 1000000000) : PCall Tryz.prog E 115 [.str s] (· = .bool (keyB s)) := by
  have hset : kcSet = [97, 98, 99, 100, 101, 102, 103, 104, 105, 106, 107, 108, 109, 110, 111, 112, 113, 114, 115, 116, 117, 118, 119, 120, 121, 122, 48, 49, 50, 51, 52, 53, 54, 55, 56, 57, 45, 95] := rfl
  refine pcallF mixed Tryz.func115 ck_chaseref1_KeyOf ?_
  simp only [a0, l0, OS.ao, List.map_cons, List.map_nil, List.length_cons, List.length_nil, List.cons_append, List.nil_append, Nat.reduceSub, Nat.reduceAdd, List.replicate_succ, List.replicate_zero, ir_chaseref1_KeyOf, rs_chaseref1_KeyOf, ZZ, YY, Ze, ite_true, ite_false, forall_const, reduceCtorEq, Nat.reduceAdd, Nat.reduceMul, Nat.reduceLeDiff, Nat.reduceLT, Nat.reduceEqDiff]
  refine useG (fun _ => made_ok s kcSet hs (by decide) (by decide)) rfl (.inl rfl) ?_
  simp only [ZZ, YY, Ze, ite_true, ite_false, forall_const, reduceCtorEq, Nat.reduceAdd, Nat.reduceMul, Nat.reduceLeDiff, Nat.reduceLT, Nat.reduceEqDiff]
  ((repeat' (with_reducible apply And.intro)) <;> try ((first | first | assumption | trivial | exact (fun hq => by rw [hq]; rfl) | exact i64_of (by omega) (by omega) | omega | (simp; done) | (simp; omega) | (intro hsc; have hs0 := hsc; (try have hsd := of_decide_eq_true hsc); (try simp only [Bool.not_eq_true', Bool.or_eq_false_iff, Bool.and_eq_true, Bool.or_eq_true, decide_eq_true_eq, decide_eq_false_iff_not] at hsc); (repeat' (with_reducible apply And.intro)) <;> (first | assumption | trivial | exact (fun hq => by rw [hq]; rfl) | exact i64_of (by omega) (by omega) | omega | (simp; done) | (simp; omega) | (intro hse; simp [hse, hs0]; done) | (intro hse; simp only [hse, hs0, Bool.true_and, Bool.and_true, Bool.not_false, Bool.not_true, Bool.and_self]; done))))))
  refine useG (fun _ => made_ok (s.take 1) smSet (by simp; omega) (by decide) (by decide)) rfl (.inl rfl) ?_
  simp only [ZZ, YY, Ze, ite_true, ite_false, forall_const, reduceCtorEq, Nat.reduceAdd, Nat.reduceMul, Nat.reduceLeDiff, Nat.reduceLT, Nat.reduceEqDiff]
  have e1 : (fun c => kcSet.contains c) = kcB := funext kcB_set
  have e2 : (fun c => smSet.contains c) = smB := funext smB_set
  rw [madeF_all, madeF_all, e1, e2, keyB]
  cases s with
  | nil => rfl
  | cons c r =>
    simp only [List.take_succ_cons, List.take_zero, List.all_cons, List.all_nil, Bool.and_true, List.headD_cons, inE]
    generalize decide ((1 : Int) ≤ ((c :: r).length : Nat)) = b1
    generalize decide (((c :: r).length : Nat) ≤ (40 : Int)) = b2
    generalize r.all kcB = b3
    generalize smB c = b4
    generalize kcB c = b5
    cases b1 <;> cases b2 <;> cases b3 <;> cases b4 <;> cases b5 <;> rfl
end
end Go.Proofs.YthfpehmbellmcaaGreatDoor

/- What is wrong with documents, on both sides. -/
namespace Go.Proofs.YthfpehmbellmcaaGreatDoor
open Go.RowKit
set_option linter.unusedVariables false
set_option linter.unusedSimpArgs false
set_option linter.defProp false

/- paperchase/near.CheckBodies -/
def ir_near_CheckBodies_L0 : IC :=
  (.seq (.reg [⟨some 15, .bin .lss (.t 14) (.t 13), none⟩])
    (.seq (.cond (.t 15) .skip (.exit 0))
    (.seq (.block 1 (.seq (.reg [⟨some 16, .ixa 2 (.t 12) (.t 14), none⟩,
      ⟨some 17, .ld 2 true (.t 16), none⟩,
      ⟨some 6, .alc 86 [.str [], .str []], none⟩,
      ⟨none, .st 2 (.t 6) (.t 17), none⟩])
    (.seq (.seq (.drg [⟨some 18, .fla 0 (.t 6), none⟩,
      ⟨some 19, .ld 1 false (.t 18), none⟩,
      ⟨some 20, .pcall 0 110 [.t 19], none⟩,
      ⟨some 21, .not (.t 20), none⟩,
      ⟨some 22, .pcall 1 57 [.t 21, .c (.int .i64 5)], none⟩,
      ⟨some 23, .mov (.t 3), none⟩,
      ⟨some 24, .fla 0 (.t 6), none⟩,
      ⟨some 25, .ld 1 false (.t 24), none⟩,
      ⟨some 26, .mpl false (.bool false) (.t 23) (.t 25), none⟩,
      ⟨some 27, .pcall 2 57 [.t 26, .c (.int .i64 6)], none⟩,
      ⟨some 28, .fla 1 (.t 6), none⟩,
      ⟨some 29, .ld 1 false (.t 28), none⟩,
      ⟨some 30, .pcall 3 67 [.t 29], none⟩,
      ⟨some 31, .bsl 1 [.t 22, .t 27, .t 30], none⟩,
      ⟨some 32, .pcall 4 55 [.t 31], none⟩,
      ⟨some 7, .mov (.t 32), none⟩])
    (.seq (.reg [⟨some 33, .mov (.t 7), none⟩,
      ⟨some 34, .bin .neq (.t 33) (.c (.int .i64 0)), none⟩])
    (.cond (.t 34) (.seq (.reg [⟨some 35, .mov (.t 7), none⟩,
      ⟨some 2, .mov (.t 35), none⟩])
    .ret) .skip)))
    (.seq (.reg [⟨some 36, .mov (.t 3), none⟩,
      ⟨some 37, .fla 0 (.t 6), none⟩,
      ⟨some 38, .ld 1 false (.t 37), none⟩,
      ⟨none, .mpu (.t 36) (.t 38) (.c (.bool true)), none⟩])
    (.reg [⟨some 39, .mov (.t 4), none⟩,
      ⟨some 40, .fla 1 (.t 6), none⟩,
      ⟨some 41, .ld 1 false (.t 40), none⟩,
      ⟨some 42, .sln (.t 41), none⟩,
      ⟨some 43, .bin .add (.t 39) (.t 42), none⟩,
      ⟨some 4, .mov (.t 43), none⟩])))))
    (.reg [⟨some 44, .bin .add (.t 14) (.c (.int .i64 1)), none⟩,
      ⟨some 14, .mov (.t 44), none⟩]))))
def ir_near_CheckBodies : IC :=
  (.seq (.reg [⟨some 2, .mov (.c (.int .i64 0)), none⟩])
    (.seq (.seq (.reg [⟨some 8, .mov (.t 0), none⟩,
      ⟨some 9, .len (.t 8), none⟩,
      ⟨some 10, .bin .gtr (.t 9) (.c (.int .i64 300)), none⟩])
    (.cond (.t 10) (.seq (.reg [⟨some 2, .mov (.c (.int .i64 2)), none⟩])
    .ret) .skip))
    (.seq (.reg [⟨some 11, .mkm 9 4, none⟩,
      ⟨some 3, .mov (.t 11), none⟩])
    (.seq (.reg [⟨some 4, .mov (.c (.int .i64 0)), none⟩])
    (.seq (.seq (.reg [⟨some 12, .mov (.t 0), none⟩,
      ⟨some 13, .len (.t 12), none⟩,
      ⟨some 14, .mov (.c (.int .i64 0)), none⟩])
    (.block 0 (.loop ir_near_CheckBodies_L0)))
    (.seq (.reg [⟨some 45, .mov (.t 4), none⟩,
      ⟨some 46, .bin .gtr (.t 45) (.c (.int .i64 500000)), none⟩,
      ⟨some 47, .call 57 [.t 46, .c (.int .i64 2)], none⟩,
      ⟨some 2, .mov (.t 47), none⟩])
    .ret))))))
def rs_near_CheckBodies : List IRes := [.t 2]
theorem ck_near_CheckBodies : chkF Tryz.prog Tryz.f56 ir_near_CheckBodies rs_near_CheckBodies 48 = true := by kernel_rfl
/- paperchase/chaseref1.BodiesFault -/
def ir_chaseref1_BodiesFault_L0 : IC :=
  (.seq (.reg [⟨some 12, .bin .lss (.t 11) (.t 10), none⟩])
    (.seq (.cond (.t 12) .skip (.exit 0))
    (.seq (.block 1 (.seq (.reg [⟨some 13, .mov (.t 11), none⟩,
      ⟨some 14, .ixa 2 (.t 9) (.t 11), none⟩,
      ⟨some 15, .ld 2 true (.t 14), none⟩,
      ⟨some 5, .alc 86 [.str [], .str []], none⟩,
      ⟨some 4, .mov (.t 13), none⟩,
      ⟨none, .st 2 (.t 5) (.t 15), none⟩])
    (.seq (.block 2 (.seq (.reg [⟨some 17, .fla 0 (.t 5), none⟩,
      ⟨some 18, .ld 1 false (.t 17), none⟩,
      ⟨some 19, .call 115 [.t 18], none⟩,
      ⟨some 20, .not (.t 19), none⟩,
      ⟨some 16, .mov (.t 20), none⟩])
    (.cond (.t 16) (.seq (.reg [⟨some 2, .mov (.c (.int .i64 5)), none⟩])
    .ret) (.seq (.reg [⟨some 22, .mov (.t 0), none⟩,
      ⟨some 23, .mov (.t 4), none⟩,
      ⟨some 24, .vsl 2 (.t 22) none (some (.t 23)), none⟩,
      ⟨some 25, .mkf 117 [.t 5], none⟩,
      ⟨some 26, .call 116 [.t 24, .t 25], none⟩,
      ⟨some 21, .mov (.t 26), none⟩])
    (.cond (.t 21) (.seq (.reg [⟨some 2, .mov (.c (.int .i64 6)), none⟩])
    .ret) (.seq (.reg [⟨some 28, .fla 1 (.t 5), none⟩,
      ⟨some 29, .ld 1 false (.t 28), none⟩,
      ⟨some 30, .sln (.t 29), none⟩,
      ⟨some 31, .bin .gtr (.t 30) (.c (.int .i64 20000)), none⟩,
      ⟨some 27, .mov (.t 31), none⟩])
    (.cond (.t 27) (.seq (.reg [⟨some 2, .mov (.c (.int .i64 2)), none⟩])
    .ret) .skip)))))))
    (.reg [⟨some 32, .mov (.t 3), none⟩,
      ⟨some 33, .fla 1 (.t 5), none⟩,
      ⟨some 34, .ld 1 false (.t 33), none⟩,
      ⟨some 35, .sln (.t 34), none⟩,
      ⟨some 36, .bin .add (.t 32) (.t 35), none⟩,
      ⟨some 3, .mov (.t 36), none⟩]))))
    (.reg [⟨some 37, .bin .add (.t 11) (.c (.int .i64 1)), none⟩,
      ⟨some 11, .mov (.t 37), none⟩]))))
def ir_chaseref1_BodiesFault : IC :=
  (.seq (.reg [⟨some 2, .mov (.c (.int .i64 0)), none⟩])
    (.seq (.seq (.reg [⟨some 6, .mov (.t 0), none⟩,
      ⟨some 7, .len (.t 6), none⟩,
      ⟨some 8, .bin .gtr (.t 7) (.c (.int .i64 300)), none⟩])
    (.cond (.t 8) (.seq (.reg [⟨some 2, .mov (.c (.int .i64 2)), none⟩])
    .ret) .skip))
    (.seq (.reg [⟨some 3, .mov (.c (.int .i64 0)), none⟩])
    (.seq (.seq (.reg [⟨some 9, .mov (.t 0), none⟩,
      ⟨some 10, .len (.t 9), none⟩,
      ⟨some 11, .mov (.c (.int .i64 0)), none⟩])
    (.block 0 (.loop ir_chaseref1_BodiesFault_L0)))
    (.seq (.seq (.reg [⟨some 38, .mov (.t 3), none⟩,
      ⟨some 39, .bin .gtr (.t 38) (.c (.int .i64 500000)), none⟩])
    (.cond (.t 39) (.seq (.reg [⟨some 2, .mov (.c (.int .i64 2)), none⟩])
    .ret) .skip))
    (.seq (.reg [⟨some 2, .mov (.c (.int .i64 0)), none⟩])
    .ret))))))
def rs_chaseref1_BodiesFault : List IRes := [.t 2]
theorem ck_chaseref1_BodiesFault : chkF Tryz.prog Tryz.f63 ir_chaseref1_BodiesFault rs_chaseref1_BodiesFault 40 = true := by kernel_rfl
/- paperchase/chaseref1.BodiesFault$1 -/
def ir_chaseref1_BodiesFault_1 : IC :=
  (.seq (.reg [⟨some 2, .box 86 (.t 0), none⟩,
      ⟨some 3, .mov (.c (.bool false)), none⟩])
    (.seq (.reg [⟨some 4, .fla 0 (.t 2), none⟩,
      ⟨some 5, .ld 1 false (.t 4), none⟩,
      ⟨some 6, .fla 0 (.t 1), none⟩,
      ⟨some 7, .ld 1 false (.t 6), none⟩,
      ⟨some 8, .bin .eql (.t 5) (.t 7), none⟩,
      ⟨some 3, .mov (.t 8), none⟩])
    .ret))
def rs_chaseref1_BodiesFault_1 : List IRes := [.t 3]
theorem ck_chaseref1_BodiesFault_1 : chkF Tryz.prog Tryz.f117 ir_chaseref1_BodiesFault_1 rs_chaseref1_BodiesFault_1 9 = true := by kernel_rfl
/- slices.ContainsFunc[[]paperchase/api.Body,paperchase/api.Body] -/
def ir_slices_ContainsFunc_api_Body_api_Body : IC :=
  (.seq (.reg [⟨some 4, .mov (.c (.bool false)), none⟩])
    (.seq (.reg [⟨some 5, .mov (.t 0), none⟩,
      ⟨some 6, .mov (.t 1), none⟩,
      ⟨some 7, .call 155 [.t 5, .t 6], none⟩,
      ⟨some 8, .bin .geq (.t 7) (.c (.int .i64 0)), none⟩,
      ⟨some 4, .mov (.t 8), none⟩])
    .ret))
def rs_slices_ContainsFunc_api_Body_api_Body : List IRes := [.t 4]
theorem ck_slices_ContainsFunc_api_Body_api_Body : chkF Tryz.prog Tryz.f116 ir_slices_ContainsFunc_api_Body_api_Body rs_slices_ContainsFunc_api_Body_api_Body 9 = true := by kernel_rfl
/- slices.IndexFunc[[]paperchase/api.Body,paperchase/api.Body] -/
def ir_slices_IndexFunc_api_Body_api_Body_L0 : IC :=
  (.seq (.reg [⟨some 9, .bin .lss (.t 8) (.t 7), none⟩])
    (.seq (.cond (.t 9) .skip (.exit 0))
    (.seq (.block 1 (.seq (.reg [⟨some 10, .mov (.t 8), none⟩,
      ⟨some 5, .mov (.t 10), none⟩])
    (.seq (.reg [⟨some 11, .mov (.t 1), none⟩,
      ⟨some 12, .mov (.t 0), none⟩,
      ⟨some 13, .mov (.t 5), none⟩,
      ⟨some 14, .ixa 2 (.t 12) (.t 13), none⟩,
      ⟨some 15, .ld 2 true (.t 14), none⟩,
      ⟨some 16, .callv (.t 11) [.t 15], none⟩])
    (.cond (.t 16) (.seq (.reg [⟨some 17, .mov (.t 5), none⟩,
      ⟨some 4, .mov (.t 17), none⟩])
    .ret) .skip))))
    (.reg [⟨some 18, .bin .add (.t 8) (.c (.int .i64 1)), none⟩,
      ⟨some 8, .mov (.t 18), none⟩]))))
def ir_slices_IndexFunc_api_Body_api_Body : IC :=
  (.seq (.reg [⟨some 4, .mov (.c (.int .i64 0)), none⟩])
    (.seq (.seq (.reg [⟨some 6, .mov (.t 0), none⟩,
      ⟨some 7, .len (.t 6), none⟩,
      ⟨some 8, .mov (.c (.int .i64 0)), none⟩])
    (.block 0 (.loop ir_slices_IndexFunc_api_Body_api_Body_L0)))
    (.seq (.reg [⟨some 4, .mov (.c (.int .i64 (-1))), none⟩])
    .ret)))
def rs_slices_IndexFunc_api_Body_api_Body : List IRes := [.t 4]
theorem ck_slices_IndexFunc_api_Body_api_Body : chkF Tryz.prog Tryz.f155 ir_slices_IndexFunc_api_Body_api_Body rs_slices_IndexFunc_api_Body_api_Body 19 = true := by kernel_rfl

abbrev Bod := List UInt8 × List UInt8
def boE (l : List Bod) : List (List PV) := l.map fun b => [PV.str b.1, PV.str b.2]
theorem boE_len (l : List Bod) : (boE l).length = l.length := by simp [boE]
theorem boE_get {l : List Bod} {k : Nat} {b : Bod} (h : l[k]? = some b) : (boE l).getD k [] = [.str b.1, .str b.2] := getD_map h
def idsF (l : List Bod) : List (List UInt8) := l.map (·.1)
/-- What is wrong with one document. -/
def bdS (ids : List (List UInt8)) (b : Bod) : Int := firstE [whenE (!keyB b.1) 5, whenE (decide (b.1 ∈ ids)) 6, if 20000 < b.2.length then 2 else 0]
def bdW : List Bod → List (List UInt8) → Int
  | [], _ => 0
  | b :: r, ids => if bdS ids b = 0 then bdW r (ids ++ [b.1]) else bdS ids b
def sumB (l : List Bod) : Nat := (l.map fun b => b.2.length).sum
def bodE (l : List Bod) : Int := if 300 < l.length then 2 else if bdW l [] = 0 then if 500000 < sumB l then 2 else 0 else bdW l []
/-- What documents may be. -/
def BodB (l : List Bod) : Prop := l.length ≤ 1000000 ∧ ∀ b ∈ l, b.1.length ≤ 1000000 ∧ b.2.length ≤ 1000000
theorem sumB_take {l : List Bod} {k : Nat} {b : Bod} (h : l[k]? = some b) : sumB (l.take (k + 1)) = sumB (l.take k) + b.2.length := by
  rw [List.take_add_one, h, sumB, sumB]
  simp
theorem idsF_take {l : List Bod} {k : Nat} {b : Bod} (h : l[k]? = some b) : idsF (l.take (k + 1)) = idsF (l.take k) ++ [b.1] := by
  rw [List.take_add_one, h, idsF, idsF]
  simp
theorem dropB_cons {l : List Bod} {k : Nat} {b : Bod} (h : l[k]? = some b) : l.drop k = b :: l.drop (k + 1) := by
  obtain ⟨hl, rfl⟩ := List.getElem?_eq_some_iff.1 h
  exact List.drop_eq_getElem_cons hl
section
variable {E : Envt}
set_option maxHeartbeats 4000000 in
theorem CheckBodies_ok (l : List Bod) (hl : BodB l) : PCall Tryz.prog E 56 [.sl 2 (boE l)] (· = int (bodE l)) := by
  obtain ⟨l1, l2⟩ := hl
  refine pcallF mixed Tryz.func56 ck_near_CheckBodies ?_
  simp only [a0, l0, OS.ao, List.map_cons, List.map_nil, List.length_cons, List.length_nil, List.cons_append, List.nil_append, Nat.reduceSub, Nat.reduceAdd, List.replicate_succ, List.replicate_zero, ir_near_CheckBodies, rs_near_CheckBodies, ZZ, YY, Ze, ite_true, ite_false, forall_const, reduceCtorEq, Nat.reduceAdd, Nat.reduceMul, Nat.reduceLeDiff, Nat.reduceLT, Nat.reduceEqDiff]
  simp only [ZZ, YY, Ze, ite_true, ite_false, forall_const, reduceCtorEq, Nat.reduceAdd, Nat.reduceMul, Nat.reduceLeDiff, Nat.reduceLT, Nat.reduceEqDiff, boE_len]
  refine br ?_ ?_
  · intro h
    have := of_decide_eq_true h
    simp only [ZZ, YY, Ze, ite_true, ite_false, forall_const, reduceCtorEq, Nat.reduceAdd, Nat.reduceMul, Nat.reduceLeDiff, Nat.reduceLT, Nat.reduceEqDiff]
    rw [bodE, if_pos (by omega)]
  intro h
  have h3 : ¬ 300 < l.length := by have := of_decide_eq_false h; omega
  rw [bodE, if_neg h3]
  simp only [ZZ, YY, Ze, ite_true, ite_false, forall_const, reduceCtorEq, Nat.reduceAdd, Nat.reduceMul, Nat.reduceLeDiff, Nat.reduceLT, Nat.reduceEqDiff, boE_len]
  refine loop_intro (fun n fr L => ∃ (k : Nat) (kv : List (List UInt8 × PV)), k ≤ l.length ∧ n = l.length - k ∧ (setOf kv (idsF (l.take k))) ∧ (bdW l [] = bdW (l.drop k) (idsF (l.take k))) ∧ (sumB (l.take k) ≤ 1000000 * k) ∧ fr = [.p (.sl 2 (boE l)), .any, .any, .mp (.l 11), .p (int (sumB (l.take k) : Nat)), .any, .any, .any, .any, .any, .any, .any, .p (.sl 2 (boE l)), .p (int (l.length : Nat)), .p (int (k : Nat)), .any, .any, .any, .any, .any, .any, .any, .any, .any, .any, .any, .any, .any, .any, .any, .any, .any, .any, .any, .any, .any, .any, .any, .any, .any, .any, .any, .any, .any, .any, .any, .any, .any] ∧ L = [(.l 11, .map kv 9 4)]) (l.length) [.p (.sl 2 (boE l)), .any, .any, .mp (.l 11), .p (int (sumB (l.take 0) : Nat)), .any, .any, .any, .any, .any, .any, .any, .p (.sl 2 (boE l)), .p (int (l.length : Nat)), .p (int (0 : Nat)), .any, .any, .any, .any, .any, .any, .any, .any, .any, .any, .any, .any, .any, .any, .any, .any, .any, .any, .any, .any, .any, .any, .any, .any, .any, .any, .any, .any, .any, .any, .any, .any, .any] [(.l 11, .map [] 9 4)] (by simp only [ZZ, YY, Ze, ite_true, ite_false, forall_const, reduceCtorEq, Nat.reduceAdd, Nat.reduceMul, Nat.reduceLeDiff, Nat.reduceLT, Nat.reduceEqDiff, boE_len]; try trivial) (by (simp only [ZZ, YY, Ze, ite_true, ite_false, forall_const, reduceCtorEq, Nat.reduceAdd, Nat.reduceMul, Nat.reduceLeDiff, Nat.reduceLT, Nat.reduceEqDiff]; try trivial)) ⟨0, [], by omega, by omega, setOf_nil, by simp [idsF], by simp [sumB], rfl, rfl⟩ ?_
  rintro n fr L ⟨k, kv, hk, rfl, hkv, hW, hs, rfl, rfl⟩
  simp only [ir_near_CheckBodies_L0, ZZ, YY, Ze, ite_true, ite_false, forall_const, reduceCtorEq, Nat.reduceAdd, Nat.reduceMul, Nat.reduceLeDiff, Nat.reduceLT, Nat.reduceEqDiff]
  refine br ?_ ?_
  · intro h
    have hlt : k < l.length := by have := of_decide_eq_true h; omega
    obtain ⟨b, hb⟩ : ∃ b, l[k]? = some b := ⟨_, List.getElem?_eq_getElem hlt⟩
    have hg := boE_get hb
    obtain ⟨b1, b2⟩ := l2 b (List.mem_of_getElem? hb)
    have hst := sumB_take hb
    have hit := idsF_take hb
    rw [dropB_cons hb, bdW, ← hit] at hW
    obtain ⟨e, he⟩ : ∃ e, e = bdS (idsF (l.take k)) b := ⟨_, rfl⟩
    simp only [ZZ, YY, Ze, ite_true, ite_false, forall_const, reduceCtorEq, Nat.reduceAdd, Nat.reduceMul, Nat.reduceLeDiff, Nat.reduceLT, Nat.reduceEqDiff, hg, boE_len]
    ((repeat' (with_reducible apply And.intro)) <;> try ((first | first | assumption | trivial | exact (fun hq => by rw [hq]; rfl) | exact i64_of (by omega) (by omega) | omega | (simp; done) | (simp; omega) | (intro hsc; have hs0 := hsc; (try have hsd := of_decide_eq_true hsc); (try simp only [Bool.not_eq_true', Bool.or_eq_false_iff, Bool.and_eq_true, Bool.or_eq_true, decide_eq_true_eq, decide_eq_false_iff_not] at hsc); (repeat' (with_reducible apply And.intro)) <;> (first | assumption | trivial | exact (fun hq => by rw [hq]; rfl) | exact i64_of (by omega) (by omega) | omega | (simp; done) | (simp; omega) | (intro hse; simp [hse, hs0]; done) | (intro hse; simp only [hse, hs0, Bool.true_and, Bool.and_true, Bool.not_false, Bool.not_true, Bool.and_self]; done))))))
    refine drg5 (x1 := .bool (keyB b.1)) (x2 := int (whenE (!keyB b.1) 5)) (x3 := int (whenE (decide (b.1 ∈ idsF (l.take k))) 6)) (x4 := int (if 20000 < b.2.length then 2 else 0)) (x5 := int (bdS (idsF (l.take k)) b)) ?_
    simp only [ZZ, YY, Ze, ite_true, ite_false, forall_const, reduceCtorEq, Nat.reduceAdd, Nat.reduceMul, Nat.reduceLeDiff, Nat.reduceLT, Nat.reduceEqDiff, hkv b.1]
    ((repeat' (with_reducible apply And.intro)) <;> try (first | exact usep (Key_ok _ (by omega)) rfl (.inl rfl) | exact usep (When_ok _ _) rfl (.inl rfl) | exact usep (nlarge_ok _ (by omega)) rfl (.inl rfl) | exact usep (First_ok [whenE (!keyB b.1) 5, whenE (decide (b.1 ∈ idsF (l.take k))) 6, if 20000 < b.2.length then 2 else 0] (by simp)) rfl (.inl rfl) | (first | first | assumption | trivial | exact (fun hq => by rw [hq]; rfl) | exact i64_of (by omega) (by omega) | omega | (simp; done) | (simp; omega) | (intro hsc; have hs0 := hsc; (try have hsd := of_decide_eq_true hsc); (try simp only [Bool.not_eq_true', Bool.or_eq_false_iff, Bool.and_eq_true, Bool.or_eq_true, decide_eq_true_eq, decide_eq_false_iff_not] at hsc); (repeat' (with_reducible apply And.intro)) <;> (first | assumption | trivial | exact (fun hq => by rw [hq]; rfl) | exact i64_of (by omega) (by omega) | omega | (simp; done) | (simp; omega) | (intro hse; simp [hse, hs0]; done) | (intro hse; simp only [hse, hs0, Bool.true_and, Bool.and_true, Bool.not_false, Bool.not_true, Bool.and_self]; done))))))
    rw [← he] at hW ⊢
    by_cases h0 : e = 0
    · have hd : decide (e = 0) = true := decide_eq_true h0
      rw [if_pos h0] at hW
      have hps : ((sumB (l.take k) : Nat) : Int) + ((b.2.length : Nat) : Int) = ((sumB (l.take (k + 1)) : Nat) : Int) := by omega
      simp only [ZZ, YY, Ze, ite_true, ite_false, forall_const, reduceCtorEq, Nat.reduceAdd, Nat.reduceMul, Nat.reduceLeDiff, Nat.reduceLT, Nat.reduceEqDiff, hd, hps]
      ((repeat' (with_reducible apply And.intro)) <;> try ((first | first | assumption | trivial | exact (fun hq => by rw [hq]; rfl) | exact i64_of (by omega) (by omega) | omega | (simp; done) | (simp; omega) | (intro hsc; have hs0 := hsc; (try have hsd := of_decide_eq_true hsc); (try simp only [Bool.not_eq_true', Bool.or_eq_false_iff, Bool.and_eq_true, Bool.or_eq_true, decide_eq_true_eq, decide_eq_false_iff_not] at hsc); (repeat' (with_reducible apply And.intro)) <;> (first | assumption | trivial | exact (fun hq => by rw [hq]; rfl) | exact i64_of (by omega) (by omega) | omega | (simp; done) | (simp; omega) | (intro hse; simp [hse, hs0]; done) | (intro hse; simp only [hse, hs0, Bool.true_and, Bool.and_true, Bool.not_false, Bool.not_true, Bool.and_self]; done))))))
      refine end_round (l.length - (k + 1)) [.p (.sl 2 (boE l)), .any, .any, .mp (.l 11), .p (int (sumB (l.take (k + 1)) : Nat)), .any, .any, .any, .any, .any, .any, .any, .p (.sl 2 (boE l)), .p (int (l.length : Nat)), .p (int ((k + 1) : Nat)), .any, .any, .any, .any, .any, .any, .any, .any, .any, .any, .any, .any, .any, .any, .any, .any, .any, .any, .any, .any, .any, .any, .any, .any, .any, .any, .any, .any, .any, .any, .any, .any, .any] [(.l 11, .map (mpS kv b.1 (.bool true)) 9 4)] (by omega) (by (simp only [ZZ, YY, Ze, ite_true, ite_false, forall_const, reduceCtorEq, Nat.reduceAdd, Nat.reduceMul, Nat.reduceLeDiff, Nat.reduceLT, Nat.reduceEqDiff]; try trivial)) (by (simp only [ZZ, YY, Ze, ite_true, ite_false, forall_const, reduceCtorEq, Nat.reduceAdd, Nat.reduceMul, Nat.reduceLeDiff, Nat.reduceLT, Nat.reduceEqDiff]; try trivial)) ⟨k + 1, mpS kv b.1 (.bool true), by omega, rfl, by rw [hit]; exact setOf_put hkv b.1, hW, by omega, rfl, rfl⟩
    · have hd : decide (e = 0) = false := decide_eq_false h0
      rw [if_neg h0] at hW
      simp only [ZZ, YY, Ze, ite_true, ite_false, forall_const, reduceCtorEq, Nat.reduceAdd, Nat.reduceMul, Nat.reduceLeDiff, Nat.reduceLT, Nat.reduceEqDiff, hd]
      rw [hW, if_neg h0]
  · intro h
    have hge : k = l.length := by have := of_decide_eq_false h; omega
    rw [hge, List.drop_length, bdW] at hW
    rw [hge, List.take_length]
    rw [hW, if_pos rfl]
    simp only [ZZ, YY, Ze, ite_true, ite_false, forall_const, reduceCtorEq, Nat.reduceAdd, Nat.reduceMul, Nat.reduceLeDiff, Nat.reduceLT, Nat.reduceEqDiff]
    refine use1 (When_ok _ 2) rfl (.inl rfl) ?_
    simp only [ZZ, YY, Ze, ite_true, ite_false, forall_const, reduceCtorEq, Nat.reduceAdd, Nat.reduceMul, Nat.reduceLeDiff, Nat.reduceLT, Nat.reduceEqDiff]
    by_cases h5 : 500000 < sumB l
    · have hd : decide ((500000 : Int) < (sumB l : Nat)) = true := decide_eq_true (by omega)
      rw [hd, if_pos h5]; rfl
    · have hd : decide ((500000 : Int) < (sumB l : Nat)) = false := decide_eq_false (by omega)
      rw [hd, if_neg h5]; rfl
theorem IndexFuncB_ok (l : List Bod) (f : FuncId) (cs : List PV) (q : Bod → Bool) (hl : l.length ≤ 1000000000) (hfn : Unit → fnB Tryz.prog f = true) (hf : ∀ x ∈ l, PCall Tryz.prog E f [.agg [.str x.1, .str x.2], .ptr cs] (· = .bool (q x))) : PCall Tryz.prog E 155 [.sl 2 (boE l), .clo f [.ptr cs]] (· = int (idxF q l)) := by
  refine pcallF mixed Tryz.func155 ck_slices_IndexFunc_api_Body_api_Body ?_
  simp only [a0, l0, OS.ao, List.map_cons, List.map_nil, List.length_cons, List.length_nil, List.cons_append, List.nil_append, Nat.reduceSub, Nat.reduceAdd, List.replicate_succ, List.replicate_zero, ir_slices_IndexFunc_api_Body_api_Body, rs_slices_IndexFunc_api_Body_api_Body, ZZ, YY, Ze, ite_true, ite_false, forall_const, reduceCtorEq, Nat.reduceAdd, Nat.reduceMul, Nat.reduceLeDiff, Nat.reduceLT, Nat.reduceEqDiff]
  simp only [ZZ, YY, Ze, ite_true, ite_false, forall_const, reduceCtorEq, Nat.reduceAdd, Nat.reduceMul, Nat.reduceLeDiff, Nat.reduceLT, Nat.reduceEqDiff, boE_len]
  refine loop_intro (fun n fr L => ∃ (k : Nat), k ≤ l.length ∧ n = l.length - k ∧ (∀ x ∈ l.take k, q x = false) ∧ fr = [.p (.sl 2 (boE l)), .p (.clo f [.ptr cs]), .any, .any, .any, .any, .any, .p (int (l.length : Nat)), .p (int (k : Nat)), .any, .any, .any, .any, .any, .any, .any, .any, .any, .any] ∧ L = []) (l.length) [.p (.sl 2 (boE l)), .p (.clo f [.ptr cs]), .any, .any, .any, .any, .any, .p (int (l.length : Nat)), .p (int (0 : Nat)), .any, .any, .any, .any, .any, .any, .any, .any, .any, .any] [] (by simp only [ZZ, YY, Ze, ite_true, ite_false, forall_const, reduceCtorEq, Nat.reduceAdd, Nat.reduceMul, Nat.reduceLeDiff, Nat.reduceLT, Nat.reduceEqDiff, boE_len]; try trivial) (by (simp only [ZZ, YY, Ze, ite_true, ite_false, forall_const, reduceCtorEq, Nat.reduceAdd, Nat.reduceMul, Nat.reduceLeDiff, Nat.reduceLT, Nat.reduceEqDiff]; try trivial)) ⟨0, by omega, by omega, by simp, rfl, rfl⟩ ?_
  rintro n fr L ⟨k, hk, rfl, hno, rfl, rfl⟩
  simp only [ir_slices_IndexFunc_api_Body_api_Body_L0, ZZ, YY, Ze, ite_true, ite_false, forall_const, reduceCtorEq, Nat.reduceAdd, Nat.reduceMul, Nat.reduceLeDiff, Nat.reduceLT, Nat.reduceEqDiff]
  refine br ?_ ?_
  · intro h
    have hlt : k < l.length := by have := of_decide_eq_true h; omega
    obtain ⟨x, hx⟩ : ∃ x, l[k]? = some x := ⟨_, List.getElem?_eq_getElem hlt⟩
    have hg := boE_get hx
    simp only [ZZ, YY, Ze, ite_true, ite_false, forall_const, reduceCtorEq, Nat.reduceAdd, Nat.reduceMul, Nat.reduceLeDiff, Nat.reduceLT, Nat.reduceEqDiff, hg, boE_len, hfn ()]
    ((repeat' (with_reducible apply And.intro)) <;> try ((first | first | assumption | trivial | exact (fun hq => by rw [hq]; rfl) | exact i64_of (by omega) (by omega) | omega | (simp; done) | (simp; omega) | (intro hsc; have hs0 := hsc; (try have hsd := of_decide_eq_true hsc); (try simp only [Bool.not_eq_true', Bool.or_eq_false_iff, Bool.and_eq_true, Bool.or_eq_true, decide_eq_true_eq, decide_eq_false_iff_not] at hsc); (repeat' (with_reducible apply And.intro)) <;> (first | assumption | trivial | exact (fun hq => by rw [hq]; rfl) | exact i64_of (by omega) (by omega) | omega | (simp; done) | (simp; omega) | (intro hse; simp [hse, hs0]; done) | (intro hse; simp only [hse, hs0, Bool.true_and, Bool.and_true, Bool.not_false, Bool.not_true, Bool.and_self]; done))))))
    refine use1 (hf x (List.mem_of_getElem? hx)) rfl (.inl rfl) ?_
    simp only [ZZ, YY, Ze, ite_true, ite_false, forall_const, reduceCtorEq, Nat.reduceAdd, Nat.reduceMul, Nat.reduceLeDiff, Nat.reduceLT, Nat.reduceEqDiff]
    refine br ?_ ?_
    · intro hq
      simp only [ZZ, YY, Ze, ite_true, ite_false, forall_const, reduceCtorEq, Nat.reduceAdd, Nat.reduceMul, Nat.reduceLeDiff, Nat.reduceLT, Nat.reduceEqDiff]
      rw [idxF_hit hx hq hno]
    · intro hq
      simp only [ZZ, YY, Ze, ite_true, ite_false, forall_const, reduceCtorEq, Nat.reduceAdd, Nat.reduceMul, Nat.reduceLeDiff, Nat.reduceLT, Nat.reduceEqDiff]
      ((repeat' (with_reducible apply And.intro)) <;> try ((first | first | assumption | trivial | exact (fun hq => by rw [hq]; rfl) | exact i64_of (by omega) (by omega) | omega | (simp; done) | (simp; omega) | (intro hsc; have hs0 := hsc; (try have hsd := of_decide_eq_true hsc); (try simp only [Bool.not_eq_true', Bool.or_eq_false_iff, Bool.and_eq_true, Bool.or_eq_true, decide_eq_true_eq, decide_eq_false_iff_not] at hsc); (repeat' (with_reducible apply And.intro)) <;> (first | assumption | trivial | exact (fun hq => by rw [hq]; rfl) | exact i64_of (by omega) (by omega) | omega | (simp; done) | (simp; omega) | (intro hse; simp [hse, hs0]; done) | (intro hse; simp only [hse, hs0, Bool.true_and, Bool.and_true, Bool.not_false, Bool.not_true, Bool.and_self]; done))))))
      refine end_round (l.length - (k + 1)) [.p (.sl 2 (boE l)), .p (.clo f [.ptr cs]), .any, .any, .any, .any, .any, .p (int (l.length : Nat)), .p (int ((k + 1) : Nat)), .any, .any, .any, .any, .any, .any, .any, .any, .any, .any] [] (by omega) (by (simp only [ZZ, YY, Ze, ite_true, ite_false, forall_const, reduceCtorEq, Nat.reduceAdd, Nat.reduceMul, Nat.reduceLeDiff, Nat.reduceLT, Nat.reduceEqDiff]; try trivial)) (by (simp only [ZZ, YY, Ze, ite_true, ite_false, forall_const, reduceCtorEq, Nat.reduceAdd, Nat.reduceMul, Nat.reduceLeDiff, Nat.reduceLT, Nat.reduceEqDiff]; try trivial)) ⟨k + 1, by omega, rfl, by rw [List.take_succ_eq_append_getElem hlt]; intro y hy; rcases List.mem_append.1 hy with hy | hy; exact hno y hy; rw [List.mem_singleton] at hy; rw [hy, (List.getElem?_eq_some_iff.1 hx).2]; exact hq, rfl, rfl⟩
  · intro h
    have hge : l.length ≤ k := by have := of_decide_eq_false h; omega
    rw [List.take_of_length_le hge] at hno
    simp only [ZZ, YY, Ze, ite_true, ite_false, forall_const, reduceCtorEq, Nat.reduceAdd, Nat.reduceMul, Nat.reduceLeDiff, Nat.reduceLT, Nat.reduceEqDiff]
    rw [idxF_none hno]
theorem ContainsFuncB_ok (l : List Bod) (f : FuncId) (cs : List PV) (q : Bod → Bool) (hl : l.length ≤ 1000000000) (hfn : Unit → fnB Tryz.prog f = true) (hf : ∀ x ∈ l, PCall Tryz.prog E f [.agg [.str x.1, .str x.2], .ptr cs] (· = .bool (q x))) : PCall Tryz.prog E 116 [.sl 2 (boE l), .clo f [.ptr cs]] (· = .bool (l.any q)) := by
  refine pcallF mixed Tryz.func116 ck_slices_ContainsFunc_api_Body_api_Body ?_
  simp only [a0, l0, OS.ao, List.map_cons, List.map_nil, List.length_cons, List.length_nil, List.cons_append, List.nil_append, Nat.reduceSub, Nat.reduceAdd, List.replicate_succ, List.replicate_zero, ir_slices_ContainsFunc_api_Body_api_Body, rs_slices_ContainsFunc_api_Body_api_Body, ZZ, YY, Ze, ite_true, ite_false, forall_const, reduceCtorEq, Nat.reduceAdd, Nat.reduceMul, Nat.reduceLeDiff, Nat.reduceLT, Nat.reduceEqDiff]
  refine use1 (IndexFuncB_ok l f cs q hl hfn hf) rfl (.inl rfl) ?_
  simp only [ZZ, YY, Ze, ite_true, ite_false, forall_const, reduceCtorEq, Nat.reduceAdd, Nat.reduceMul, Nat.reduceLeDiff, Nat.reduceLT, Nat.reduceEqDiff]
  rw [idxF_any]
theorem sameId_ok (x b : Bod) : PCall Tryz.prog E 117 [.agg [.str x.1, .str x.2], .ptr [.str b.1, .str b.2]] (· = .bool (decide (x.1 = b.1))) := by
  refine pcallF mixed Tryz.func117 ck_chaseref1_BodiesFault_1 ?_
  simp only [a0, l0, OS.ao, List.map_cons, List.map_nil, List.length_cons, List.length_nil, List.cons_append, List.nil_append, Nat.reduceSub, Nat.reduceAdd, List.replicate_succ, List.replicate_zero, ir_chaseref1_BodiesFault_1, rs_chaseref1_BodiesFault_1, ZZ, YY, Ze, ite_true, ite_false, forall_const, reduceCtorEq, Nat.reduceAdd, Nat.reduceMul, Nat.reduceLeDiff, Nat.reduceLT, Nat.reduceEqDiff]
end
set_option maxHeartbeats 4000000 in
theorem BodiesFault_ok {E : Envt} (l : List Bod) (hl : BodB l) : PCall Tryz.prog E 63 [.sl 2 (boE l)] (· = int (bodE l)) := by
  obtain ⟨l1, l2⟩ := hl
  refine pcallF mixed Tryz.func63 ck_chaseref1_BodiesFault ?_
  simp only [a0, l0, OS.ao, List.map_cons, List.map_nil, List.length_cons, List.length_nil, List.cons_append, List.nil_append, Nat.reduceSub, Nat.reduceAdd, List.replicate_succ, List.replicate_zero, ir_chaseref1_BodiesFault, rs_chaseref1_BodiesFault, ZZ, YY, Ze, ite_true, ite_false, forall_const, reduceCtorEq, Nat.reduceAdd, Nat.reduceMul, Nat.reduceLeDiff, Nat.reduceLT, Nat.reduceEqDiff]
  simp only [ZZ, YY, Ze, ite_true, ite_false, forall_const, reduceCtorEq, Nat.reduceAdd, Nat.reduceMul, Nat.reduceLeDiff, Nat.reduceLT, Nat.reduceEqDiff, boE_len]
  refine br ?_ ?_
  · intro h
    have := of_decide_eq_true h
    simp only [ZZ, YY, Ze, ite_true, ite_false, forall_const, reduceCtorEq, Nat.reduceAdd, Nat.reduceMul, Nat.reduceLeDiff, Nat.reduceLT, Nat.reduceEqDiff]
    rw [bodE, if_pos (by omega)]
  intro h
  have h3 : ¬ 300 < l.length := by have := of_decide_eq_false h; omega
  rw [bodE, if_neg h3]
  simp only [ZZ, YY, Ze, ite_true, ite_false, forall_const, reduceCtorEq, Nat.reduceAdd, Nat.reduceMul, Nat.reduceLeDiff, Nat.reduceLT, Nat.reduceEqDiff, boE_len]
  refine loop_intro (fun n fr L => ∃ (k : Nat), k ≤ l.length ∧ n = l.length - k ∧ (bdW l [] = bdW (l.drop k) (idsF (l.take k))) ∧ (sumB (l.take k) ≤ 1000000 * k) ∧ fr = [.p (.sl 2 (boE l)), .any, .any, .p (int (sumB (l.take k) : Nat)), .any, .any, .any, .any, .any, .p (.sl 2 (boE l)), .p (int (l.length : Nat)), .p (int (k : Nat)), .any, .any, .any, .any, .any, .any, .any, .any, .any, .any, .any, .any, .any, .any, .any, .any, .any, .any, .any, .any, .any, .any, .any, .any, .any, .any, .any, .any] ∧ L = []) (l.length) [.p (.sl 2 (boE l)), .any, .any, .p (int (sumB (l.take 0) : Nat)), .any, .any, .any, .any, .any, .p (.sl 2 (boE l)), .p (int (l.length : Nat)), .p (int (0 : Nat)), .any, .any, .any, .any, .any, .any, .any, .any, .any, .any, .any, .any, .any, .any, .any, .any, .any, .any, .any, .any, .any, .any, .any, .any, .any, .any, .any, .any] [] (by simp only [ZZ, YY, Ze, ite_true, ite_false, forall_const, reduceCtorEq, Nat.reduceAdd, Nat.reduceMul, Nat.reduceLeDiff, Nat.reduceLT, Nat.reduceEqDiff, boE_len]; try trivial) (by (simp only [ZZ, YY, Ze, ite_true, ite_false, forall_const, reduceCtorEq, Nat.reduceAdd, Nat.reduceMul, Nat.reduceLeDiff, Nat.reduceLT, Nat.reduceEqDiff]; try trivial)) ⟨0, by omega, by omega, by simp [idsF], by simp [sumB], rfl, rfl⟩ ?_
  rintro n fr L ⟨k, hk, rfl, hW, hs, rfl, rfl⟩
  simp only [ir_chaseref1_BodiesFault_L0, ZZ, YY, Ze, ite_true, ite_false, forall_const, reduceCtorEq, Nat.reduceAdd, Nat.reduceMul, Nat.reduceLeDiff, Nat.reduceLT, Nat.reduceEqDiff]
  refine br ?_ ?_
  · intro h
    have hlt : k < l.length := by have := of_decide_eq_true h; omega
    obtain ⟨b, hb⟩ : ∃ b, l[k]? = some b := ⟨_, List.getElem?_eq_getElem hlt⟩
    have hg := boE_get hb
    obtain ⟨b1, b2⟩ := l2 b (List.mem_of_getElem? hb)
    have hst := sumB_take hb
    have hit := idsF_take hb
    rw [dropB_cons hb, bdW, ← hit] at hW
    simp only [ZZ, YY, Ze, ite_true, ite_false, forall_const, reduceCtorEq, Nat.reduceAdd, Nat.reduceMul, Nat.reduceLeDiff, Nat.reduceLT, Nat.reduceEqDiff, hg, boE_len]
    ((repeat' (with_reducible apply And.intro)) <;> try ((first | first | assumption | trivial | exact (fun hq => by rw [hq]; rfl) | exact i64_of (by omega) (by omega) | omega | (simp; done) | (simp; omega) | (intro hsc; have hs0 := hsc; (try have hsd := of_decide_eq_true hsc); (try simp only [Bool.not_eq_true', Bool.or_eq_false_iff, Bool.and_eq_true, Bool.or_eq_true, decide_eq_true_eq, decide_eq_false_iff_not] at hsc); (repeat' (with_reducible apply And.intro)) <;> (first | assumption | trivial | exact (fun hq => by rw [hq]; rfl) | exact i64_of (by omega) (by omega) | omega | (simp; done) | (simp; omega) | (intro hse; simp [hse, hs0]; done) | (intro hse; simp only [hse, hs0, Bool.true_and, Bool.and_true, Bool.not_false, Bool.not_true, Bool.and_self]; done))))))
    refine use1 (KeyOf_ok b.1 (by omega)) rfl (.inl rfl) ?_
    simp only [ZZ, YY, Ze, ite_true, ite_false, forall_const, reduceCtorEq, Nat.reduceAdd, Nat.reduceMul, Nat.reduceLeDiff, Nat.reduceLT, Nat.reduceEqDiff]
    refine br ?_ ?_
    · intro hk
      have hk : keyB b.1 = false := by simpa using hk
      have hE : bdS (idsF (l.take k)) b = 5 := by rw [bdS, hk]; rfl
      rw [hE, if_neg (by decide)] at hW
      rw [hW, if_neg (by decide)]
      simp only [ZZ, YY, Ze, ite_true, ite_false, forall_const, reduceCtorEq, Nat.reduceAdd, Nat.reduceMul, Nat.reduceLeDiff, Nat.reduceLT, Nat.reduceEqDiff]
    intro hk
    have hk : keyB b.1 = true := by simpa using hk
    have htk : (boE l).take k = boE (l.take k) := by rw [boE, boE, List.map_take]
    simp only [ZZ, YY, Ze, ite_true, ite_false, forall_const, reduceCtorEq, Nat.reduceAdd, Nat.reduceMul, Nat.reduceLeDiff, Nat.reduceLT, Nat.reduceEqDiff, htk, boE_len]
    ((repeat' (with_reducible apply And.intro)) <;> try ((first | first | assumption | trivial | exact (fun hq => by rw [hq]; rfl) | exact i64_of (by omega) (by omega) | omega | (simp; done) | (simp; omega) | (intro hsc; have hs0 := hsc; (try have hsd := of_decide_eq_true hsc); (try simp only [Bool.not_eq_true', Bool.or_eq_false_iff, Bool.and_eq_true, Bool.or_eq_true, decide_eq_true_eq, decide_eq_false_iff_not] at hsc); (repeat' (with_reducible apply And.intro)) <;> (first | assumption | trivial | exact (fun hq => by rw [hq]; rfl) | exact i64_of (by omega) (by omega) | omega | (simp; done) | (simp; omega) | (intro hse; simp [hse, hs0]; done) | (intro hse; simp only [hse, hs0, Bool.true_and, Bool.and_true, Bool.not_false, Bool.not_true, Bool.and_self]; done))))))
    refine use1 (ContainsFuncB_ok (l.take k) 117 [.str b.1, .str b.2] (fun x => decide (x.1 = b.1)) (by simp; omega) (fun _ => by kernel_rfl) (fun x _ => sameId_ok x b)) rfl (.inr rfl) ?_
    have hany : ((l.take k).any fun x => decide (x.1 = b.1)) = decide (b.1 ∈ idsF (l.take k)) := by
      rw [Bool.eq_iff_iff, List.any_eq_true, decide_eq_true_iff, idsF, List.mem_map]
      simp
    simp only [ZZ, YY, Ze, ite_true, ite_false, forall_const, reduceCtorEq, Nat.reduceAdd, Nat.reduceMul, Nat.reduceLeDiff, Nat.reduceLT, Nat.reduceEqDiff, hany]
    refine br ?_ ?_
    · intro hm
      have hE : bdS (idsF (l.take k)) b = 6 := by rw [bdS, hk, hm]; rfl
      rw [hE, if_neg (by decide)] at hW
      rw [hW, if_neg (by decide)]
      simp only [ZZ, YY, Ze, ite_true, ite_false, forall_const, reduceCtorEq, Nat.reduceAdd, Nat.reduceMul, Nat.reduceLeDiff, Nat.reduceLT, Nat.reduceEqDiff]
    intro hm
    simp only [ZZ, YY, Ze, ite_true, ite_false, forall_const, reduceCtorEq, Nat.reduceAdd, Nat.reduceMul, Nat.reduceLeDiff, Nat.reduceLT, Nat.reduceEqDiff]
    refine br ?_ ?_
    · intro hg2
      have hg2 : 20000 < b.2.length := by have := of_decide_eq_true hg2; omega
      have hE : bdS (idsF (l.take k)) b = 2 := by rw [bdS, hk, hm, if_pos hg2]; rfl
      rw [hE, if_neg (by decide)] at hW
      rw [hW, if_neg (by decide)]
      simp only [ZZ, YY, Ze, ite_true, ite_false, forall_const, reduceCtorEq, Nat.reduceAdd, Nat.reduceMul, Nat.reduceLeDiff, Nat.reduceLT, Nat.reduceEqDiff]
    intro hg2
    have hg2 : ¬ 20000 < b.2.length := by have := of_decide_eq_false hg2; omega
    have hE : bdS (idsF (l.take k)) b = 0 := by rw [bdS, hk, hm, if_neg hg2]; rfl
    rw [hE, if_pos rfl] at hW
    have hps : ((sumB (l.take k) : Nat) : Int) + ((b.2.length : Nat) : Int) = ((sumB (l.take (k + 1)) : Nat) : Int) := by omega
    simp only [ZZ, YY, Ze, ite_true, ite_false, forall_const, reduceCtorEq, Nat.reduceAdd, Nat.reduceMul, Nat.reduceLeDiff, Nat.reduceLT, Nat.reduceEqDiff, hps]
    ((repeat' (with_reducible apply And.intro)) <;> try ((first | first | assumption | trivial | exact (fun hq => by rw [hq]; rfl) | exact i64_of (by omega) (by omega) | omega | (simp; done) | (simp; omega) | (intro hsc; have hs0 := hsc; (try have hsd := of_decide_eq_true hsc); (try simp only [Bool.not_eq_true', Bool.or_eq_false_iff, Bool.and_eq_true, Bool.or_eq_true, decide_eq_true_eq, decide_eq_false_iff_not] at hsc); (repeat' (with_reducible apply And.intro)) <;> (first | assumption | trivial | exact (fun hq => by rw [hq]; rfl) | exact i64_of (by omega) (by omega) | omega | (simp; done) | (simp; omega) | (intro hse; simp [hse, hs0]; done) | (intro hse; simp only [hse, hs0, Bool.true_and, Bool.and_true, Bool.not_false, Bool.not_true, Bool.and_self]; done))))))
    refine end_round (l.length - (k + 1)) [.p (.sl 2 (boE l)), .any, .any, .p (int (sumB (l.take (k + 1)) : Nat)), .any, .any, .any, .any, .any, .p (.sl 2 (boE l)), .p (int (l.length : Nat)), .p (int ((k + 1) : Nat)), .any, .any, .any, .any, .any, .any, .any, .any, .any, .any, .any, .any, .any, .any, .any, .any, .any, .any, .any, .any, .any, .any, .any, .any, .any, .any, .any, .any] [] (by omega) (by (simp only [ZZ, YY, Ze, ite_true, ite_false, forall_const, reduceCtorEq, Nat.reduceAdd, Nat.reduceMul, Nat.reduceLeDiff, Nat.reduceLT, Nat.reduceEqDiff]; try trivial)) (by (simp only [ZZ, YY, Ze, ite_true, ite_false, forall_const, reduceCtorEq, Nat.reduceAdd, Nat.reduceMul, Nat.reduceLeDiff, Nat.reduceLT, Nat.reduceEqDiff]; try trivial)) ⟨k + 1, by omega, rfl, hW, by omega, rfl, rfl⟩
  · intro h
    have hge : k = l.length := by have := of_decide_eq_false h; omega
    rw [hge, List.drop_length, bdW] at hW
    rw [hge, List.take_length]
    rw [hW, if_pos rfl]
    simp only [ZZ, YY, Ze, ite_true, ite_false, forall_const, reduceCtorEq, Nat.reduceAdd, Nat.reduceMul, Nat.reduceLeDiff, Nat.reduceLT, Nat.reduceEqDiff]
    refine br ?_ ?_
    · intro h5
      have h5 : 500000 < sumB l := by have := of_decide_eq_true h5; omega
      simp only [ZZ, YY, Ze, ite_true, ite_false, forall_const, reduceCtorEq, Nat.reduceAdd, Nat.reduceMul, Nat.reduceLeDiff, Nat.reduceLT, Nat.reduceEqDiff]
      rw [if_pos h5]
    · intro h5
      have h5 : ¬ 500000 < sumB l := by have := of_decide_eq_false h5; omega
      simp only [ZZ, YY, Ze, ite_true, ite_false, forall_const, reduceCtorEq, Nat.reduceAdd, Nat.reduceMul, Nat.reduceLeDiff, Nat.reduceLT, Nat.reduceEqDiff]
      rw [if_neg h5]
end Go.Proofs.YthfpehmbellmcaaGreatDoor

/- Makers: Prose and Changed, in the layer: only sizes are told. -/
namespace Go.Proofs.YthfpehmbellmcaaGreatDoor
set_option linter.unusedVariables false
set_option linter.unusedSimpArgs false
set_option linter.defProp false

/- (*paperchase/chasemake.Stream).Prose -/
def ir_chasemake_Stream_Prose_L0 : IC :=
  (.seq (.reg [⟨some 11, .bin .lss (.t 10) (.t 9), none⟩])
    (.seq (.cond (.t 11) .skip (.exit 0))
    (.seq (.block 1 (.reg [⟨some 12, .mov (.t 5), none⟩,
      ⟨some 13, .mov (.t 0), none⟩,
      ⟨some 14, .bsl 1 [.c (.str [97]), .c (.str [98]), .c (.str [99]), .c (.str [100]), .c (.str [101]), .c (.str [65]), .c (.str [66]), .c (.str [105, 116, 39, 115]), .c (.str [195, 169]), .c (.str [120, 44]), .c (.str [57])], none⟩,
      ⟨some 15, .call 32 [.t 13, .t 14], none⟩,
      ⟨some 16, .mov (.t 0), none⟩,
      ⟨some 17, .bsl 1 [.c (.str [32]), .c (.str [32]), .c (.str [32]), .c (.str [32, 32]), .c (.str [10]), .c (.str [10, 10]), .c (.str [44, 32]), .c (.str [])], none⟩,
      ⟨some 18, .call 32 [.t 16, .t 17], none⟩,
      ⟨some 19, .bin .add (.t 15) (.t 18), none⟩,
      ⟨some 20, .bin .add (.t 12) (.t 19), none⟩,
      ⟨some 5, .mov (.t 20), none⟩]))
    (.reg [⟨some 21, .bin .add (.t 10) (.c (.int .i64 1)), none⟩,
      ⟨some 10, .mov (.t 21), none⟩]))))
def ir_chasemake_Stream_Prose : IC :=
  (.seq (.reg [⟨some 4, .mov (.c (.str [])), none⟩])
    (.seq (.reg [⟨some 5, .mov (.c (.str [])), none⟩])
    (.seq (.seq (.reg [⟨some 6, .mov (.t 0), none⟩,
      ⟨some 7, .mov (.t 1), none⟩,
      ⟨some 8, .bin .add (.t 7) (.c (.int .i64 1)), none⟩,
      ⟨some 9, .call 45 [.t 6, .t 8], none⟩,
      ⟨some 10, .mov (.c (.int .i64 0)), none⟩])
    (.block 0 (.loop ir_chasemake_Stream_Prose_L0)))
    (.seq (.reg [⟨some 22, .mov (.t 5), none⟩,
      ⟨some 4, .mov (.t 22), none⟩])
    .ret))))
def rs_chasemake_Stream_Prose : List IRes := [.t 4]
theorem ck_chasemake_Stream_Prose : chkF Tryz.prog Tryz.f15 ir_chasemake_Stream_Prose rs_chasemake_Stream_Prose 23 = true := by kernel_rfl

/- (*paperchase/chasemake.Stream).Changed -/
def ir_chasemake_Stream_Changed : IC :=
  (.seq (.reg [⟨some 6, .mov (.c (.str [])), none⟩])
    (.seq (.seq (.reg [⟨some 9, .mov (.t 1), none⟩,
      ⟨some 10, .bin .eql (.t 9) (.c (.str [])), none⟩,
      ⟨some 11, .mov (.t 10), none⟩,
      ⟨some 12, .mov (.t 2), (some (11, false))⟩,
      ⟨some 13, .bin .eql (.t 12) (.c (.str [])), (some (11, false))⟩,
      ⟨some 14, .pick (.t 11) (.c (.bool true)) (.t 13), none⟩])
    (.cond (.t 14) (.seq (.reg [⟨some 15, .mov (.t 2), none⟩,
      ⟨some 6, .mov (.t 15), none⟩])
    .ret) .skip))
    (.seq (.reg [⟨some 16, .mov (.t 0), none⟩,
      ⟨some 17, .mov (.t 1), none⟩,
      ⟨some 18, .sln (.t 17), none⟩,
      ⟨some 19, .call 45 [.t 16, .t 18], none⟩,
      ⟨some 7, .mov (.t 19), none⟩])
    (.seq (.reg [⟨some 20, .mov (.t 2), none⟩,
      ⟨some 21, .mov (.t 0), none⟩,
      ⟨some 22, .mov (.t 2), none⟩,
      ⟨some 23, .sln (.t 22), none⟩,
      ⟨some 24, .call 45 [.t 21, .t 23], none⟩,
      ⟨some 25, .idx (.t 20) (.t 24), none⟩,
      ⟨some 8, .mov (.t 25), none⟩])
    (.seq (.seq (.reg [⟨some 26, .mov (.t 0), none⟩,
      ⟨some 27, .call 45 [.t 26, .c (.int .i64 3)], none⟩])
    (.block 0 (.seq (.reg [⟨some 29, .bin .eql (.t 27) (.c (.int .i64 0)), none⟩,
      ⟨some 28, .mov (.t 29), none⟩])
    (.cond (.t 28) (.seq (.drg [⟨some 30, .mov (.t 1), none⟩,
      ⟨some 31, .mov (.t 7), none⟩,
      ⟨some 32, .ssl (.t 30) none (some (.t 31)), none⟩,
      ⟨some 33, .mov (.t 8), none⟩,
      ⟨some 34, .cvi .i32 (.t 33), none⟩,
      ⟨some 35, .cvs (.t 34), none⟩,
      ⟨some 36, .bin .add (.t 32) (.t 35), none⟩,
      ⟨some 37, .mov (.t 1), none⟩,
      ⟨some 38, .mov (.t 7), none⟩,
      ⟨some 39, .bin .add (.t 38) (.c (.int .i64 1)), none⟩,
      ⟨some 40, .ssl (.t 37) (some (.t 39)) none, none⟩,
      ⟨some 41, .bin .add (.t 36) (.t 40), none⟩,
      ⟨some 6, .mov (.t 41), none⟩])
    .ret) (.seq (.reg [⟨some 43, .bin .eql (.t 27) (.c (.int .i64 1)), none⟩,
      ⟨some 42, .mov (.t 43), none⟩])
    (.cond (.t 42) (.seq (.drg [⟨some 44, .mov (.t 1), none⟩,
      ⟨some 45, .mov (.t 7), none⟩,
      ⟨some 46, .ssl (.t 44) none (some (.t 45)), none⟩,
      ⟨some 47, .mov (.t 8), none⟩,
      ⟨some 48, .cvi .i32 (.t 47), none⟩,
      ⟨some 49, .cvs (.t 48), none⟩,
      ⟨some 50, .bin .add (.t 46) (.t 49), none⟩,
      ⟨some 51, .mov (.t 1), none⟩,
      ⟨some 52, .mov (.t 7), none⟩,
      ⟨some 53, .ssl (.t 51) (some (.t 52)) none, none⟩,
      ⟨some 54, .bin .add (.t 50) (.t 53), none⟩,
      ⟨some 6, .mov (.t 54), none⟩])
    .ret) .skip))))))
    (.seq (.drg [⟨some 55, .mov (.t 1), none⟩,
      ⟨some 56, .mov (.t 7), none⟩,
      ⟨some 57, .ssl (.t 55) none (some (.t 56)), none⟩,
      ⟨some 58, .mov (.t 1), none⟩,
      ⟨some 59, .mov (.t 7), none⟩,
      ⟨some 60, .bin .add (.t 59) (.c (.int .i64 1)), none⟩,
      ⟨some 61, .ssl (.t 58) (some (.t 60)) none, none⟩,
      ⟨some 62, .bin .add (.t 57) (.t 61), none⟩,
      ⟨some 6, .mov (.t 62), none⟩])
    .ret))))))
def rs_chasemake_Stream_Changed : List IRes := [.t 6]
theorem ck_chasemake_Stream_Changed : chkF Tryz.prog Tryz.f47 ir_chasemake_Stream_Changed rs_chasemake_Stream_Changed 63 = true := by kernel_rfl

section
variable {E : Envt}
theorem Prose_ok (l : List Int) (k : Nat) (n : Int) (hk : k ≤ 900000) (hl : l.length ≤ 9223372036854775807) (hn0 : 0 ≤ n) (hn : n ≤ 1000) :
    SCall Tryz.prog E 15 T (stm l k) [int n] (fun x cs' => ∃ t k', x = .str t ∧ (t.length : Int) ≤ 6 * n ∧ cs' = stm l k' ∧ k' ≤ k + 3000) := by
  unfold SCall
  refine gcallP mixed Tryz.func15 ck_chasemake_Stream_Prose ?_
  simp only [a0, l0, OS.ao, List.map_cons, List.map_nil, List.length_cons, List.length_nil, List.cons_append, List.nil_append, Nat.reduceSub, Nat.reduceAdd, List.replicate_succ, List.replicate_zero, ir_chasemake_Stream_Prose, rs_chasemake_Stream_Prose, ZZ, YY, Ze, ite_true, ite_false, forall_const, reduceCtorEq, Nat.reduceAdd, Nat.reduceMul, Nat.reduceLeDiff, Nat.reduceLT, Nat.reduceEqDiff]
  refine ⟨i64_of (by omega) (by omega), ?_⟩
  refine useS (Next_ok l k _ (by omega) hl (by omega)) rfl rfl rfl (by simp only [ZZ, YY, Ze, ite_true, ite_false, forall_const, reduceCtorEq, Nat.reduceAdd, Nat.reduceMul, Nat.reduceLeDiff, Nat.reduceLT, Nat.reduceEqDiff]) ?_
  rintro x cs' ⟨y, rfl, rfl⟩
  have b1 := below_lo y (n + 1)
  have b2 := below_hi y (n + 1) (by omega)
  generalize below y (n + 1) = m at *
  simp only [ZZ, YY, Ze, ite_true, ite_false, forall_const, reduceCtorEq, Nat.reduceAdd, Nat.reduceMul, Nat.reduceLeDiff, Nat.reduceLT, Nat.reduceEqDiff]
  refine loop_intro (fun n fr L => ∃ (i : Nat) (k' : Nat) (t : List UInt8), m.toNat - i = n ∧ ((i : Int) ≤ m) ∧ (k' ≤ k + 1 + 2 * i) ∧ (t.length ≤ 6 * i) ∧ fr = [.adr (.b 0) 0, .any, .any, .any, .any, .p (.str t), .any, .any, .any, .p (int m), .p (int (i : Nat)), .any, .any, .any, .any, .any, .any, .any, .any, .any, .any, .any, .any] ∧ L = [(.b 0, .box ((stm l k').map .p) T)]) (m.toNat - 0) [.adr (.b 0) 0, .any, .any, .any, .any, .p (.str []), .any, .any, .any, .p (int m), .p (int (0 : Nat)), .any, .any, .any, .any, .any, .any, .any, .any, .any, .any, .any, .any] [(.b 0, .box ((stm l (k + 1)).map .p) T)] (by (simp only [ZZ, YY, Ze, ite_true, ite_false, forall_const, reduceCtorEq, Nat.reduceAdd, Nat.reduceMul, Nat.reduceLeDiff, Nat.reduceLT, Nat.reduceEqDiff]; try trivial)) (by (simp only [ZZ, YY, Ze, ite_true, ite_false, forall_const, reduceCtorEq, Nat.reduceAdd, Nat.reduceMul, Nat.reduceLeDiff, Nat.reduceLT, Nat.reduceEqDiff]; try trivial)) ⟨0, k + 1, [], rfl, by omega, by omega, by simp, rfl, rfl⟩ ?_
  rintro n fr L ⟨i, k', t, rfl, him, hk', ht, rfl, rfl⟩
  simp only [ir_chasemake_Stream_Prose_L0, ZZ, YY, Ze, ite_true, ite_false, forall_const, reduceCtorEq, Nat.reduceAdd, Nat.reduceMul, Nat.reduceLeDiff, Nat.reduceLT, Nat.reduceEqDiff]
  refine br ?_ ?_
  · intro h
    have hlt : (i : Int) < m := of_decide_eq_true h
    simp only [ZZ, YY, Ze, ite_true, ite_false, forall_const, reduceCtorEq, Nat.reduceAdd, Nat.reduceMul, Nat.reduceLeDiff, Nat.reduceLT, Nat.reduceEqDiff]
    refine useS (one_ok l k' [[97], [98], [99], [100], [101], [65], [66], [105, 116, 39, 115], [195, 169], [120, 44], [57]] (by omega) hl (by simp) (by simp)) rfl rfl rfl (by simp only [ZZ, YY, Ze, ite_true, ite_false, forall_const, reduceCtorEq, Nat.reduceAdd, Nat.reduceMul, Nat.reduceLeDiff, Nat.reduceLT, Nat.reduceEqDiff]) ?_
    rintro x cs' ⟨u, rfl, hu, rfl⟩
    have hul : u.length ≤ 4 := by simp at hu; rcases hu with rfl | rfl | rfl | rfl | rfl | rfl | rfl | rfl | rfl | rfl | rfl <;> simp
    simp only [ZZ, YY, Ze, ite_true, ite_false, forall_const, reduceCtorEq, Nat.reduceAdd, Nat.reduceMul, Nat.reduceLeDiff, Nat.reduceLT, Nat.reduceEqDiff]
    refine useS (one_ok l (k' + 1) [[32], [32], [32], [32, 32], [10], [10, 10], [44, 32], []] (by omega) hl (by simp) (by simp)) rfl rfl rfl (by simp only [ZZ, YY, Ze, ite_true, ite_false, forall_const, reduceCtorEq, Nat.reduceAdd, Nat.reduceMul, Nat.reduceLeDiff, Nat.reduceLT, Nat.reduceEqDiff]) ?_
    rintro x cs' ⟨v, rfl, hv, rfl⟩
    have hvl : v.length ≤ 2 := by simp at hv; rcases hv with rfl | rfl | rfl | rfl | rfl | rfl | rfl <;> simp
    simp only [ZZ, YY, Ze, ite_true, ite_false, forall_const, reduceCtorEq, Nat.reduceAdd, Nat.reduceMul, Nat.reduceLeDiff, Nat.reduceLT, Nat.reduceEqDiff]
    have h3 : (u ++ v).length ≤ 6 := by simp; omega
    ((repeat' (with_reducible apply And.intro)) <;> try ((first | first | assumption | trivial | exact (fun hq => by rw [hq]; rfl) | exact i64_of (by omega) (by omega) | omega | (simp; done) | (simp; omega) | (intro hsc; have hs0 := hsc; (try have hsd := of_decide_eq_true hsc); (try simp only [Bool.not_eq_true', Bool.or_eq_false_iff, Bool.and_eq_true, Bool.or_eq_true, decide_eq_true_eq, decide_eq_false_iff_not] at hsc); (repeat' (with_reducible apply And.intro)) <;> (first | assumption | trivial | exact (fun hq => by rw [hq]; rfl) | exact i64_of (by omega) (by omega) | omega | (simp; done) | (simp; omega) | (intro hse; simp [hse, hs0]; done) | (intro hse; simp only [hse, hs0, Bool.true_and, Bool.and_true, Bool.not_false, Bool.not_true, Bool.and_self]; done))))))
    refine end_round (m.toNat - (i + 1)) [.adr (.b 0) 0, .any, .any, .any, .any, .p (.str (t ++ (u ++ v))), .any, .any, .any, .p (int m), .p (int ((i + 1) : Nat)), .any, .any, .any, .any, .any, .any, .any, .any, .any, .any, .any, .any] [(.b 0, .box ((stm l (k' + 1 + 1)).map .p) T)] (by omega) (by (simp only [ZZ, YY, Ze, ite_true, ite_false, forall_const, reduceCtorEq, Nat.reduceAdd, Nat.reduceMul, Nat.reduceLeDiff, Nat.reduceLT, Nat.reduceEqDiff]; try trivial)) (by (simp only [ZZ, YY, Ze, ite_true, ite_false, forall_const, reduceCtorEq, Nat.reduceAdd, Nat.reduceMul, Nat.reduceLeDiff, Nat.reduceLT, Nat.reduceEqDiff]; try trivial)) ⟨i + 1, k' + 1 + 1, t ++ (u ++ v), rfl, by omega, by omega, by rw [List.length_append]; omega, rfl, rfl⟩
  · intro h
    simp only [ZZ, YY, Ze, ite_true, ite_false, forall_const, reduceCtorEq, Nat.reduceAdd, Nat.reduceMul, Nat.reduceLeDiff, Nat.reduceLT, Nat.reduceEqDiff]
    exact fin_S (stm l k') rfl ⟨t, _, rfl, by omega, rfl, by omega⟩
theorem enc_le (c : Int) : (Utf8.encode c).data.toList.length ≤ 4 := by
  rw [Array.length_toList]
  exact encode_size_le c
theorem Changed_ok (l : List Int) (k : Nat) (s t : List UInt8) (hk : k ≤ 900000) (hl : l.length ≤ 9223372036854775807) (hs : s.length ≤ 1000000) (ht : t.length ≤ 1000000) :
    SCall Tryz.prog E 47 T (stm l k) [.str s, .str t] (fun x cs' => ∃ u k', x = .str u ∧ u.length ≤ s.length + t.length + 10 ∧ cs' = stm l k' ∧ k' ≤ k + 3) := by
  unfold SCall
  refine gcallP mixed Tryz.func47 ck_chasemake_Stream_Changed ?_
  simp only [a0, l0, OS.ao, List.map_cons, List.map_nil, List.length_cons, List.length_nil, List.cons_append, List.nil_append, Nat.reduceSub, Nat.reduceAdd, List.replicate_succ, List.replicate_zero, ir_chasemake_Stream_Changed, rs_chasemake_Stream_Changed, ZZ, YY, Ze, ite_true, ite_false, forall_const, reduceCtorEq, Nat.reduceAdd, Nat.reduceMul, Nat.reduceLeDiff, Nat.reduceLT, Nat.reduceEqDiff]
  ((repeat' (with_reducible apply And.intro)) <;> try ((first | first | assumption | trivial | exact (fun hq => by rw [hq]; rfl) | exact i64_of (by omega) (by omega) | omega | (simp; done) | (simp; omega) | (intro hsc; have hs0 := hsc; (try have hsd := of_decide_eq_true hsc); (try simp only [Bool.not_eq_true', Bool.or_eq_false_iff, Bool.and_eq_true, Bool.or_eq_true, decide_eq_true_eq, decide_eq_false_iff_not] at hsc); (repeat' (with_reducible apply And.intro)) <;> (first | assumption | trivial | exact (fun hq => by rw [hq]; rfl) | exact i64_of (by omega) (by omega) | omega | (simp; done) | (simp; omega) | (intro hse; simp [hse, hs0]; done) | (intro hse; simp only [hse, hs0, Bool.true_and, Bool.and_true, Bool.not_false, Bool.not_true, Bool.and_self]; done))))))
  refine br ?_ ?_
  · intro _
    simp only [ZZ, YY, Ze, ite_true, ite_false, forall_const, reduceCtorEq, Nat.reduceAdd, Nat.reduceMul, Nat.reduceLeDiff, Nat.reduceLT, Nat.reduceEqDiff]
    exact fin_S (stm l k) rfl ⟨t, _, rfl, by omega, rfl, by omega⟩
  · intro h
    simp only [Bool.or_eq_false_iff, decide_eq_false_iff_not] at h
    have hs0 : 0 < s.length := List.length_pos_iff.2 h.1
    have ht0 : 0 < t.length := List.length_pos_iff.2 h.2
    simp only [ZZ, YY, Ze, ite_true, ite_false, forall_const, reduceCtorEq, Nat.reduceAdd, Nat.reduceMul, Nat.reduceLeDiff, Nat.reduceLT, Nat.reduceEqDiff]
    refine useS (Next_ok l k _ (by omega) hl (by omega)) rfl rfl rfl (by simp only [ZZ, YY, Ze, ite_true, ite_false, forall_const, reduceCtorEq, Nat.reduceAdd, Nat.reduceMul, Nat.reduceLeDiff, Nat.reduceLT, Nat.reduceEqDiff]) ?_
    rintro x cs' ⟨y, rfl, rfl⟩
    obtain ⟨i, hi, hy⟩ := below_idx y s.length hs0
    rw [hy]
    simp only [ZZ, YY, Ze, ite_true, ite_false, forall_const, reduceCtorEq, Nat.reduceAdd, Nat.reduceMul, Nat.reduceLeDiff, Nat.reduceLT, Nat.reduceEqDiff]
    refine useS (Next_ok l (k + 1) _ (by omega) hl (by omega)) rfl rfl rfl (by simp only [ZZ, YY, Ze, ite_true, ite_false, forall_const, reduceCtorEq, Nat.reduceAdd, Nat.reduceMul, Nat.reduceLeDiff, Nat.reduceLT, Nat.reduceEqDiff]) ?_
    rintro x cs' ⟨y2, rfl, rfl⟩
    obtain ⟨j, hj, hy2⟩ := below_idx y2 t.length ht0
    rw [hy2]
    simp only [ZZ, YY, Ze, ite_true, ite_false, forall_const, reduceCtorEq, Nat.reduceAdd, Nat.reduceMul, Nat.reduceLeDiff, Nat.reduceLT, Nat.reduceEqDiff]
    ((repeat' (with_reducible apply And.intro)) <;> try ((first | first | assumption | trivial | exact (fun hq => by rw [hq]; rfl) | exact i64_of (by omega) (by omega) | omega | (simp; done) | (simp; omega) | (intro hsc; have hs0 := hsc; (try have hsd := of_decide_eq_true hsc); (try simp only [Bool.not_eq_true', Bool.or_eq_false_iff, Bool.and_eq_true, Bool.or_eq_true, decide_eq_true_eq, decide_eq_false_iff_not] at hsc); (repeat' (with_reducible apply And.intro)) <;> (first | assumption | trivial | exact (fun hq => by rw [hq]; rfl) | exact i64_of (by omega) (by omega) | omega | (simp; done) | (simp; omega) | (intro hse; simp [hse, hs0]; done) | (intro hse; simp only [hse, hs0, Bool.true_and, Bool.and_true, Bool.not_false, Bool.not_true, Bool.and_self]; done))))))
    refine useS (Next_ok l (k + 1 + 1) _ (by omega) hl (by decide)) rfl rfl rfl (by simp only [ZZ, YY, Ze, ite_true, ite_false, forall_const, reduceCtorEq, Nat.reduceAdd, Nat.reduceMul, Nat.reduceLeDiff, Nat.reduceLT, Nat.reduceEqDiff]) ?_
    rintro x cs' ⟨y3, rfl, rfl⟩
    have hE4 := enc_le (IntKind.i32.wrap (((t.getD j 0).toNat : Nat) : Int))
    have l1 : (s.take i).length ≤ s.length := by simp; omega
    have l2 : ∀ q, (s.drop q).length ≤ s.length := by intro q; simp
    generalize below y3 3 = z at *
    simp only [ZZ, YY, Ze, ite_true, ite_false, forall_const, reduceCtorEq, Nat.reduceAdd, Nat.reduceMul, Nat.reduceLeDiff, Nat.reduceLT, Nat.reduceEqDiff]
    refine br ?_ ?_
    · intro _
      simp only [ZZ, YY, Ze, ite_true, ite_false, forall_const, reduceCtorEq, Nat.reduceAdd, Nat.reduceMul, Nat.reduceLeDiff, Nat.reduceLT, Nat.reduceEqDiff]
      refine drg0 ?_
      simp only [ZZ, YY, Ze, ite_true, ite_false, forall_const, reduceCtorEq, Nat.reduceAdd, Nat.reduceMul, Nat.reduceLeDiff, Nat.reduceLT, Nat.reduceEqDiff]
      ((repeat' (with_reducible apply And.intro)) <;> try ((first | first | assumption | trivial | exact (fun hq => by rw [hq]; rfl) | exact i64_of (by omega) (by omega) | omega | (simp; done) | (simp; omega) | (intro hsc; have hs0 := hsc; (try have hsd := of_decide_eq_true hsc); (try simp only [Bool.not_eq_true', Bool.or_eq_false_iff, Bool.and_eq_true, Bool.or_eq_true, decide_eq_true_eq, decide_eq_false_iff_not] at hsc); (repeat' (with_reducible apply And.intro)) <;> (first | assumption | trivial | exact (fun hq => by rw [hq]; rfl) | exact i64_of (by omega) (by omega) | omega | (simp; done) | (simp; omega) | (intro hse; simp [hse, hs0]; done) | (intro hse; simp only [hse, hs0, Bool.true_and, Bool.and_true, Bool.not_false, Bool.not_true, Bool.and_self]; done))))))
      all_goals first
        | exact fin_S (stm l (k + 1 + 1 + 1)) rfl ⟨_, _, rfl, by simp only [List.length_append, List.length_drop, List.length_take]; omega, rfl, by omega⟩
        | (simp only [List.length_append, List.length_drop, List.length_take]; omega)
    · intro _
      simp only [ZZ, YY, Ze, ite_true, ite_false, forall_const, reduceCtorEq, Nat.reduceAdd, Nat.reduceMul, Nat.reduceLeDiff, Nat.reduceLT, Nat.reduceEqDiff]
      refine br ?_ ?_
      · intro _
        simp only [ZZ, YY, Ze, ite_true, ite_false, forall_const, reduceCtorEq, Nat.reduceAdd, Nat.reduceMul, Nat.reduceLeDiff, Nat.reduceLT, Nat.reduceEqDiff]
        refine drg0 ?_
        simp only [ZZ, YY, Ze, ite_true, ite_false, forall_const, reduceCtorEq, Nat.reduceAdd, Nat.reduceMul, Nat.reduceLeDiff, Nat.reduceLT, Nat.reduceEqDiff]
        ((repeat' (with_reducible apply And.intro)) <;> try ((first | first | assumption | trivial | exact (fun hq => by rw [hq]; rfl) | exact i64_of (by omega) (by omega) | omega | (simp; done) | (simp; omega) | (intro hsc; have hs0 := hsc; (try have hsd := of_decide_eq_true hsc); (try simp only [Bool.not_eq_true', Bool.or_eq_false_iff, Bool.and_eq_true, Bool.or_eq_true, decide_eq_true_eq, decide_eq_false_iff_not] at hsc); (repeat' (with_reducible apply And.intro)) <;> (first | assumption | trivial | exact (fun hq => by rw [hq]; rfl) | exact i64_of (by omega) (by omega) | omega | (simp; done) | (simp; omega) | (intro hse; simp [hse, hs0]; done) | (intro hse; simp only [hse, hs0, Bool.true_and, Bool.and_true, Bool.not_false, Bool.not_true, Bool.and_self]; done))))))
        all_goals first
          | exact fin_S (stm l (k + 1 + 1 + 1)) rfl ⟨_, _, rfl, by simp only [List.length_append, List.length_drop, List.length_take]; omega, rfl, by omega⟩
          | (simp only [List.length_append, List.length_drop, List.length_take]; omega)
      · intro _
        simp only [ZZ, YY, Ze, ite_true, ite_false, forall_const, reduceCtorEq, Nat.reduceAdd, Nat.reduceMul, Nat.reduceLeDiff, Nat.reduceLT, Nat.reduceEqDiff]
        refine drg0 ?_
        simp only [ZZ, YY, Ze, ite_true, ite_false, forall_const, reduceCtorEq, Nat.reduceAdd, Nat.reduceMul, Nat.reduceLeDiff, Nat.reduceLT, Nat.reduceEqDiff]
        ((repeat' (with_reducible apply And.intro)) <;> try ((first | first | assumption | trivial | exact (fun hq => by rw [hq]; rfl) | exact i64_of (by omega) (by omega) | omega | (simp; done) | (simp; omega) | (intro hsc; have hs0 := hsc; (try have hsd := of_decide_eq_true hsc); (try simp only [Bool.not_eq_true', Bool.or_eq_false_iff, Bool.and_eq_true, Bool.or_eq_true, decide_eq_true_eq, decide_eq_false_iff_not] at hsc); (repeat' (with_reducible apply And.intro)) <;> (first | assumption | trivial | exact (fun hq => by rw [hq]; rfl) | exact i64_of (by omega) (by omega) | omega | (simp; done) | (simp; omega) | (intro hse; simp [hse, hs0]; done) | (intro hse; simp only [hse, hs0, Bool.true_and, Bool.and_true, Bool.not_false, Bool.not_true, Bool.and_self]; done))))))
        all_goals first
          | exact fin_S (stm l (k + 1 + 1 + 1)) rfl ⟨_, _, rfl, by simp only [List.length_append, List.length_drop, List.length_take]; omega, rfl, by omega⟩
          | (simp only [List.length_append, List.length_drop, List.length_take]; omega)
end
end Go.Proofs.YthfpehmbellmcaaGreatDoor
