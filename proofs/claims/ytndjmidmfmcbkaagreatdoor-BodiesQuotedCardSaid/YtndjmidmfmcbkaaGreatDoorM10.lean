
/- Own texts, put together: J6 J8. -/
import Derived.Test.YtndjmidmfmcbkaaGreatDoorM9
import Derived.Test.YtndjmidmfmcbkaaGreatDoorM3
/- Paragraphs: the reference. -/
namespace Go.Proofs.YtndjmidmfmcbkaaGreatDoor
open Go.RowKit
set_option linter.unusedVariables false
set_option linter.unusedSimpArgs false
set_option linter.defProp false

/- paperchase/chaseref1.ParagraphsOf -/
def ir_chaseref1_ParagraphsOf_L0 : IC :=
  (.seq (.reg [⟨some 18, .bin .lss (.t 17) (.t 16), none⟩])
    (.seq (.cond (.t 18) .skip (.exit 0))
    (.seq (.block 1 (.seq (.reg [⟨some 19, .mov (.t 17), none⟩,
      ⟨some 20, .ixa 2 (.t 15) (.t 17), none⟩,
      ⟨some 21, .ld 2 true (.t 20), none⟩,
      ⟨some 9, .alc 72 [.int .i64 0, .str []], none⟩,
      ⟨some 8, .mov (.t 19), none⟩,
      ⟨none, .st 2 (.t 9) (.t 21), none⟩])
    (.seq (.reg [⟨some 22, .fla 1 (.t 9), none⟩,
      ⟨some 23, .ld 1 false (.t 22), none⟩,
      ⟨some 24, .call 111 [.t 23], none⟩,
      ⟨some 25, .call 115 [.t 24], none⟩,
      ⟨some 10, .mov (.t 25), none⟩])
    (.seq (.seq (.reg [⟨some 26, .mov (.t 7), none⟩,
      ⟨some 27, .mov (.t 8), none⟩,
      ⟨some 28, .ixa 1 (.t 26) (.t 27), none⟩,
      ⟨some 29, .ld 1 false (.t 28), none⟩,
      ⟨some 30, .mov (.t 29), none⟩,
      ⟨some 31, .mov (.t 10), (some (30, false))⟩,
      ⟨some 32, .bin .eql (.t 31) (.c (.str [])), (some (30, false))⟩,
      ⟨some 33, .pick (.t 30) (.c (.bool true)) (.t 32), none⟩,
      ⟨some 34, .mov (.t 33), none⟩,
      ⟨some 35, .fla 0 (.t 9), (some (34, false))⟩,
      ⟨some 36, .ld 1 false (.t 35), (some (34, false))⟩,
      ⟨some 37, .mov (.t 5), (some (34, false))⟩,
      ⟨some 38, .bin .neq (.t 36) (.t 37), (some (34, false))⟩,
      ⟨some 39, .pick (.t 34) (.c (.bool true)) (.t 38), none⟩])
    (.cond (.t 39) (.reg [⟨some 40, .mov (.t 6), none⟩,
      ⟨some 41, .callv (.t 40) [], none⟩]) .skip))
    (.cut (.seq (.seq (.reg [⟨some 42, .mov (.t 7), none⟩,
      ⟨some 43, .mov (.t 8), none⟩,
      ⟨some 44, .ixa 1 (.t 42) (.t 43), none⟩,
      ⟨some 45, .ld 1 false (.t 44), none⟩,
      ⟨some 46, .not (.t 45), none⟩,
      ⟨some 47, .mov (.t 46), none⟩,
      ⟨some 48, .mov (.t 10), (some (47, true))⟩,
      ⟨some 49, .bin .neq (.t 48) (.c (.str [])), (some (47, true))⟩,
      ⟨some 50, .pick (.t 47) (.t 49) (.c (.bool false)), none⟩])
    (.cond (.t 50) (.reg [⟨some 51, .ld 1 false (.t 4), none⟩,
      ⟨some 52, .bin .add (.t 51) (.c (.str [32])), none⟩,
      ⟨some 53, .mov (.t 10), none⟩,
      ⟨some 54, .bin .add (.t 52) (.t 53), none⟩,
      ⟨some 55, .call 111 [.t 54], none⟩,
      ⟨none, .st 1 (.t 4) (.t 55), none⟩]) .skip))
    (.cut (.reg [⟨some 56, .fla 0 (.t 9), none⟩,
      ⟨some 57, .ld 1 false (.t 56), none⟩,
      ⟨some 5, .mov (.t 57), none⟩]))))))))
    (.reg [⟨some 58, .bin .add (.t 17) (.c (.int .i64 1)), none⟩,
      ⟨some 17, .mov (.t 58), none⟩]))))
def ir_chaseref1_ParagraphsOf : IC :=
  (.seq (.reg [⟨some 2, .mov (.c (.nl 1)), none⟩])
    (.seq (.reg [⟨some 3, .alc 28 [.nl 1], none⟩])
    (.seq (.reg [⟨some 4, .alc 9 [.str []], none⟩,
      ⟨none, .st 1 (.t 4) (.c (.str [])), none⟩,
      ⟨some 5, .mov (.c (.int .i64 (-1))), none⟩])
    (.seq (.reg [⟨some 11, .mkf 112 [.t 4, .t 3], none⟩,
      ⟨some 6, .mov (.t 11), none⟩])
    (.seq (.reg [⟨some 12, .mov (.t 0), none⟩,
      ⟨some 13, .call 114 [.t 12], none⟩,
      ⟨some 7, .mov (.t 13), none⟩])
    (.seq (.seq (.reg [⟨some 14, .mov (.t 0), none⟩,
      ⟨some 15, .call 38 [.t 14], none⟩,
      ⟨some 16, .len (.t 15), none⟩,
      ⟨some 17, .mov (.c (.int .i64 0)), none⟩])
    (.block 0 (.loop ir_chaseref1_ParagraphsOf_L0)))
    (.seq (.reg [⟨some 59, .mov (.t 6), none⟩,
      ⟨some 60, .callv (.t 59) [], none⟩])
    (.seq (.reg [⟨some 61, .ld 1 false (.t 3), none⟩,
      ⟨some 2, .mov (.t 61), none⟩])
    .ret))))))))
def rs_chaseref1_ParagraphsOf : List IRes := [.t 2]
theorem ck_chaseref1_ParagraphsOf : chkF Tryz.prog Tryz.f42 ir_chaseref1_ParagraphsOf rs_chaseref1_ParagraphsOf 62 = true := by kernel_rfl
/- paperchase/chaseref1.ParagraphsOf$1 -/
def ir_chaseref1_ParagraphsOf_1 : IC :=
  (.seq (.seq (.reg [⟨some 2, .ld 1 false (.t 0), none⟩,
      ⟨some 3, .bin .neq (.t 2) (.c (.str [])), none⟩,
      ⟨some 4, .mov (.t 3), none⟩,
      ⟨some 5, .ld 1 false (.t 1), (some (4, true))⟩,
      ⟨some 6, .ld 1 false (.t 0), (some (4, true))⟩,
      ⟨some 7, .call 113 [.t 5, .t 6], (some (4, true))⟩,
      ⟨some 8, .not (.t 7), (some (4, true))⟩,
      ⟨some 9, .pick (.t 4) (.t 8) (.c (.bool false)), none⟩])
    (.cond (.t 9) (.reg [⟨some 10, .ld 1 false (.t 1), none⟩,
      ⟨some 11, .ld 1 false (.t 0), none⟩,
      ⟨some 12, .bsl 1 [.t 11], none⟩,
      ⟨some 13, .app 9 1 16 (.t 10) (.t 12), none⟩,
      ⟨none, .st 1 (.t 1) (.t 13), none⟩]) .skip))
    (.cut (.reg [⟨none, .st 1 (.t 0) (.c (.str [])), none⟩])))
def rs_chaseref1_ParagraphsOf_1 : List IRes := []
theorem ck_chaseref1_ParagraphsOf_1 : chkF Tryz.prog Tryz.f112 ir_chaseref1_ParagraphsOf_1 rs_chaseref1_ParagraphsOf_1 14 = true := by kernel_rfl


abbrev tStrs : Nat := 28
abbrev fPE : Nat := 112
/-- The end of a paragraph. -/
def endR (o : List (List UInt8)) (now : List UInt8) : List (List UInt8) := if now ≠ [] ∧ now ∉ o then o ++ [now] else o
/-- Where the reference stands after k lines: the paragraphs, the one under way, the depth. -/
def stR (l : List (List UInt8)) : Nat → List (List UInt8) × List UInt8 × Int
  | 0 => ([], [], -1)
  | k + 1 =>
    let s := lowF (sqF (txF l k))
    let st := stR l k
    let e := (qF l k).2 || decide (s = []) || !decide (((qF l k).1 : Int) = st.2.2)
    let o := if e = true then endR st.1 st.2.1 else st.1
    let n := if e = true then [] else st.2.1
    (o, if (!(qF l k).2 && !decide (s = [])) = true then sqF (n ++ 32 :: s) else n, (qF l k).1)
def outL (o : List (List UInt8)) (now : List UInt8) : Objs := match o with
  | [] => [(.l 3, .box [.p (.nl 1)] tStrs), (.l 4, .box [.p (.str now)] tStr)]
  | x :: r => [(.l 3, .box [.row (.l 100)] tStrs), (.l 4, .box [.p (.str now)] tStr), (.l 100, .row (strE (x :: r)) tStr 1 true)]
theorem outL_nil (now : List UInt8) : outL [] now = [(.l 3, .box [.p (.nl 1)] tStrs), (.l 4, .box [.p (.str now)] tStr)] := rfl
theorem outL_cons (y : List UInt8) (r : List (List UInt8)) (now : List UInt8) : outL (y :: r) now = [(.l 3, .box [.row (.l 100)] tStrs), (.l 4, .box [.p (.str now)] tStr), (.l 100, .row (strE (y :: r)) tStr 1 true)] := rfl
theorem strE_app' (y : List UInt8) (r : List (List UInt8)) (x : List UInt8) : strE (y :: r) ++ [[.str x]] = strE (y :: (r ++ [x])) := by simp [strE]
theorem strE_app2 (y : List UInt8) (r : List (List UInt8)) (x : List UInt8) : strE (y :: r) ++ strE [x] = strE (y :: (r ++ [x])) := by simp [strE]
theorem wgt_take (n : Nat) : ∀ (l : List (List UInt8)), wgt (l.take n) ≤ wgt l := by
  induction n with
  | zero => intro l; simp [wgt]
  | succ n ih =>
    intro l
    cases l with
    | nil => simp [wgt]
    | cons x r => have := ih r; simp only [List.take_succ_cons, wgt]; omega
theorem wgt_step {l : List (List UInt8)} {k : Nat} {x : List UInt8} (h : l[k]? = some x) : wgt (l.take (k + 1)) = wgt (l.take k) + x.length + 1 := by
  rw [List.take_add_one, h, wgt_app]
  simp [wgt]
  omega
theorem txF_len {l : List (List UInt8)} {k : Nat} {x : List UInt8} (h : l[k]? = some x) : (txF l k).length ≤ x.length := by
  have := strip_bd _ x (Nat.le_refl _)
  have e : l.getD k [] = x := by simp [List.getD, h]
  unfold txF
  rw [e]
  omega
theorem stR_now (l : List (List UInt8)) : ∀ k, k ≤ l.length → (stR l k).2.1.length ≤ wgt (l.take k) := by
  intro k
  induction k with
  | zero => intro _; simp [stR, wgt]
  | succ k ih =>
    intro hk
    obtain ⟨x, hx⟩ : ∃ x, l[k]? = some x := ⟨_, List.getElem?_eq_getElem (by omega)⟩
    have h1 := ih (by omega)
    have h2 := wgt_step hx
    have h3 := txF_len hx
    have h4 := sqF_len (txF l k)
    rw [stR]
    simp only
    generalize hn : (if ((qF l k).2 || decide (lowF (sqF (txF l k)) = []) || !decide (((qF l k).1 : Int) = (stR l k).2.2)) = true then [] else (stR l k).2.1) = n
    have hnl : n.length ≤ wgt (l.take k) := by
      rw [← hn]
      split
      · simp
      · exact h1
    split
    · have h5 := sqF_len (n ++ 32 :: lowF (sqF (txF l k)))
      have h6 : (lowF (sqF (txF l k))).length = (sqF (txF l k)).length := by simp [lowF]
      rw [List.length_append, List.length_cons, h6] at h5
      omega
    · omega
theorem stR_out (l : List (List UInt8)) : ∀ k, (stR l k).1.length ≤ k := by
  intro k
  induction k with
  | zero => simp [stR]
  | succ k ih =>
    rw [stR]
    simp only
    split
    · unfold endR
      split
      · simp; exact ih
      · omega
    · omega
theorem rlinesF_wgt (s : List UInt8) : wgt (rlinesF s) ≤ s.length + 1 := by
  unfold rlinesF
  have := wgt_take ((splF s 10).length - 1) (splF s 10)
  have h2 := sp_wgt 10 s
  rw [← splF_sp] at h2
  omega
theorem ContainsN_ok (x : List UInt8) : PCall Tryz.prog E0 113 [.sl 1 [], .str x] (· = .bool false) := (ContainsS_ok [] x (by simp)).mono fun y h => by rw [h]; simp
set_option maxHeartbeats 4000000 in
theorem ParagraphsOf_ok (s : List UInt8) (hs : s.length ≤ 20000) : PCall Tryz.prog E0 42 [.str s] (· = .sl 1 (strE (endR (stR (rlinesF s) (rlinesF s).length).1 (stR (rlinesF s) (rlinesF s).length).2.1))) := by
  refine pcallF mixed Tryz.func42 ck_chaseref1_ParagraphsOf ?_
  simp only [a0, l0, OS.ao, List.map_cons, List.map_nil, List.length_cons, List.length_nil, List.cons_append, List.nil_append, Nat.reduceSub, Nat.reduceAdd, List.replicate_succ, List.replicate_zero, ir_chaseref1_ParagraphsOf, rs_chaseref1_ParagraphsOf, ZZ, YY, Zd, ite_true, ite_false, forall_const, reduceCtorEq, Nat.reduceAdd, Nat.reduceMul, Nat.reduceLeDiff, Nat.reduceLT, Nat.reduceEqDiff]
  refine use1 (attributed_ok s (by omega)) rfl (.inl rfl) ?_
  simp only [ZZ, YY, Zd, ite_true, ite_false, forall_const, reduceCtorEq, Nat.reduceAdd, Nat.reduceMul, Nat.reduceLeDiff, Nat.reduceLT, Nat.reduceEqDiff]
  refine use1 (QuotedP s (by omega)) rfl (.inl rfl) ?_
  obtain ⟨hll, hlb⟩ := rlinesF_bd s
  have hw := rlinesF_wgt s
  generalize rlinesF s = l at *
  simp only [ZZ, YY, Zd, ite_true, ite_false, forall_const, reduceCtorEq, Nat.reduceAdd, Nat.reduceMul, Nat.reduceLeDiff, Nat.reduceLT, Nat.reduceEqDiff, quF_len]
  refine loop_intro (fun n fr L => ∃ (k : Nat), k ≤ l.length ∧ n = l.length - k ∧ fr = [.any, .any, .any, .adr (.l 3) 0, .adr (.l 4) 0, .p (int (stR l k).2.2), .fn fPE [.l 4, .l 3], .p (.sl 1 (rowM l l.length)), .any, .any, .any, .any, .any, .any, .any, .p (.sl 2 (quF l)), .p (int (l.length : Nat)), .p (int (k : Nat)), .any, .any, .any, .any, .any, .any, .any, .any, .any, .any, .any, .any, .any, .any, .any, .any, .any, .any, .any, .any, .any, .any, .any, .any, .any, .any, .any, .any, .any, .any, .any, .any, .any, .any, .any, .any, .any, .any, .any, .any, .any, .any, .any, .any] ∧ L = outL (stR l k).1 (stR l k).2.1) l.length [.any, .any, .any, .adr (.l 3) 0, .adr (.l 4) 0, .p (int (-1)), .fn fPE [.l 4, .l 3], .p (.sl 1 (rowM l l.length)), .any, .any, .any, .any, .any, .any, .any, .p (.sl 2 (quF l)), .p (int (l.length : Nat)), .p (int (0 : Nat)), .any, .any, .any, .any, .any, .any, .any, .any, .any, .any, .any, .any, .any, .any, .any, .any, .any, .any, .any, .any, .any, .any, .any, .any, .any, .any, .any, .any, .any, .any, .any, .any, .any, .any, .any, .any, .any, .any, .any, .any, .any, .any, .any, .any] (outL [] []) (by (simp only [ZZ, YY, Zd, ite_true, ite_false, forall_const, reduceCtorEq, Nat.reduceAdd, Nat.reduceMul, Nat.reduceLeDiff, Nat.reduceLT, Nat.reduceEqDiff]; try trivial)) (by simp only [ZZ, YY, Zd, ite_true, ite_false, forall_const, reduceCtorEq, Nat.reduceAdd, Nat.reduceMul, Nat.reduceLeDiff, Nat.reduceLT, Nat.reduceEqDiff, outL]) ⟨0, by omega, by omega, rfl, rfl⟩ ?_
  rintro n fr L ⟨k, hk, rfl, rfl, rfl⟩
  have hol := stR_out l k
  have hnl := stR_now l k hk
  have hwk := wgt_take k l
  have hs1 : (stR l (k + 1)).1 = if ((qF l k).2 || decide (lowF (sqF (txF l k)) = []) || !decide (((qF l k).1 : Int) = (stR l k).2.2)) = true then endR (stR l k).1 (stR l k).2.1 else (stR l k).1 := rfl
  have hs2 : (stR l (k + 1)).2.1 = if (!(qF l k).2 && !decide (lowF (sqF (txF l k)) = [])) = true then sqF ((if ((qF l k).2 || decide (lowF (sqF (txF l k)) = []) || !decide (((qF l k).1 : Int) = (stR l k).2.2)) = true then [] else (stR l k).2.1) ++ 32 :: lowF (sqF (txF l k))) else (if ((qF l k).2 || decide (lowF (sqF (txF l k)) = []) || !decide (((qF l k).1 : Int) = (stR l k).2.2)) = true then [] else (stR l k).2.1) := rfl
  have hs3 : (stR l (k + 1)).2.2 = (qF l k).1 := rfl
  generalize ho : (stR l k).1 = o at *
  generalize hn : (stR l k).2.1 = now at *
  generalize hd : (stR l k).2.2 = d at *
  rcases o with _ | ⟨y, r⟩
  · skip
    simp only [outL_nil, List.mem_cons, List.not_mem_nil, or_self, ir_chaseref1_ParagraphsOf_L0, ZZ, YY, Zd, ite_true, ite_false, forall_const, reduceCtorEq, Nat.reduceAdd, Nat.reduceMul, Nat.reduceLeDiff, Nat.reduceLT, Nat.reduceEqDiff]
    refine br ?_ ?_
    · intro h
      have hlt : k < l.length := by have := of_decide_eq_true h; omega
      obtain ⟨x, hx⟩ : ∃ x, l[k]? = some x := ⟨_, List.getElem?_eq_getElem hlt⟩
      have hxb := hlb x (List.mem_of_getElem? hx)
      have htl := txF_len hx
      have hsl := sqF_len (txF l k)
      have hll2 : (lowF (sqF (txF l k))).length = (sqF (txF l k)).length := by simp [lowF]
      have hws := wgt_step hx
      have hwk1 := wgt_take (k + 1) l
      simp only [ZZ, YY, Zd, ite_true, ite_false, forall_const, reduceCtorEq, Nat.reduceAdd, Nat.reduceMul, Nat.reduceLeDiff, Nat.reduceLT, Nat.reduceEqDiff, quF_get hlt, quF_len, List.mem_cons, List.not_mem_nil, or_self]
      ((repeat' (with_reducible apply And.intro)) <;> try ((first | first | assumption | trivial | exact (fun hq => by rw [hq]; rfl) | exact i64_of (by omega) (by omega) | omega | (simp; done) | (simp; omega) | (intro hsc; have hs0 := hsc; (try have hsd := of_decide_eq_true hsc); (try simp only [Bool.not_eq_true', Bool.or_eq_false_iff, Bool.and_eq_true, Bool.or_eq_true, decide_eq_true_eq, decide_eq_false_iff_not] at hsc); (repeat' (with_reducible apply And.intro)) <;> (first | assumption | trivial | exact (fun hq => by rw [hq]; rfl) | exact i64_of (by omega) (by omega) | omega | (simp; done) | (simp; omega) | (intro hse; simp [hse, hs0]; done) | (intro hse; simp only [hse, hs0, Bool.true_and, Bool.and_true, Bool.not_false, Bool.not_true, Bool.and_self]; done))))))
      refine use1 (squeezed_ok (txF l k) (by omega)) rfl (.inl rfl) ?_
      simp only [ZZ, YY, Zd, ite_true, ite_false, forall_const, reduceCtorEq, Nat.reduceAdd, Nat.reduceMul, Nat.reduceLeDiff, Nat.reduceLT, Nat.reduceEqDiff]
      refine use1 (lowerR_ok (sqF (txF l k)) (by omega)) rfl (.inl rfl) ?_
      generalize hlow : lowF (sqF (txF l k)) = t at *
      simp only [ZZ, YY, Zd, ite_true, ite_false, forall_const, reduceCtorEq, Nat.reduceAdd, Nat.reduceMul, Nat.reduceLeDiff, Nat.reduceLT, Nat.reduceEqDiff, rowM_get hlt, rowM_len]
      ((repeat' (with_reducible apply And.intro)) <;> try ((first | first | assumption | trivial | exact (fun hq => by rw [hq]; rfl) | exact i64_of (by omega) (by omega) | omega | (simp; done) | (simp; omega) | (intro hsc; have hs0 := hsc; (try have hsd := of_decide_eq_true hsc); (try simp only [Bool.not_eq_true', Bool.or_eq_false_iff, Bool.and_eq_true, Bool.or_eq_true, decide_eq_true_eq, decide_eq_false_iff_not] at hsc); (repeat' (with_reducible apply And.intro)) <;> (first | assumption | trivial | exact (fun hq => by rw [hq]; rfl) | exact i64_of (by omega) (by omega) | omega | (simp; done) | (simp; omega) | (intro hse; simp [hse, hs0]; done) | (intro hse; simp only [hse, hs0, Bool.true_and, Bool.and_true, Bool.not_false, Bool.not_true, Bool.and_self]; done))))))
      generalize he : ((qF l k).2 || decide (t = []) || !decide (((qF l k).1 : Int) = d)) = e at *
      refine br_join (fun fr L => fr = [.any, .any, .any, .adr (.l 3) 0, .adr (.l 4) 0, .any, .fn fPE [.l 4, .l 3], .p (.sl 1 (rowM l l.length)), .p (int (k : Nat)), .adr (.l 9) 0, .p (.str t), .any, .any, .any, .any, .p (.sl 2 (quF l)), .p (int (l.length : Nat)), .p (int (k : Nat)), .any, .any, .any, .any, .any, .any, .any, .any, .any, .any, .any, .any, .any, .any, .any, .any, .any, .any, .any, .any, .any, .any, .any, .any, .any, .any, .any, .any, .any, .any, .any, .any, .any, .any, .any, .any, .any, .any, .any, .any, .any, .any, .any, .any] ∧ L = (.l 9, .box [.p (int ((qF l k).1 : Nat)), .p (.str (txF l k))] tQ2) :: outL (if e = true then endR [] now else []) (if e = true then [] else now)) ?_ ?_ ?_
      · intro he
        subst he
        simp only [ZZ, YY, Zd, ite_true, ite_false, forall_const, reduceCtorEq, Nat.reduceAdd, Nat.reduceMul, Nat.reduceLeDiff, Nat.reduceLT, Nat.reduceEqDiff]
        refine ⟨by kernel_rfl, ?_⟩
        refine useI mixed 100 Tryz.func112 ck_chaseref1_ParagraphsOf_1 ?_
        simp only [List.map_cons, List.map_nil, List.length_cons, List.length_nil, List.cons_append, List.nil_append, Nat.reduceSub, Nat.reduceAdd, List.replicate_succ, List.replicate_zero, ir_chaseref1_ParagraphsOf_1, rs_chaseref1_ParagraphsOf_1, fwdI, renI, backL, renL, mapO, bwd, fwd, rk, uk, AV.ren, AO.ren, renKs, renCs, Option.isSome_some, Option.isSome_none, Option.some.injEq, not_true, not_false, false_and, and_false, true_and, and_true, Nat.reduceMod, Nat.reduceDiv, Nat.reduceBEq, Option.map_some, Zbd, Bool.false_eq_true, ZZ, YY, Zd, ite_true, ite_false, forall_const, reduceCtorEq, Nat.reduceAdd, Nat.reduceMul, Nat.reduceLeDiff, Nat.reduceLT, Nat.reduceEqDiff]
        refine useG (fun _ => ContainsN_ok now) rfl (.inl rfl) ?_
        simp only [ZZ, YY, Zd, ite_true, ite_false, forall_const, reduceCtorEq, Nat.reduceAdd, Nat.reduceMul, Nat.reduceLeDiff, Nat.reduceLT, Nat.reduceEqDiff]
        refine br ?_ ?_
        · intro h1
          have h1 : now ≠ [] := by simpa using h1
          have hE : endR [] now = [now] := by simp [endR, h1]
          simp only [ZZ, YY, Zd, ite_true, ite_false, forall_const, reduceCtorEq, Nat.reduceAdd, Nat.reduceMul, Nat.reduceLeDiff, Nat.reduceLT, Nat.reduceEqDiff]
          ((repeat' (with_reducible apply And.intro)) <;> try ((first | first | assumption | trivial | exact (fun hq => by rw [hq]; rfl) | exact i64_of (by omega) (by omega) | omega | (simp; done) | (simp; omega) | (intro hsc; have hs0 := hsc; (try have hsd := of_decide_eq_true hsc); (try simp only [Bool.not_eq_true', Bool.or_eq_false_iff, Bool.and_eq_true, Bool.or_eq_true, decide_eq_true_eq, decide_eq_false_iff_not] at hsc); (repeat' (with_reducible apply And.intro)) <;> (first | assumption | trivial | exact (fun hq => by rw [hq]; rfl) | exact i64_of (by omega) (by omega) | omega | (simp; done) | (simp; omega) | (intro hse; simp [hse, hs0]; done) | (intro hse; simp only [hse, hs0, Bool.true_and, Bool.and_true, Bool.not_false, Bool.not_true, Bool.and_self]; done))))))
          refine cut_same (by simp only [ZZ, YY, Zd, ite_true, ite_false, forall_const, reduceCtorEq, Nat.reduceAdd, Nat.reduceMul, Nat.reduceLeDiff, Nat.reduceLT, Nat.reduceEqDiff]) ?_
          simp only [ZZ, YY, Zd, ite_true, ite_false, forall_const, reduceCtorEq, Nat.reduceAdd, Nat.reduceMul, Nat.reduceLeDiff, Nat.reduceLT, Nat.reduceEqDiff]
          ((repeat' (with_reducible apply And.intro)) <;> try ((first | first | assumption | trivial | exact (fun hq => by rw [hq]; rfl) | exact i64_of (by omega) (by omega) | omega | (simp; done) | (simp; omega) | (intro hsc; have hs0 := hsc; (try have hsd := of_decide_eq_true hsc); (try simp only [Bool.not_eq_true', Bool.or_eq_false_iff, Bool.and_eq_true, Bool.or_eq_true, decide_eq_true_eq, decide_eq_false_iff_not] at hsc); (repeat' (with_reducible apply And.intro)) <;> (first | assumption | trivial | exact (fun hq => by rw [hq]; rfl) | exact i64_of (by omega) (by omega) | omega | (simp; done) | (simp; omega) | (intro hse; simp [hse, hs0]; done) | (intro hse; simp only [hse, hs0, Bool.true_and, Bool.and_true, Bool.not_false, Bool.not_true, Bool.and_self]; done))))))
          refine ⟨some 13, ?_⟩
          simp only [fwdI, renI, backL, renL, mapO, bwd, fwd, rk, uk, AV.ren, AO.ren, renKs, renCs, Option.isSome_some, Option.isSome_none, Option.some.injEq, not_true, not_false, false_and, and_false, true_and, and_true, Nat.reduceMod, Nat.reduceDiv, Nat.reduceBEq, Option.map_some, Zbd, Bool.false_eq_true, ZZ, YY, Zd, ite_true, ite_false, forall_const, reduceCtorEq, Nat.reduceAdd, Nat.reduceMul, Nat.reduceLeDiff, Nat.reduceLT, Nat.reduceEqDiff]
          rw [hE]
          simp only [ZZ, YY, Zd, ite_true, ite_false, forall_const, reduceCtorEq, Nat.reduceAdd, Nat.reduceMul, Nat.reduceLeDiff, Nat.reduceLT, Nat.reduceEqDiff, List.mem_cons, List.not_mem_nil, or_self]
          refine to_mid _ _ ?_ ?_ ⟨rfl, rfl⟩
          · (simp only [ZZ, YY, Zd, ite_true, ite_false, forall_const, reduceCtorEq, Nat.reduceAdd, Nat.reduceMul, Nat.reduceLeDiff, Nat.reduceLT, Nat.reduceEqDiff]; try trivial)
          · simp only [ZZ, YY, Zd, ite_true, ite_false, forall_const, reduceCtorEq, Nat.reduceAdd, Nat.reduceMul, Nat.reduceLeDiff, Nat.reduceLT, Nat.reduceEqDiff, outL_cons, strE_one, strE_app', strE_app2]
        · intro h1
          have h1 : now = [] := by simpa using h1
          have hE : endR [] now = [] := by simp [endR, h1]
          simp only [ZZ, YY, Zd, ite_true, ite_false, forall_const, reduceCtorEq, Nat.reduceAdd, Nat.reduceMul, Nat.reduceLeDiff, Nat.reduceLT, Nat.reduceEqDiff]
          refine cut_same (by simp only [ZZ, YY, Zd, ite_true, ite_false, forall_const, reduceCtorEq, Nat.reduceAdd, Nat.reduceMul, Nat.reduceLeDiff, Nat.reduceLT, Nat.reduceEqDiff]) ?_
          simp only [ZZ, YY, Zd, ite_true, ite_false, forall_const, reduceCtorEq, Nat.reduceAdd, Nat.reduceMul, Nat.reduceLeDiff, Nat.reduceLT, Nat.reduceEqDiff]
          ((repeat' (with_reducible apply And.intro)) <;> try ((first | first | assumption | trivial | exact (fun hq => by rw [hq]; rfl) | exact i64_of (by omega) (by omega) | omega | (simp; done) | (simp; omega) | (intro hsc; have hs0 := hsc; (try have hsd := of_decide_eq_true hsc); (try simp only [Bool.not_eq_true', Bool.or_eq_false_iff, Bool.and_eq_true, Bool.or_eq_true, decide_eq_true_eq, decide_eq_false_iff_not] at hsc); (repeat' (with_reducible apply And.intro)) <;> (first | assumption | trivial | exact (fun hq => by rw [hq]; rfl) | exact i64_of (by omega) (by omega) | omega | (simp; done) | (simp; omega) | (intro hse; simp [hse, hs0]; done) | (intro hse; simp only [hse, hs0, Bool.true_and, Bool.and_true, Bool.not_false, Bool.not_true, Bool.and_self]; done))))))
          refine ⟨none, ?_⟩
          simp only [fwdI, renI, backL, renL, mapO, bwd, fwd, rk, uk, AV.ren, AO.ren, renKs, renCs, Option.isSome_some, Option.isSome_none, Option.some.injEq, not_true, not_false, false_and, and_false, true_and, and_true, Nat.reduceMod, Nat.reduceDiv, Nat.reduceBEq, Option.map_some, Zbd, Bool.false_eq_true, ZZ, YY, Zd, ite_true, ite_false, forall_const, reduceCtorEq, Nat.reduceAdd, Nat.reduceMul, Nat.reduceLeDiff, Nat.reduceLT, Nat.reduceEqDiff]
          rw [hE]
          simp only [ZZ, YY, Zd, ite_true, ite_false, forall_const, reduceCtorEq, Nat.reduceAdd, Nat.reduceMul, Nat.reduceLeDiff, Nat.reduceLT, Nat.reduceEqDiff, List.mem_cons, List.not_mem_nil, or_self]
          refine to_mid _ _ ?_ ?_ ⟨rfl, rfl⟩
          · (simp only [ZZ, YY, Zd, ite_true, ite_false, forall_const, reduceCtorEq, Nat.reduceAdd, Nat.reduceMul, Nat.reduceLeDiff, Nat.reduceLT, Nat.reduceEqDiff]; try trivial)
          · simp only [ZZ, YY, Zd, ite_true, ite_false, forall_const, reduceCtorEq, Nat.reduceAdd, Nat.reduceMul, Nat.reduceLeDiff, Nat.reduceLT, Nat.reduceEqDiff, outL_nil, strE_one, strE_app', strE_app2]
      · intro he
        subst he
        simp only [Bool.false_eq_true, if_false]
        rw [outL_nil]
        simp only [ZZ, YY, Zd, ite_true, ite_false, forall_const, reduceCtorEq, Nat.reduceAdd, Nat.reduceMul, Nat.reduceLeDiff, Nat.reduceLT, Nat.reduceEqDiff]
        refine to_mid _ _ ?_ ?_ ⟨rfl, rfl⟩
        · (simp only [ZZ, YY, Zd, ite_true, ite_false, forall_const, reduceCtorEq, Nat.reduceAdd, Nat.reduceMul, Nat.reduceLeDiff, Nat.reduceLT, Nat.reduceEqDiff]; try trivial)
        · simp only [ZZ, YY, Zd, ite_true, ite_false, forall_const, reduceCtorEq, Nat.reduceAdd, Nat.reduceMul, Nat.reduceLeDiff, Nat.reduceLT, Nat.reduceEqDiff]
      · rintro fr L ⟨rfl, rfl⟩
        generalize (if e = true then endR [] now else []) = o' at *
        generalize hnn : (if e = true then [] else now) = n' at *
        have hnl2 : n'.length ≤ now.length := by rw [← hnn]; split <;> simp
        rcases o' with _ | ⟨y', r'⟩
        · skip
          simp only [ZZ, YY, Zd, ite_true, ite_false, forall_const, reduceCtorEq, Nat.reduceAdd, Nat.reduceMul, Nat.reduceLeDiff, Nat.reduceLT, Nat.reduceEqDiff, outL_nil, rowM_get hlt, rowM_len, List.mem_cons, List.not_mem_nil, or_self]
          ((repeat' (with_reducible apply And.intro)) <;> try ((first | first | assumption | trivial | exact (fun hq => by rw [hq]; rfl) | exact i64_of (by omega) (by omega) | omega | (simp; done) | (simp; omega) | (intro hsc; have hs0 := hsc; (try have hsd := of_decide_eq_true hsc); (try simp only [Bool.not_eq_true', Bool.or_eq_false_iff, Bool.and_eq_true, Bool.or_eq_true, decide_eq_true_eq, decide_eq_false_iff_not] at hsc); (repeat' (with_reducible apply And.intro)) <;> (first | assumption | trivial | exact (fun hq => by rw [hq]; rfl) | exact i64_of (by omega) (by omega) | omega | (simp; done) | (simp; omega) | (intro hse; simp [hse, hs0]; done) | (intro hse; simp only [hse, hs0, Bool.true_and, Bool.and_true, Bool.not_false, Bool.not_true, Bool.and_self]; done))))))
          refine br ?_ ?_
          · intro hc
            rw [if_pos hc] at hs2
            simp only [ZZ, YY, Zd, ite_true, ite_false, forall_const, reduceCtorEq, Nat.reduceAdd, Nat.reduceMul, Nat.reduceLeDiff, Nat.reduceLT, Nat.reduceEqDiff]
            ((repeat' (with_reducible apply And.intro)) <;> try ((first | first | assumption | trivial | exact (fun hq => by rw [hq]; rfl) | exact i64_of (by omega) (by omega) | omega | (simp; done) | (simp; omega) | (intro hsc; have hs0 := hsc; (try have hsd := of_decide_eq_true hsc); (try simp only [Bool.not_eq_true', Bool.or_eq_false_iff, Bool.and_eq_true, Bool.or_eq_true, decide_eq_true_eq, decide_eq_false_iff_not] at hsc); (repeat' (with_reducible apply And.intro)) <;> (first | assumption | trivial | exact (fun hq => by rw [hq]; rfl) | exact i64_of (by omega) (by omega) | omega | (simp; done) | (simp; omega) | (intro hse; simp [hse, hs0]; done) | (intro hse; simp only [hse, hs0, Bool.true_and, Bool.and_true, Bool.not_false, Bool.not_true, Bool.and_self]; done))))))
            rw [show n' ++ [32] ++ t = n' ++ 32 :: t from by simp]
            refine use1 (squeezed_ok (n' ++ 32 :: t) (by simp only [List.length_append, List.length_cons]; omega)) rfl (.inl rfl) ?_
            simp only [ZZ, YY, Zd, ite_true, ite_false, forall_const, reduceCtorEq, Nat.reduceAdd, Nat.reduceMul, Nat.reduceLeDiff, Nat.reduceLT, Nat.reduceEqDiff]
            refine cut_same (by simp only [ZZ, YY, Zd, ite_true, ite_false, forall_const, reduceCtorEq, Nat.reduceAdd, Nat.reduceMul, Nat.reduceLeDiff, Nat.reduceLT, Nat.reduceEqDiff]) ?_
            simp only [ZZ, YY, Zd, ite_true, ite_false, forall_const, reduceCtorEq, Nat.reduceAdd, Nat.reduceMul, Nat.reduceLeDiff, Nat.reduceLT, Nat.reduceEqDiff]
            ((repeat' (with_reducible apply And.intro)) <;> try ((first | first | assumption | trivial | exact (fun hq => by rw [hq]; rfl) | exact i64_of (by omega) (by omega) | omega | (simp; done) | (simp; omega) | (intro hsc; have hs0 := hsc; (try have hsd := of_decide_eq_true hsc); (try simp only [Bool.not_eq_true', Bool.or_eq_false_iff, Bool.and_eq_true, Bool.or_eq_true, decide_eq_true_eq, decide_eq_false_iff_not] at hsc); (repeat' (with_reducible apply And.intro)) <;> (first | assumption | trivial | exact (fun hq => by rw [hq]; rfl) | exact i64_of (by omega) (by omega) | omega | (simp; done) | (simp; omega) | (intro hse; simp [hse, hs0]; done) | (intro hse; simp only [hse, hs0, Bool.true_and, Bool.and_true, Bool.not_false, Bool.not_true, Bool.and_self]; done))))))
            refine end_round (l.length - (k + 1)) [.any, .any, .any, .adr (.l 3) 0, .adr (.l 4) 0, .p (int (stR l (k + 1)).2.2), .fn fPE [.l 4, .l 3], .p (.sl 1 (rowM l l.length)), .any, .any, .any, .any, .any, .any, .any, .p (.sl 2 (quF l)), .p (int (l.length : Nat)), .p (int (k + 1 : Nat)), .any, .any, .any, .any, .any, .any, .any, .any, .any, .any, .any, .any, .any, .any, .any, .any, .any, .any, .any, .any, .any, .any, .any, .any, .any, .any, .any, .any, .any, .any, .any, .any, .any, .any, .any, .any, .any, .any, .any, .any, .any, .any, .any, .any] (outL (stR l (k + 1)).1 (stR l (k + 1)).2.1) (by omega) ?_ ?_ ⟨k + 1, by omega, rfl, rfl, rfl⟩
            · rw [hs3]
              (simp only [ZZ, YY, Zd, ite_true, ite_false, forall_const, reduceCtorEq, Nat.reduceAdd, Nat.reduceMul, Nat.reduceLeDiff, Nat.reduceLT, Nat.reduceEqDiff]; try trivial)
            · rw [hs1, hs2]
              simp only [ZZ, YY, Zd, ite_true, ite_false, forall_const, reduceCtorEq, Nat.reduceAdd, Nat.reduceMul, Nat.reduceLeDiff, Nat.reduceLT, Nat.reduceEqDiff, outL_nil]
          · intro hc
            rw [if_neg (by rw [hc]; simp)] at hs2
            simp only [ZZ, YY, Zd, ite_true, ite_false, forall_const, reduceCtorEq, Nat.reduceAdd, Nat.reduceMul, Nat.reduceLeDiff, Nat.reduceLT, Nat.reduceEqDiff]
            refine cut_same (by simp only [ZZ, YY, Zd, ite_true, ite_false, forall_const, reduceCtorEq, Nat.reduceAdd, Nat.reduceMul, Nat.reduceLeDiff, Nat.reduceLT, Nat.reduceEqDiff]) ?_
            simp only [ZZ, YY, Zd, ite_true, ite_false, forall_const, reduceCtorEq, Nat.reduceAdd, Nat.reduceMul, Nat.reduceLeDiff, Nat.reduceLT, Nat.reduceEqDiff]
            ((repeat' (with_reducible apply And.intro)) <;> try ((first | first | assumption | trivial | exact (fun hq => by rw [hq]; rfl) | exact i64_of (by omega) (by omega) | omega | (simp; done) | (simp; omega) | (intro hsc; have hs0 := hsc; (try have hsd := of_decide_eq_true hsc); (try simp only [Bool.not_eq_true', Bool.or_eq_false_iff, Bool.and_eq_true, Bool.or_eq_true, decide_eq_true_eq, decide_eq_false_iff_not] at hsc); (repeat' (with_reducible apply And.intro)) <;> (first | assumption | trivial | exact (fun hq => by rw [hq]; rfl) | exact i64_of (by omega) (by omega) | omega | (simp; done) | (simp; omega) | (intro hse; simp [hse, hs0]; done) | (intro hse; simp only [hse, hs0, Bool.true_and, Bool.and_true, Bool.not_false, Bool.not_true, Bool.and_self]; done))))))
            refine end_round (l.length - (k + 1)) [.any, .any, .any, .adr (.l 3) 0, .adr (.l 4) 0, .p (int (stR l (k + 1)).2.2), .fn fPE [.l 4, .l 3], .p (.sl 1 (rowM l l.length)), .any, .any, .any, .any, .any, .any, .any, .p (.sl 2 (quF l)), .p (int (l.length : Nat)), .p (int (k + 1 : Nat)), .any, .any, .any, .any, .any, .any, .any, .any, .any, .any, .any, .any, .any, .any, .any, .any, .any, .any, .any, .any, .any, .any, .any, .any, .any, .any, .any, .any, .any, .any, .any, .any, .any, .any, .any, .any, .any, .any, .any, .any, .any, .any, .any, .any] (outL (stR l (k + 1)).1 (stR l (k + 1)).2.1) (by omega) ?_ ?_ ⟨k + 1, by omega, rfl, rfl, rfl⟩
            · rw [hs3]
              (simp only [ZZ, YY, Zd, ite_true, ite_false, forall_const, reduceCtorEq, Nat.reduceAdd, Nat.reduceMul, Nat.reduceLeDiff, Nat.reduceLT, Nat.reduceEqDiff]; try trivial)
            · rw [hs1, hs2]
              simp only [ZZ, YY, Zd, ite_true, ite_false, forall_const, reduceCtorEq, Nat.reduceAdd, Nat.reduceMul, Nat.reduceLeDiff, Nat.reduceLT, Nat.reduceEqDiff, outL_nil]
        · skip
          simp only [ZZ, YY, Zd, ite_true, ite_false, forall_const, reduceCtorEq, Nat.reduceAdd, Nat.reduceMul, Nat.reduceLeDiff, Nat.reduceLT, Nat.reduceEqDiff, outL_cons, rowM_get hlt, rowM_len, List.mem_cons, List.not_mem_nil, or_self]
          ((repeat' (with_reducible apply And.intro)) <;> try ((first | first | assumption | trivial | exact (fun hq => by rw [hq]; rfl) | exact i64_of (by omega) (by omega) | omega | (simp; done) | (simp; omega) | (intro hsc; have hs0 := hsc; (try have hsd := of_decide_eq_true hsc); (try simp only [Bool.not_eq_true', Bool.or_eq_false_iff, Bool.and_eq_true, Bool.or_eq_true, decide_eq_true_eq, decide_eq_false_iff_not] at hsc); (repeat' (with_reducible apply And.intro)) <;> (first | assumption | trivial | exact (fun hq => by rw [hq]; rfl) | exact i64_of (by omega) (by omega) | omega | (simp; done) | (simp; omega) | (intro hse; simp [hse, hs0]; done) | (intro hse; simp only [hse, hs0, Bool.true_and, Bool.and_true, Bool.not_false, Bool.not_true, Bool.and_self]; done))))))
          refine br ?_ ?_
          · intro hc
            rw [if_pos hc] at hs2
            simp only [ZZ, YY, Zd, ite_true, ite_false, forall_const, reduceCtorEq, Nat.reduceAdd, Nat.reduceMul, Nat.reduceLeDiff, Nat.reduceLT, Nat.reduceEqDiff]
            ((repeat' (with_reducible apply And.intro)) <;> try ((first | first | assumption | trivial | exact (fun hq => by rw [hq]; rfl) | exact i64_of (by omega) (by omega) | omega | (simp; done) | (simp; omega) | (intro hsc; have hs0 := hsc; (try have hsd := of_decide_eq_true hsc); (try simp only [Bool.not_eq_true', Bool.or_eq_false_iff, Bool.and_eq_true, Bool.or_eq_true, decide_eq_true_eq, decide_eq_false_iff_not] at hsc); (repeat' (with_reducible apply And.intro)) <;> (first | assumption | trivial | exact (fun hq => by rw [hq]; rfl) | exact i64_of (by omega) (by omega) | omega | (simp; done) | (simp; omega) | (intro hse; simp [hse, hs0]; done) | (intro hse; simp only [hse, hs0, Bool.true_and, Bool.and_true, Bool.not_false, Bool.not_true, Bool.and_self]; done))))))
            rw [show n' ++ [32] ++ t = n' ++ 32 :: t from by simp]
            refine use1 (squeezed_ok (n' ++ 32 :: t) (by simp only [List.length_append, List.length_cons]; omega)) rfl (.inl rfl) ?_
            simp only [ZZ, YY, Zd, ite_true, ite_false, forall_const, reduceCtorEq, Nat.reduceAdd, Nat.reduceMul, Nat.reduceLeDiff, Nat.reduceLT, Nat.reduceEqDiff]
            refine cut_same (by simp only [ZZ, YY, Zd, ite_true, ite_false, forall_const, reduceCtorEq, Nat.reduceAdd, Nat.reduceMul, Nat.reduceLeDiff, Nat.reduceLT, Nat.reduceEqDiff]) ?_
            simp only [ZZ, YY, Zd, ite_true, ite_false, forall_const, reduceCtorEq, Nat.reduceAdd, Nat.reduceMul, Nat.reduceLeDiff, Nat.reduceLT, Nat.reduceEqDiff]
            ((repeat' (with_reducible apply And.intro)) <;> try ((first | first | assumption | trivial | exact (fun hq => by rw [hq]; rfl) | exact i64_of (by omega) (by omega) | omega | (simp; done) | (simp; omega) | (intro hsc; have hs0 := hsc; (try have hsd := of_decide_eq_true hsc); (try simp only [Bool.not_eq_true', Bool.or_eq_false_iff, Bool.and_eq_true, Bool.or_eq_true, decide_eq_true_eq, decide_eq_false_iff_not] at hsc); (repeat' (with_reducible apply And.intro)) <;> (first | assumption | trivial | exact (fun hq => by rw [hq]; rfl) | exact i64_of (by omega) (by omega) | omega | (simp; done) | (simp; omega) | (intro hse; simp [hse, hs0]; done) | (intro hse; simp only [hse, hs0, Bool.true_and, Bool.and_true, Bool.not_false, Bool.not_true, Bool.and_self]; done))))))
            refine end_round (l.length - (k + 1)) [.any, .any, .any, .adr (.l 3) 0, .adr (.l 4) 0, .p (int (stR l (k + 1)).2.2), .fn fPE [.l 4, .l 3], .p (.sl 1 (rowM l l.length)), .any, .any, .any, .any, .any, .any, .any, .p (.sl 2 (quF l)), .p (int (l.length : Nat)), .p (int (k + 1 : Nat)), .any, .any, .any, .any, .any, .any, .any, .any, .any, .any, .any, .any, .any, .any, .any, .any, .any, .any, .any, .any, .any, .any, .any, .any, .any, .any, .any, .any, .any, .any, .any, .any, .any, .any, .any, .any, .any, .any, .any, .any, .any, .any, .any, .any] (outL (stR l (k + 1)).1 (stR l (k + 1)).2.1) (by omega) ?_ ?_ ⟨k + 1, by omega, rfl, rfl, rfl⟩
            · rw [hs3]
              (simp only [ZZ, YY, Zd, ite_true, ite_false, forall_const, reduceCtorEq, Nat.reduceAdd, Nat.reduceMul, Nat.reduceLeDiff, Nat.reduceLT, Nat.reduceEqDiff]; try trivial)
            · rw [hs1, hs2]
              simp only [ZZ, YY, Zd, ite_true, ite_false, forall_const, reduceCtorEq, Nat.reduceAdd, Nat.reduceMul, Nat.reduceLeDiff, Nat.reduceLT, Nat.reduceEqDiff, outL_cons]
          · intro hc
            rw [if_neg (by rw [hc]; simp)] at hs2
            simp only [ZZ, YY, Zd, ite_true, ite_false, forall_const, reduceCtorEq, Nat.reduceAdd, Nat.reduceMul, Nat.reduceLeDiff, Nat.reduceLT, Nat.reduceEqDiff]
            refine cut_same (by simp only [ZZ, YY, Zd, ite_true, ite_false, forall_const, reduceCtorEq, Nat.reduceAdd, Nat.reduceMul, Nat.reduceLeDiff, Nat.reduceLT, Nat.reduceEqDiff]) ?_
            simp only [ZZ, YY, Zd, ite_true, ite_false, forall_const, reduceCtorEq, Nat.reduceAdd, Nat.reduceMul, Nat.reduceLeDiff, Nat.reduceLT, Nat.reduceEqDiff]
            ((repeat' (with_reducible apply And.intro)) <;> try ((first | first | assumption | trivial | exact (fun hq => by rw [hq]; rfl) | exact i64_of (by omega) (by omega) | omega | (simp; done) | (simp; omega) | (intro hsc; have hs0 := hsc; (try have hsd := of_decide_eq_true hsc); (try simp only [Bool.not_eq_true', Bool.or_eq_false_iff, Bool.and_eq_true, Bool.or_eq_true, decide_eq_true_eq, decide_eq_false_iff_not] at hsc); (repeat' (with_reducible apply And.intro)) <;> (first | assumption | trivial | exact (fun hq => by rw [hq]; rfl) | exact i64_of (by omega) (by omega) | omega | (simp; done) | (simp; omega) | (intro hse; simp [hse, hs0]; done) | (intro hse; simp only [hse, hs0, Bool.true_and, Bool.and_true, Bool.not_false, Bool.not_true, Bool.and_self]; done))))))
            refine end_round (l.length - (k + 1)) [.any, .any, .any, .adr (.l 3) 0, .adr (.l 4) 0, .p (int (stR l (k + 1)).2.2), .fn fPE [.l 4, .l 3], .p (.sl 1 (rowM l l.length)), .any, .any, .any, .any, .any, .any, .any, .p (.sl 2 (quF l)), .p (int (l.length : Nat)), .p (int (k + 1 : Nat)), .any, .any, .any, .any, .any, .any, .any, .any, .any, .any, .any, .any, .any, .any, .any, .any, .any, .any, .any, .any, .any, .any, .any, .any, .any, .any, .any, .any, .any, .any, .any, .any, .any, .any, .any, .any, .any, .any, .any, .any, .any, .any, .any, .any] (outL (stR l (k + 1)).1 (stR l (k + 1)).2.1) (by omega) ?_ ?_ ⟨k + 1, by omega, rfl, rfl, rfl⟩
            · rw [hs3]
              (simp only [ZZ, YY, Zd, ite_true, ite_false, forall_const, reduceCtorEq, Nat.reduceAdd, Nat.reduceMul, Nat.reduceLeDiff, Nat.reduceLT, Nat.reduceEqDiff]; try trivial)
            · rw [hs1, hs2]
              simp only [ZZ, YY, Zd, ite_true, ite_false, forall_const, reduceCtorEq, Nat.reduceAdd, Nat.reduceMul, Nat.reduceLeDiff, Nat.reduceLT, Nat.reduceEqDiff, outL_cons]
    · intro h
      have hge : k = l.length := by have := of_decide_eq_false h; omega
      subst hge
      simp only [ZZ, YY, Zd, ite_true, ite_false, forall_const, reduceCtorEq, Nat.reduceAdd, Nat.reduceMul, Nat.reduceLeDiff, Nat.reduceLT, Nat.reduceEqDiff]
      refine ⟨by kernel_rfl, ?_⟩
      refine useI mixed 100 Tryz.func112 ck_chaseref1_ParagraphsOf_1 ?_
      simp only [List.map_cons, List.map_nil, List.length_cons, List.length_nil, List.cons_append, List.nil_append, Nat.reduceSub, Nat.reduceAdd, List.replicate_succ, List.replicate_zero, ir_chaseref1_ParagraphsOf_1, rs_chaseref1_ParagraphsOf_1, fwdI, renI, backL, renL, mapO, bwd, fwd, rk, uk, AV.ren, AO.ren, renKs, renCs, Option.isSome_some, Option.isSome_none, Option.some.injEq, not_true, not_false, false_and, and_false, true_and, and_true, Nat.reduceMod, Nat.reduceDiv, Nat.reduceBEq, Option.map_some, Zbd, Bool.false_eq_true, ZZ, YY, Zd, ite_true, ite_false, forall_const, reduceCtorEq, Nat.reduceAdd, Nat.reduceMul, Nat.reduceLeDiff, Nat.reduceLT, Nat.reduceEqDiff]
      refine useG (fun _ => ContainsN_ok now) rfl (.inl rfl) ?_
      simp only [ZZ, YY, Zd, ite_true, ite_false, forall_const, reduceCtorEq, Nat.reduceAdd, Nat.reduceMul, Nat.reduceLeDiff, Nat.reduceLT, Nat.reduceEqDiff]
      refine br ?_ ?_
      · intro h1
        have h1 : now ≠ [] := by simpa using h1
        have hE : endR [] now = [now] := by simp [endR, h1]
        simp only [ZZ, YY, Zd, ite_true, ite_false, forall_const, reduceCtorEq, Nat.reduceAdd, Nat.reduceMul, Nat.reduceLeDiff, Nat.reduceLT, Nat.reduceEqDiff]
        ((repeat' (with_reducible apply And.intro)) <;> try ((first | first | assumption | trivial | exact (fun hq => by rw [hq]; rfl) | exact i64_of (by omega) (by omega) | omega | (simp; done) | (simp; omega) | (intro hsc; have hs0 := hsc; (try have hsd := of_decide_eq_true hsc); (try simp only [Bool.not_eq_true', Bool.or_eq_false_iff, Bool.and_eq_true, Bool.or_eq_true, decide_eq_true_eq, decide_eq_false_iff_not] at hsc); (repeat' (with_reducible apply And.intro)) <;> (first | assumption | trivial | exact (fun hq => by rw [hq]; rfl) | exact i64_of (by omega) (by omega) | omega | (simp; done) | (simp; omega) | (intro hse; simp [hse, hs0]; done) | (intro hse; simp only [hse, hs0, Bool.true_and, Bool.and_true, Bool.not_false, Bool.not_true, Bool.and_self]; done))))))
        refine cut_same (by simp only [ZZ, YY, Zd, ite_true, ite_false, forall_const, reduceCtorEq, Nat.reduceAdd, Nat.reduceMul, Nat.reduceLeDiff, Nat.reduceLT, Nat.reduceEqDiff]) ?_
        simp only [ZZ, YY, Zd, ite_true, ite_false, forall_const, reduceCtorEq, Nat.reduceAdd, Nat.reduceMul, Nat.reduceLeDiff, Nat.reduceLT, Nat.reduceEqDiff]
        ((repeat' (with_reducible apply And.intro)) <;> try ((first | first | assumption | trivial | exact (fun hq => by rw [hq]; rfl) | exact i64_of (by omega) (by omega) | omega | (simp; done) | (simp; omega) | (intro hsc; have hs0 := hsc; (try have hsd := of_decide_eq_true hsc); (try simp only [Bool.not_eq_true', Bool.or_eq_false_iff, Bool.and_eq_true, Bool.or_eq_true, decide_eq_true_eq, decide_eq_false_iff_not] at hsc); (repeat' (with_reducible apply And.intro)) <;> (first | assumption | trivial | exact (fun hq => by rw [hq]; rfl) | exact i64_of (by omega) (by omega) | omega | (simp; done) | (simp; omega) | (intro hse; simp [hse, hs0]; done) | (intro hse; simp only [hse, hs0, Bool.true_and, Bool.and_true, Bool.not_false, Bool.not_true, Bool.and_self]; done))))))
        refine ⟨some 13, ?_⟩
        simp only [fwdI, renI, backL, renL, mapO, bwd, fwd, rk, uk, AV.ren, AO.ren, renKs, renCs, Option.isSome_some, Option.isSome_none, Option.some.injEq, not_true, not_false, false_and, and_false, true_and, and_true, Nat.reduceMod, Nat.reduceDiv, Nat.reduceBEq, Option.map_some, Zbd, Bool.false_eq_true, ZZ, YY, Zd, ite_true, ite_false, forall_const, reduceCtorEq, Nat.reduceAdd, Nat.reduceMul, Nat.reduceLeDiff, Nat.reduceLT, Nat.reduceEqDiff]
        rw [ho, hn, hE]
        try rw [strE_app']
        try rfl
      · intro h1
        have h1 : now = [] := by simpa using h1
        have hE : endR [] now = [] := by simp [endR, h1]
        simp only [ZZ, YY, Zd, ite_true, ite_false, forall_const, reduceCtorEq, Nat.reduceAdd, Nat.reduceMul, Nat.reduceLeDiff, Nat.reduceLT, Nat.reduceEqDiff]
        refine cut_same (by simp only [ZZ, YY, Zd, ite_true, ite_false, forall_const, reduceCtorEq, Nat.reduceAdd, Nat.reduceMul, Nat.reduceLeDiff, Nat.reduceLT, Nat.reduceEqDiff]) ?_
        simp only [ZZ, YY, Zd, ite_true, ite_false, forall_const, reduceCtorEq, Nat.reduceAdd, Nat.reduceMul, Nat.reduceLeDiff, Nat.reduceLT, Nat.reduceEqDiff]
        ((repeat' (with_reducible apply And.intro)) <;> try ((first | first | assumption | trivial | exact (fun hq => by rw [hq]; rfl) | exact i64_of (by omega) (by omega) | omega | (simp; done) | (simp; omega) | (intro hsc; have hs0 := hsc; (try have hsd := of_decide_eq_true hsc); (try simp only [Bool.not_eq_true', Bool.or_eq_false_iff, Bool.and_eq_true, Bool.or_eq_true, decide_eq_true_eq, decide_eq_false_iff_not] at hsc); (repeat' (with_reducible apply And.intro)) <;> (first | assumption | trivial | exact (fun hq => by rw [hq]; rfl) | exact i64_of (by omega) (by omega) | omega | (simp; done) | (simp; omega) | (intro hse; simp [hse, hs0]; done) | (intro hse; simp only [hse, hs0, Bool.true_and, Bool.and_true, Bool.not_false, Bool.not_true, Bool.and_self]; done))))))
        refine ⟨none, ?_⟩
        simp only [fwdI, renI, backL, renL, mapO, bwd, fwd, rk, uk, AV.ren, AO.ren, renKs, renCs, Option.isSome_some, Option.isSome_none, Option.some.injEq, not_true, not_false, false_and, and_false, true_and, and_true, Nat.reduceMod, Nat.reduceDiv, Nat.reduceBEq, Option.map_some, Zbd, Bool.false_eq_true, ZZ, YY, Zd, ite_true, ite_false, forall_const, reduceCtorEq, Nat.reduceAdd, Nat.reduceMul, Nat.reduceLeDiff, Nat.reduceLT, Nat.reduceEqDiff]
        rw [ho, hn, hE]
        try rw [strE_app']
        try rfl
  · have hol2 : r.length + 1 ≤ k := hol
    simp only [outL_cons, List.mem_cons, List.not_mem_nil, or_self, ir_chaseref1_ParagraphsOf_L0, ZZ, YY, Zd, ite_true, ite_false, forall_const, reduceCtorEq, Nat.reduceAdd, Nat.reduceMul, Nat.reduceLeDiff, Nat.reduceLT, Nat.reduceEqDiff]
    refine br ?_ ?_
    · intro h
      have hlt : k < l.length := by have := of_decide_eq_true h; omega
      obtain ⟨x, hx⟩ : ∃ x, l[k]? = some x := ⟨_, List.getElem?_eq_getElem hlt⟩
      have hxb := hlb x (List.mem_of_getElem? hx)
      have htl := txF_len hx
      have hsl := sqF_len (txF l k)
      have hll2 : (lowF (sqF (txF l k))).length = (sqF (txF l k)).length := by simp [lowF]
      have hws := wgt_step hx
      have hwk1 := wgt_take (k + 1) l
      simp only [ZZ, YY, Zd, ite_true, ite_false, forall_const, reduceCtorEq, Nat.reduceAdd, Nat.reduceMul, Nat.reduceLeDiff, Nat.reduceLT, Nat.reduceEqDiff, quF_get hlt, quF_len, List.mem_cons, List.not_mem_nil, or_self]
      ((repeat' (with_reducible apply And.intro)) <;> try ((first | first | assumption | trivial | exact (fun hq => by rw [hq]; rfl) | exact i64_of (by omega) (by omega) | omega | (simp; done) | (simp; omega) | (intro hsc; have hs0 := hsc; (try have hsd := of_decide_eq_true hsc); (try simp only [Bool.not_eq_true', Bool.or_eq_false_iff, Bool.and_eq_true, Bool.or_eq_true, decide_eq_true_eq, decide_eq_false_iff_not] at hsc); (repeat' (with_reducible apply And.intro)) <;> (first | assumption | trivial | exact (fun hq => by rw [hq]; rfl) | exact i64_of (by omega) (by omega) | omega | (simp; done) | (simp; omega) | (intro hse; simp [hse, hs0]; done) | (intro hse; simp only [hse, hs0, Bool.true_and, Bool.and_true, Bool.not_false, Bool.not_true, Bool.and_self]; done))))))
      refine use1 (squeezed_ok (txF l k) (by omega)) rfl (.inl rfl) ?_
      simp only [ZZ, YY, Zd, ite_true, ite_false, forall_const, reduceCtorEq, Nat.reduceAdd, Nat.reduceMul, Nat.reduceLeDiff, Nat.reduceLT, Nat.reduceEqDiff]
      refine use1 (lowerR_ok (sqF (txF l k)) (by omega)) rfl (.inl rfl) ?_
      generalize hlow : lowF (sqF (txF l k)) = t at *
      simp only [ZZ, YY, Zd, ite_true, ite_false, forall_const, reduceCtorEq, Nat.reduceAdd, Nat.reduceMul, Nat.reduceLeDiff, Nat.reduceLT, Nat.reduceEqDiff, rowM_get hlt, rowM_len]
      ((repeat' (with_reducible apply And.intro)) <;> try ((first | first | assumption | trivial | exact (fun hq => by rw [hq]; rfl) | exact i64_of (by omega) (by omega) | omega | (simp; done) | (simp; omega) | (intro hsc; have hs0 := hsc; (try have hsd := of_decide_eq_true hsc); (try simp only [Bool.not_eq_true', Bool.or_eq_false_iff, Bool.and_eq_true, Bool.or_eq_true, decide_eq_true_eq, decide_eq_false_iff_not] at hsc); (repeat' (with_reducible apply And.intro)) <;> (first | assumption | trivial | exact (fun hq => by rw [hq]; rfl) | exact i64_of (by omega) (by omega) | omega | (simp; done) | (simp; omega) | (intro hse; simp [hse, hs0]; done) | (intro hse; simp only [hse, hs0, Bool.true_and, Bool.and_true, Bool.not_false, Bool.not_true, Bool.and_self]; done))))))
      generalize he : ((qF l k).2 || decide (t = []) || !decide (((qF l k).1 : Int) = d)) = e at *
      refine br_join (fun fr L => fr = [.any, .any, .any, .adr (.l 3) 0, .adr (.l 4) 0, .any, .fn fPE [.l 4, .l 3], .p (.sl 1 (rowM l l.length)), .p (int (k : Nat)), .adr (.l 9) 0, .p (.str t), .any, .any, .any, .any, .p (.sl 2 (quF l)), .p (int (l.length : Nat)), .p (int (k : Nat)), .any, .any, .any, .any, .any, .any, .any, .any, .any, .any, .any, .any, .any, .any, .any, .any, .any, .any, .any, .any, .any, .any, .any, .any, .any, .any, .any, .any, .any, .any, .any, .any, .any, .any, .any, .any, .any, .any, .any, .any, .any, .any, .any, .any] ∧ L = (.l 9, .box [.p (int ((qF l k).1 : Nat)), .p (.str (txF l k))] tQ2) :: outL (if e = true then endR (y :: r) now else (y :: r)) (if e = true then [] else now)) ?_ ?_ ?_
      · intro he
        subst he
        simp only [ZZ, YY, Zd, ite_true, ite_false, forall_const, reduceCtorEq, Nat.reduceAdd, Nat.reduceMul, Nat.reduceLeDiff, Nat.reduceLT, Nat.reduceEqDiff]
        refine ⟨by kernel_rfl, ?_⟩
        refine useI mixed 100 Tryz.func112 ck_chaseref1_ParagraphsOf_1 ?_
        simp only [List.map_cons, List.map_nil, List.length_cons, List.length_nil, List.cons_append, List.nil_append, Nat.reduceSub, Nat.reduceAdd, List.replicate_succ, List.replicate_zero, ir_chaseref1_ParagraphsOf_1, rs_chaseref1_ParagraphsOf_1, fwdI, renI, backL, renL, mapO, bwd, fwd, rk, uk, AV.ren, AO.ren, renKs, renCs, Option.isSome_some, Option.isSome_none, Option.some.injEq, not_true, not_false, false_and, and_false, true_and, and_true, Nat.reduceMod, Nat.reduceDiv, Nat.reduceBEq, Option.map_some, Zbd, Bool.false_eq_true, ZZ, YY, Zd, ite_true, ite_false, forall_const, reduceCtorEq, Nat.reduceAdd, Nat.reduceMul, Nat.reduceLeDiff, Nat.reduceLT, Nat.reduceEqDiff]
        refine useG (fun _ => ContainsS_ok (y :: r) now (by omega)) rfl (.inr rfl) ?_
        simp only [ZZ, YY, Zd, ite_true, ite_false, forall_const, reduceCtorEq, Nat.reduceAdd, Nat.reduceMul, Nat.reduceLeDiff, Nat.reduceLT, Nat.reduceEqDiff]
        refine br ?_ ?_
        · intro h1
          have h1 : now ≠ [] ∧ now ∉ y :: r := by simpa using h1
          have hE : endR (y :: r) now = y :: (r ++ [now]) := by simp only [endR, if_pos h1, List.cons_append]
          simp only [ZZ, YY, Zd, ite_true, ite_false, forall_const, reduceCtorEq, Nat.reduceAdd, Nat.reduceMul, Nat.reduceLeDiff, Nat.reduceLT, Nat.reduceEqDiff, strE_len]
          ((repeat' (with_reducible apply And.intro)) <;> try ((first | first | assumption | trivial | exact (fun hq => by rw [hq]; rfl) | exact i64_of (by omega) (by omega) | omega | (simp; done) | (simp; omega) | (intro hsc; have hs0 := hsc; (try have hsd := of_decide_eq_true hsc); (try simp only [Bool.not_eq_true', Bool.or_eq_false_iff, Bool.and_eq_true, Bool.or_eq_true, decide_eq_true_eq, decide_eq_false_iff_not] at hsc); (repeat' (with_reducible apply And.intro)) <;> (first | assumption | trivial | exact (fun hq => by rw [hq]; rfl) | exact i64_of (by omega) (by omega) | omega | (simp; done) | (simp; omega) | (intro hse; simp [hse, hs0]; done) | (intro hse; simp only [hse, hs0, Bool.true_and, Bool.and_true, Bool.not_false, Bool.not_true, Bool.and_self]; done))))))
          refine cut_same (by simp only [ZZ, YY, Zd, ite_true, ite_false, forall_const, reduceCtorEq, Nat.reduceAdd, Nat.reduceMul, Nat.reduceLeDiff, Nat.reduceLT, Nat.reduceEqDiff]) ?_
          simp only [ZZ, YY, Zd, ite_true, ite_false, forall_const, reduceCtorEq, Nat.reduceAdd, Nat.reduceMul, Nat.reduceLeDiff, Nat.reduceLT, Nat.reduceEqDiff]
          ((repeat' (with_reducible apply And.intro)) <;> try ((first | first | assumption | trivial | exact (fun hq => by rw [hq]; rfl) | exact i64_of (by omega) (by omega) | omega | (simp; done) | (simp; omega) | (intro hsc; have hs0 := hsc; (try have hsd := of_decide_eq_true hsc); (try simp only [Bool.not_eq_true', Bool.or_eq_false_iff, Bool.and_eq_true, Bool.or_eq_true, decide_eq_true_eq, decide_eq_false_iff_not] at hsc); (repeat' (with_reducible apply And.intro)) <;> (first | assumption | trivial | exact (fun hq => by rw [hq]; rfl) | exact i64_of (by omega) (by omega) | omega | (simp; done) | (simp; omega) | (intro hse; simp [hse, hs0]; done) | (intro hse; simp only [hse, hs0, Bool.true_and, Bool.and_true, Bool.not_false, Bool.not_true, Bool.and_self]; done))))))
          refine ⟨some 100, ?_⟩
          simp only [fwdI, renI, backL, renL, mapO, bwd, fwd, rk, uk, AV.ren, AO.ren, renKs, renCs, Option.isSome_some, Option.isSome_none, Option.some.injEq, not_true, not_false, false_and, and_false, true_and, and_true, Nat.reduceMod, Nat.reduceDiv, Nat.reduceBEq, Option.map_some, Zbd, Bool.false_eq_true, ZZ, YY, Zd, ite_true, ite_false, forall_const, reduceCtorEq, Nat.reduceAdd, Nat.reduceMul, Nat.reduceLeDiff, Nat.reduceLT, Nat.reduceEqDiff]
          rw [hE]
          simp only [ZZ, YY, Zd, ite_true, ite_false, forall_const, reduceCtorEq, Nat.reduceAdd, Nat.reduceMul, Nat.reduceLeDiff, Nat.reduceLT, Nat.reduceEqDiff, List.mem_cons, List.not_mem_nil, or_self]
          refine to_mid _ _ ?_ ?_ ⟨rfl, rfl⟩
          · (simp only [ZZ, YY, Zd, ite_true, ite_false, forall_const, reduceCtorEq, Nat.reduceAdd, Nat.reduceMul, Nat.reduceLeDiff, Nat.reduceLT, Nat.reduceEqDiff]; try trivial)
          · simp only [ZZ, YY, Zd, ite_true, ite_false, forall_const, reduceCtorEq, Nat.reduceAdd, Nat.reduceMul, Nat.reduceLeDiff, Nat.reduceLT, Nat.reduceEqDiff, outL_cons, strE_one, strE_app', strE_app2]
        · intro h1
          have h1 : ¬ (now ≠ [] ∧ now ∉ y :: r) := by
            rintro ⟨h2, h3⟩
            rw [decide_eq_false h2, decide_eq_false h3] at h1
            cases h1
          have hE : endR (y :: r) now = y :: r := by rw [endR, if_neg h1]
          simp only [ZZ, YY, Zd, ite_true, ite_false, forall_const, reduceCtorEq, Nat.reduceAdd, Nat.reduceMul, Nat.reduceLeDiff, Nat.reduceLT, Nat.reduceEqDiff]
          refine cut_same (by simp only [ZZ, YY, Zd, ite_true, ite_false, forall_const, reduceCtorEq, Nat.reduceAdd, Nat.reduceMul, Nat.reduceLeDiff, Nat.reduceLT, Nat.reduceEqDiff]) ?_
          simp only [ZZ, YY, Zd, ite_true, ite_false, forall_const, reduceCtorEq, Nat.reduceAdd, Nat.reduceMul, Nat.reduceLeDiff, Nat.reduceLT, Nat.reduceEqDiff]
          ((repeat' (with_reducible apply And.intro)) <;> try ((first | first | assumption | trivial | exact (fun hq => by rw [hq]; rfl) | exact i64_of (by omega) (by omega) | omega | (simp; done) | (simp; omega) | (intro hsc; have hs0 := hsc; (try have hsd := of_decide_eq_true hsc); (try simp only [Bool.not_eq_true', Bool.or_eq_false_iff, Bool.and_eq_true, Bool.or_eq_true, decide_eq_true_eq, decide_eq_false_iff_not] at hsc); (repeat' (with_reducible apply And.intro)) <;> (first | assumption | trivial | exact (fun hq => by rw [hq]; rfl) | exact i64_of (by omega) (by omega) | omega | (simp; done) | (simp; omega) | (intro hse; simp [hse, hs0]; done) | (intro hse; simp only [hse, hs0, Bool.true_and, Bool.and_true, Bool.not_false, Bool.not_true, Bool.and_self]; done))))))
          refine ⟨some 100, ?_⟩
          simp only [fwdI, renI, backL, renL, mapO, bwd, fwd, rk, uk, AV.ren, AO.ren, renKs, renCs, Option.isSome_some, Option.isSome_none, Option.some.injEq, not_true, not_false, false_and, and_false, true_and, and_true, Nat.reduceMod, Nat.reduceDiv, Nat.reduceBEq, Option.map_some, Zbd, Bool.false_eq_true, ZZ, YY, Zd, ite_true, ite_false, forall_const, reduceCtorEq, Nat.reduceAdd, Nat.reduceMul, Nat.reduceLeDiff, Nat.reduceLT, Nat.reduceEqDiff]
          rw [hE]
          simp only [ZZ, YY, Zd, ite_true, ite_false, forall_const, reduceCtorEq, Nat.reduceAdd, Nat.reduceMul, Nat.reduceLeDiff, Nat.reduceLT, Nat.reduceEqDiff, List.mem_cons, List.not_mem_nil, or_self]
          refine to_mid _ _ ?_ ?_ ⟨rfl, rfl⟩
          · (simp only [ZZ, YY, Zd, ite_true, ite_false, forall_const, reduceCtorEq, Nat.reduceAdd, Nat.reduceMul, Nat.reduceLeDiff, Nat.reduceLT, Nat.reduceEqDiff]; try trivial)
          · simp only [ZZ, YY, Zd, ite_true, ite_false, forall_const, reduceCtorEq, Nat.reduceAdd, Nat.reduceMul, Nat.reduceLeDiff, Nat.reduceLT, Nat.reduceEqDiff, outL_cons, strE_one, strE_app', strE_app2]
      · intro he
        subst he
        simp only [Bool.false_eq_true, if_false]
        rw [outL_cons]
        simp only [ZZ, YY, Zd, ite_true, ite_false, forall_const, reduceCtorEq, Nat.reduceAdd, Nat.reduceMul, Nat.reduceLeDiff, Nat.reduceLT, Nat.reduceEqDiff]
        refine to_mid _ _ ?_ ?_ ⟨rfl, rfl⟩
        · (simp only [ZZ, YY, Zd, ite_true, ite_false, forall_const, reduceCtorEq, Nat.reduceAdd, Nat.reduceMul, Nat.reduceLeDiff, Nat.reduceLT, Nat.reduceEqDiff]; try trivial)
        · simp only [ZZ, YY, Zd, ite_true, ite_false, forall_const, reduceCtorEq, Nat.reduceAdd, Nat.reduceMul, Nat.reduceLeDiff, Nat.reduceLT, Nat.reduceEqDiff]
      · rintro fr L ⟨rfl, rfl⟩
        generalize (if e = true then endR (y :: r) now else (y :: r)) = o' at *
        generalize hnn : (if e = true then [] else now) = n' at *
        have hnl2 : n'.length ≤ now.length := by rw [← hnn]; split <;> simp
        rcases o' with _ | ⟨y', r'⟩
        · skip
          simp only [ZZ, YY, Zd, ite_true, ite_false, forall_const, reduceCtorEq, Nat.reduceAdd, Nat.reduceMul, Nat.reduceLeDiff, Nat.reduceLT, Nat.reduceEqDiff, outL_nil, rowM_get hlt, rowM_len, List.mem_cons, List.not_mem_nil, or_self]
          ((repeat' (with_reducible apply And.intro)) <;> try ((first | first | assumption | trivial | exact (fun hq => by rw [hq]; rfl) | exact i64_of (by omega) (by omega) | omega | (simp; done) | (simp; omega) | (intro hsc; have hs0 := hsc; (try have hsd := of_decide_eq_true hsc); (try simp only [Bool.not_eq_true', Bool.or_eq_false_iff, Bool.and_eq_true, Bool.or_eq_true, decide_eq_true_eq, decide_eq_false_iff_not] at hsc); (repeat' (with_reducible apply And.intro)) <;> (first | assumption | trivial | exact (fun hq => by rw [hq]; rfl) | exact i64_of (by omega) (by omega) | omega | (simp; done) | (simp; omega) | (intro hse; simp [hse, hs0]; done) | (intro hse; simp only [hse, hs0, Bool.true_and, Bool.and_true, Bool.not_false, Bool.not_true, Bool.and_self]; done))))))
          refine br ?_ ?_
          · intro hc
            rw [if_pos hc] at hs2
            simp only [ZZ, YY, Zd, ite_true, ite_false, forall_const, reduceCtorEq, Nat.reduceAdd, Nat.reduceMul, Nat.reduceLeDiff, Nat.reduceLT, Nat.reduceEqDiff]
            ((repeat' (with_reducible apply And.intro)) <;> try ((first | first | assumption | trivial | exact (fun hq => by rw [hq]; rfl) | exact i64_of (by omega) (by omega) | omega | (simp; done) | (simp; omega) | (intro hsc; have hs0 := hsc; (try have hsd := of_decide_eq_true hsc); (try simp only [Bool.not_eq_true', Bool.or_eq_false_iff, Bool.and_eq_true, Bool.or_eq_true, decide_eq_true_eq, decide_eq_false_iff_not] at hsc); (repeat' (with_reducible apply And.intro)) <;> (first | assumption | trivial | exact (fun hq => by rw [hq]; rfl) | exact i64_of (by omega) (by omega) | omega | (simp; done) | (simp; omega) | (intro hse; simp [hse, hs0]; done) | (intro hse; simp only [hse, hs0, Bool.true_and, Bool.and_true, Bool.not_false, Bool.not_true, Bool.and_self]; done))))))
            rw [show n' ++ [32] ++ t = n' ++ 32 :: t from by simp]
            refine use1 (squeezed_ok (n' ++ 32 :: t) (by simp only [List.length_append, List.length_cons]; omega)) rfl (.inl rfl) ?_
            simp only [ZZ, YY, Zd, ite_true, ite_false, forall_const, reduceCtorEq, Nat.reduceAdd, Nat.reduceMul, Nat.reduceLeDiff, Nat.reduceLT, Nat.reduceEqDiff]
            refine cut_same (by simp only [ZZ, YY, Zd, ite_true, ite_false, forall_const, reduceCtorEq, Nat.reduceAdd, Nat.reduceMul, Nat.reduceLeDiff, Nat.reduceLT, Nat.reduceEqDiff]) ?_
            simp only [ZZ, YY, Zd, ite_true, ite_false, forall_const, reduceCtorEq, Nat.reduceAdd, Nat.reduceMul, Nat.reduceLeDiff, Nat.reduceLT, Nat.reduceEqDiff]
            ((repeat' (with_reducible apply And.intro)) <;> try ((first | first | assumption | trivial | exact (fun hq => by rw [hq]; rfl) | exact i64_of (by omega) (by omega) | omega | (simp; done) | (simp; omega) | (intro hsc; have hs0 := hsc; (try have hsd := of_decide_eq_true hsc); (try simp only [Bool.not_eq_true', Bool.or_eq_false_iff, Bool.and_eq_true, Bool.or_eq_true, decide_eq_true_eq, decide_eq_false_iff_not] at hsc); (repeat' (with_reducible apply And.intro)) <;> (first | assumption | trivial | exact (fun hq => by rw [hq]; rfl) | exact i64_of (by omega) (by omega) | omega | (simp; done) | (simp; omega) | (intro hse; simp [hse, hs0]; done) | (intro hse; simp only [hse, hs0, Bool.true_and, Bool.and_true, Bool.not_false, Bool.not_true, Bool.and_self]; done))))))
            refine end_round (l.length - (k + 1)) [.any, .any, .any, .adr (.l 3) 0, .adr (.l 4) 0, .p (int (stR l (k + 1)).2.2), .fn fPE [.l 4, .l 3], .p (.sl 1 (rowM l l.length)), .any, .any, .any, .any, .any, .any, .any, .p (.sl 2 (quF l)), .p (int (l.length : Nat)), .p (int (k + 1 : Nat)), .any, .any, .any, .any, .any, .any, .any, .any, .any, .any, .any, .any, .any, .any, .any, .any, .any, .any, .any, .any, .any, .any, .any, .any, .any, .any, .any, .any, .any, .any, .any, .any, .any, .any, .any, .any, .any, .any, .any, .any, .any, .any, .any, .any] (outL (stR l (k + 1)).1 (stR l (k + 1)).2.1) (by omega) ?_ ?_ ⟨k + 1, by omega, rfl, rfl, rfl⟩
            · rw [hs3]
              (simp only [ZZ, YY, Zd, ite_true, ite_false, forall_const, reduceCtorEq, Nat.reduceAdd, Nat.reduceMul, Nat.reduceLeDiff, Nat.reduceLT, Nat.reduceEqDiff]; try trivial)
            · rw [hs1, hs2]
              simp only [ZZ, YY, Zd, ite_true, ite_false, forall_const, reduceCtorEq, Nat.reduceAdd, Nat.reduceMul, Nat.reduceLeDiff, Nat.reduceLT, Nat.reduceEqDiff, outL_nil]
          · intro hc
            rw [if_neg (by rw [hc]; simp)] at hs2
            simp only [ZZ, YY, Zd, ite_true, ite_false, forall_const, reduceCtorEq, Nat.reduceAdd, Nat.reduceMul, Nat.reduceLeDiff, Nat.reduceLT, Nat.reduceEqDiff]
            refine cut_same (by simp only [ZZ, YY, Zd, ite_true, ite_false, forall_const, reduceCtorEq, Nat.reduceAdd, Nat.reduceMul, Nat.reduceLeDiff, Nat.reduceLT, Nat.reduceEqDiff]) ?_
            simp only [ZZ, YY, Zd, ite_true, ite_false, forall_const, reduceCtorEq, Nat.reduceAdd, Nat.reduceMul, Nat.reduceLeDiff, Nat.reduceLT, Nat.reduceEqDiff]
            ((repeat' (with_reducible apply And.intro)) <;> try ((first | first | assumption | trivial | exact (fun hq => by rw [hq]; rfl) | exact i64_of (by omega) (by omega) | omega | (simp; done) | (simp; omega) | (intro hsc; have hs0 := hsc; (try have hsd := of_decide_eq_true hsc); (try simp only [Bool.not_eq_true', Bool.or_eq_false_iff, Bool.and_eq_true, Bool.or_eq_true, decide_eq_true_eq, decide_eq_false_iff_not] at hsc); (repeat' (with_reducible apply And.intro)) <;> (first | assumption | trivial | exact (fun hq => by rw [hq]; rfl) | exact i64_of (by omega) (by omega) | omega | (simp; done) | (simp; omega) | (intro hse; simp [hse, hs0]; done) | (intro hse; simp only [hse, hs0, Bool.true_and, Bool.and_true, Bool.not_false, Bool.not_true, Bool.and_self]; done))))))
            refine end_round (l.length - (k + 1)) [.any, .any, .any, .adr (.l 3) 0, .adr (.l 4) 0, .p (int (stR l (k + 1)).2.2), .fn fPE [.l 4, .l 3], .p (.sl 1 (rowM l l.length)), .any, .any, .any, .any, .any, .any, .any, .p (.sl 2 (quF l)), .p (int (l.length : Nat)), .p (int (k + 1 : Nat)), .any, .any, .any, .any, .any, .any, .any, .any, .any, .any, .any, .any, .any, .any, .any, .any, .any, .any, .any, .any, .any, .any, .any, .any, .any, .any, .any, .any, .any, .any, .any, .any, .any, .any, .any, .any, .any, .any, .any, .any, .any, .any, .any, .any] (outL (stR l (k + 1)).1 (stR l (k + 1)).2.1) (by omega) ?_ ?_ ⟨k + 1, by omega, rfl, rfl, rfl⟩
            · rw [hs3]
              (simp only [ZZ, YY, Zd, ite_true, ite_false, forall_const, reduceCtorEq, Nat.reduceAdd, Nat.reduceMul, Nat.reduceLeDiff, Nat.reduceLT, Nat.reduceEqDiff]; try trivial)
            · rw [hs1, hs2]
              simp only [ZZ, YY, Zd, ite_true, ite_false, forall_const, reduceCtorEq, Nat.reduceAdd, Nat.reduceMul, Nat.reduceLeDiff, Nat.reduceLT, Nat.reduceEqDiff, outL_nil]
        · skip
          simp only [ZZ, YY, Zd, ite_true, ite_false, forall_const, reduceCtorEq, Nat.reduceAdd, Nat.reduceMul, Nat.reduceLeDiff, Nat.reduceLT, Nat.reduceEqDiff, outL_cons, rowM_get hlt, rowM_len, List.mem_cons, List.not_mem_nil, or_self]
          ((repeat' (with_reducible apply And.intro)) <;> try ((first | first | assumption | trivial | exact (fun hq => by rw [hq]; rfl) | exact i64_of (by omega) (by omega) | omega | (simp; done) | (simp; omega) | (intro hsc; have hs0 := hsc; (try have hsd := of_decide_eq_true hsc); (try simp only [Bool.not_eq_true', Bool.or_eq_false_iff, Bool.and_eq_true, Bool.or_eq_true, decide_eq_true_eq, decide_eq_false_iff_not] at hsc); (repeat' (with_reducible apply And.intro)) <;> (first | assumption | trivial | exact (fun hq => by rw [hq]; rfl) | exact i64_of (by omega) (by omega) | omega | (simp; done) | (simp; omega) | (intro hse; simp [hse, hs0]; done) | (intro hse; simp only [hse, hs0, Bool.true_and, Bool.and_true, Bool.not_false, Bool.not_true, Bool.and_self]; done))))))
          refine br ?_ ?_
          · intro hc
            rw [if_pos hc] at hs2
            simp only [ZZ, YY, Zd, ite_true, ite_false, forall_const, reduceCtorEq, Nat.reduceAdd, Nat.reduceMul, Nat.reduceLeDiff, Nat.reduceLT, Nat.reduceEqDiff]
            ((repeat' (with_reducible apply And.intro)) <;> try ((first | first | assumption | trivial | exact (fun hq => by rw [hq]; rfl) | exact i64_of (by omega) (by omega) | omega | (simp; done) | (simp; omega) | (intro hsc; have hs0 := hsc; (try have hsd := of_decide_eq_true hsc); (try simp only [Bool.not_eq_true', Bool.or_eq_false_iff, Bool.and_eq_true, Bool.or_eq_true, decide_eq_true_eq, decide_eq_false_iff_not] at hsc); (repeat' (with_reducible apply And.intro)) <;> (first | assumption | trivial | exact (fun hq => by rw [hq]; rfl) | exact i64_of (by omega) (by omega) | omega | (simp; done) | (simp; omega) | (intro hse; simp [hse, hs0]; done) | (intro hse; simp only [hse, hs0, Bool.true_and, Bool.and_true, Bool.not_false, Bool.not_true, Bool.and_self]; done))))))
            rw [show n' ++ [32] ++ t = n' ++ 32 :: t from by simp]
            refine use1 (squeezed_ok (n' ++ 32 :: t) (by simp only [List.length_append, List.length_cons]; omega)) rfl (.inl rfl) ?_
            simp only [ZZ, YY, Zd, ite_true, ite_false, forall_const, reduceCtorEq, Nat.reduceAdd, Nat.reduceMul, Nat.reduceLeDiff, Nat.reduceLT, Nat.reduceEqDiff]
            refine cut_same (by simp only [ZZ, YY, Zd, ite_true, ite_false, forall_const, reduceCtorEq, Nat.reduceAdd, Nat.reduceMul, Nat.reduceLeDiff, Nat.reduceLT, Nat.reduceEqDiff]) ?_
            simp only [ZZ, YY, Zd, ite_true, ite_false, forall_const, reduceCtorEq, Nat.reduceAdd, Nat.reduceMul, Nat.reduceLeDiff, Nat.reduceLT, Nat.reduceEqDiff]
            ((repeat' (with_reducible apply And.intro)) <;> try ((first | first | assumption | trivial | exact (fun hq => by rw [hq]; rfl) | exact i64_of (by omega) (by omega) | omega | (simp; done) | (simp; omega) | (intro hsc; have hs0 := hsc; (try have hsd := of_decide_eq_true hsc); (try simp only [Bool.not_eq_true', Bool.or_eq_false_iff, Bool.and_eq_true, Bool.or_eq_true, decide_eq_true_eq, decide_eq_false_iff_not] at hsc); (repeat' (with_reducible apply And.intro)) <;> (first | assumption | trivial | exact (fun hq => by rw [hq]; rfl) | exact i64_of (by omega) (by omega) | omega | (simp; done) | (simp; omega) | (intro hse; simp [hse, hs0]; done) | (intro hse; simp only [hse, hs0, Bool.true_and, Bool.and_true, Bool.not_false, Bool.not_true, Bool.and_self]; done))))))
            refine end_round (l.length - (k + 1)) [.any, .any, .any, .adr (.l 3) 0, .adr (.l 4) 0, .p (int (stR l (k + 1)).2.2), .fn fPE [.l 4, .l 3], .p (.sl 1 (rowM l l.length)), .any, .any, .any, .any, .any, .any, .any, .p (.sl 2 (quF l)), .p (int (l.length : Nat)), .p (int (k + 1 : Nat)), .any, .any, .any, .any, .any, .any, .any, .any, .any, .any, .any, .any, .any, .any, .any, .any, .any, .any, .any, .any, .any, .any, .any, .any, .any, .any, .any, .any, .any, .any, .any, .any, .any, .any, .any, .any, .any, .any, .any, .any, .any, .any, .any, .any] (outL (stR l (k + 1)).1 (stR l (k + 1)).2.1) (by omega) ?_ ?_ ⟨k + 1, by omega, rfl, rfl, rfl⟩
            · rw [hs3]
              (simp only [ZZ, YY, Zd, ite_true, ite_false, forall_const, reduceCtorEq, Nat.reduceAdd, Nat.reduceMul, Nat.reduceLeDiff, Nat.reduceLT, Nat.reduceEqDiff]; try trivial)
            · rw [hs1, hs2]
              simp only [ZZ, YY, Zd, ite_true, ite_false, forall_const, reduceCtorEq, Nat.reduceAdd, Nat.reduceMul, Nat.reduceLeDiff, Nat.reduceLT, Nat.reduceEqDiff, outL_cons]
          · intro hc
            rw [if_neg (by rw [hc]; simp)] at hs2
            simp only [ZZ, YY, Zd, ite_true, ite_false, forall_const, reduceCtorEq, Nat.reduceAdd, Nat.reduceMul, Nat.reduceLeDiff, Nat.reduceLT, Nat.reduceEqDiff]
            refine cut_same (by simp only [ZZ, YY, Zd, ite_true, ite_false, forall_const, reduceCtorEq, Nat.reduceAdd, Nat.reduceMul, Nat.reduceLeDiff, Nat.reduceLT, Nat.reduceEqDiff]) ?_
            simp only [ZZ, YY, Zd, ite_true, ite_false, forall_const, reduceCtorEq, Nat.reduceAdd, Nat.reduceMul, Nat.reduceLeDiff, Nat.reduceLT, Nat.reduceEqDiff]
            ((repeat' (with_reducible apply And.intro)) <;> try ((first | first | assumption | trivial | exact (fun hq => by rw [hq]; rfl) | exact i64_of (by omega) (by omega) | omega | (simp; done) | (simp; omega) | (intro hsc; have hs0 := hsc; (try have hsd := of_decide_eq_true hsc); (try simp only [Bool.not_eq_true', Bool.or_eq_false_iff, Bool.and_eq_true, Bool.or_eq_true, decide_eq_true_eq, decide_eq_false_iff_not] at hsc); (repeat' (with_reducible apply And.intro)) <;> (first | assumption | trivial | exact (fun hq => by rw [hq]; rfl) | exact i64_of (by omega) (by omega) | omega | (simp; done) | (simp; omega) | (intro hse; simp [hse, hs0]; done) | (intro hse; simp only [hse, hs0, Bool.true_and, Bool.and_true, Bool.not_false, Bool.not_true, Bool.and_self]; done))))))
            refine end_round (l.length - (k + 1)) [.any, .any, .any, .adr (.l 3) 0, .adr (.l 4) 0, .p (int (stR l (k + 1)).2.2), .fn fPE [.l 4, .l 3], .p (.sl 1 (rowM l l.length)), .any, .any, .any, .any, .any, .any, .any, .p (.sl 2 (quF l)), .p (int (l.length : Nat)), .p (int (k + 1 : Nat)), .any, .any, .any, .any, .any, .any, .any, .any, .any, .any, .any, .any, .any, .any, .any, .any, .any, .any, .any, .any, .any, .any, .any, .any, .any, .any, .any, .any, .any, .any, .any, .any, .any, .any, .any, .any, .any, .any, .any, .any, .any, .any, .any, .any] (outL (stR l (k + 1)).1 (stR l (k + 1)).2.1) (by omega) ?_ ?_ ⟨k + 1, by omega, rfl, rfl, rfl⟩
            · rw [hs3]
              (simp only [ZZ, YY, Zd, ite_true, ite_false, forall_const, reduceCtorEq, Nat.reduceAdd, Nat.reduceMul, Nat.reduceLeDiff, Nat.reduceLT, Nat.reduceEqDiff]; try trivial)
            · rw [hs1, hs2]
              simp only [ZZ, YY, Zd, ite_true, ite_false, forall_const, reduceCtorEq, Nat.reduceAdd, Nat.reduceMul, Nat.reduceLeDiff, Nat.reduceLT, Nat.reduceEqDiff, outL_cons]
    · intro h
      have hge : k = l.length := by have := of_decide_eq_false h; omega
      subst hge
      simp only [ZZ, YY, Zd, ite_true, ite_false, forall_const, reduceCtorEq, Nat.reduceAdd, Nat.reduceMul, Nat.reduceLeDiff, Nat.reduceLT, Nat.reduceEqDiff]
      refine ⟨by kernel_rfl, ?_⟩
      refine useI mixed 100 Tryz.func112 ck_chaseref1_ParagraphsOf_1 ?_
      simp only [List.map_cons, List.map_nil, List.length_cons, List.length_nil, List.cons_append, List.nil_append, Nat.reduceSub, Nat.reduceAdd, List.replicate_succ, List.replicate_zero, ir_chaseref1_ParagraphsOf_1, rs_chaseref1_ParagraphsOf_1, fwdI, renI, backL, renL, mapO, bwd, fwd, rk, uk, AV.ren, AO.ren, renKs, renCs, Option.isSome_some, Option.isSome_none, Option.some.injEq, not_true, not_false, false_and, and_false, true_and, and_true, Nat.reduceMod, Nat.reduceDiv, Nat.reduceBEq, Option.map_some, Zbd, Bool.false_eq_true, ZZ, YY, Zd, ite_true, ite_false, forall_const, reduceCtorEq, Nat.reduceAdd, Nat.reduceMul, Nat.reduceLeDiff, Nat.reduceLT, Nat.reduceEqDiff]
      refine useG (fun _ => ContainsS_ok (y :: r) now (by omega)) rfl (.inr rfl) ?_
      simp only [ZZ, YY, Zd, ite_true, ite_false, forall_const, reduceCtorEq, Nat.reduceAdd, Nat.reduceMul, Nat.reduceLeDiff, Nat.reduceLT, Nat.reduceEqDiff]
      refine br ?_ ?_
      · intro h1
        have h1 : now ≠ [] ∧ now ∉ y :: r := by simpa using h1
        have hE : endR (y :: r) now = y :: (r ++ [now]) := by simp only [endR, if_pos h1, List.cons_append]
        simp only [ZZ, YY, Zd, ite_true, ite_false, forall_const, reduceCtorEq, Nat.reduceAdd, Nat.reduceMul, Nat.reduceLeDiff, Nat.reduceLT, Nat.reduceEqDiff, strE_len]
        ((repeat' (with_reducible apply And.intro)) <;> try ((first | first | assumption | trivial | exact (fun hq => by rw [hq]; rfl) | exact i64_of (by omega) (by omega) | omega | (simp; done) | (simp; omega) | (intro hsc; have hs0 := hsc; (try have hsd := of_decide_eq_true hsc); (try simp only [Bool.not_eq_true', Bool.or_eq_false_iff, Bool.and_eq_true, Bool.or_eq_true, decide_eq_true_eq, decide_eq_false_iff_not] at hsc); (repeat' (with_reducible apply And.intro)) <;> (first | assumption | trivial | exact (fun hq => by rw [hq]; rfl) | exact i64_of (by omega) (by omega) | omega | (simp; done) | (simp; omega) | (intro hse; simp [hse, hs0]; done) | (intro hse; simp only [hse, hs0, Bool.true_and, Bool.and_true, Bool.not_false, Bool.not_true, Bool.and_self]; done))))))
        refine cut_same (by simp only [ZZ, YY, Zd, ite_true, ite_false, forall_const, reduceCtorEq, Nat.reduceAdd, Nat.reduceMul, Nat.reduceLeDiff, Nat.reduceLT, Nat.reduceEqDiff]) ?_
        simp only [ZZ, YY, Zd, ite_true, ite_false, forall_const, reduceCtorEq, Nat.reduceAdd, Nat.reduceMul, Nat.reduceLeDiff, Nat.reduceLT, Nat.reduceEqDiff]
        ((repeat' (with_reducible apply And.intro)) <;> try ((first | first | assumption | trivial | exact (fun hq => by rw [hq]; rfl) | exact i64_of (by omega) (by omega) | omega | (simp; done) | (simp; omega) | (intro hsc; have hs0 := hsc; (try have hsd := of_decide_eq_true hsc); (try simp only [Bool.not_eq_true', Bool.or_eq_false_iff, Bool.and_eq_true, Bool.or_eq_true, decide_eq_true_eq, decide_eq_false_iff_not] at hsc); (repeat' (with_reducible apply And.intro)) <;> (first | assumption | trivial | exact (fun hq => by rw [hq]; rfl) | exact i64_of (by omega) (by omega) | omega | (simp; done) | (simp; omega) | (intro hse; simp [hse, hs0]; done) | (intro hse; simp only [hse, hs0, Bool.true_and, Bool.and_true, Bool.not_false, Bool.not_true, Bool.and_self]; done))))))
        refine ⟨some 100, ?_⟩
        simp only [fwdI, renI, backL, renL, mapO, bwd, fwd, rk, uk, AV.ren, AO.ren, renKs, renCs, Option.isSome_some, Option.isSome_none, Option.some.injEq, not_true, not_false, false_and, and_false, true_and, and_true, Nat.reduceMod, Nat.reduceDiv, Nat.reduceBEq, Option.map_some, Zbd, Bool.false_eq_true, ZZ, YY, Zd, ite_true, ite_false, forall_const, reduceCtorEq, Nat.reduceAdd, Nat.reduceMul, Nat.reduceLeDiff, Nat.reduceLT, Nat.reduceEqDiff]
        rw [ho, hn, hE]
        try rw [strE_app']
        try rfl
      · intro h1
        have h1 : ¬ (now ≠ [] ∧ now ∉ y :: r) := by
          rintro ⟨h2, h3⟩
          rw [decide_eq_false h2, decide_eq_false h3] at h1
          cases h1
        have hE : endR (y :: r) now = y :: r := by rw [endR, if_neg h1]
        simp only [ZZ, YY, Zd, ite_true, ite_false, forall_const, reduceCtorEq, Nat.reduceAdd, Nat.reduceMul, Nat.reduceLeDiff, Nat.reduceLT, Nat.reduceEqDiff]
        refine cut_same (by simp only [ZZ, YY, Zd, ite_true, ite_false, forall_const, reduceCtorEq, Nat.reduceAdd, Nat.reduceMul, Nat.reduceLeDiff, Nat.reduceLT, Nat.reduceEqDiff]) ?_
        simp only [ZZ, YY, Zd, ite_true, ite_false, forall_const, reduceCtorEq, Nat.reduceAdd, Nat.reduceMul, Nat.reduceLeDiff, Nat.reduceLT, Nat.reduceEqDiff]
        ((repeat' (with_reducible apply And.intro)) <;> try ((first | first | assumption | trivial | exact (fun hq => by rw [hq]; rfl) | exact i64_of (by omega) (by omega) | omega | (simp; done) | (simp; omega) | (intro hsc; have hs0 := hsc; (try have hsd := of_decide_eq_true hsc); (try simp only [Bool.not_eq_true', Bool.or_eq_false_iff, Bool.and_eq_true, Bool.or_eq_true, decide_eq_true_eq, decide_eq_false_iff_not] at hsc); (repeat' (with_reducible apply And.intro)) <;> (first | assumption | trivial | exact (fun hq => by rw [hq]; rfl) | exact i64_of (by omega) (by omega) | omega | (simp; done) | (simp; omega) | (intro hse; simp [hse, hs0]; done) | (intro hse; simp only [hse, hs0, Bool.true_and, Bool.and_true, Bool.not_false, Bool.not_true, Bool.and_self]; done))))))
        refine ⟨some 100, ?_⟩
        simp only [fwdI, renI, backL, renL, mapO, bwd, fwd, rk, uk, AV.ren, AO.ren, renKs, renCs, Option.isSome_some, Option.isSome_none, Option.some.injEq, not_true, not_false, false_and, and_false, true_and, and_true, Nat.reduceMod, Nat.reduceDiv, Nat.reduceBEq, Option.map_some, Zbd, Bool.false_eq_true, ZZ, YY, Zd, ite_true, ite_false, forall_const, reduceCtorEq, Nat.reduceAdd, Nat.reduceMul, Nat.reduceLeDiff, Nat.reduceLT, Nat.reduceEqDiff]
        rw [ho, hn, hE]
        try rw [strE_app']
        try rfl
end Go.Proofs.YtndjmidmfmcbkaaGreatDoor

/- Paragraphs, in plain Lean: the program's and the reference's are the same. -/
namespace Go.Proofs.YtndjmidmfmcbkaaGreatDoor
open Go.RowKit
set_option linter.unusedVariables false
set_option linter.unusedSimpArgs false
set_option linter.defProp false

def endS (now : List (List UInt8)) : List UInt8 := lowF (sqF (joinF now))
/-- Where the program stands after k lines. -/
def stP (l : List (List UInt8)) : Nat → List (List UInt8) × List (List UInt8) × Int
  | 0 => ([], [], 0)
  | k + 1 =>
    let st := stP l k
    let e := blankF (txF l k) || (qF l k).2 || !decide (((qF l k).1 : Int) = st.2.2)
    let o := if e = true then endR st.1 (endS st.2.1) else st.1
    let n := if e = true then [] else st.2.1
    (o, if (!(qF l k).2) = true then n ++ [txF l k] else n, (qF l k).1)
theorem endS_bits (n : List (List UInt8)) : endS n = lowF (joinF ((n.map bits).flatten)) := by
  rw [endS, sqF, bits_join]
theorem flat_isW (n : List (List UInt8)) : isW ((n.map bits).flatten) := by
  intro w hw
  obtain ⟨b, hb, hw⟩ := List.mem_flatten.1 hw
  obtain ⟨x, _, rfl⟩ := List.mem_map.1 hb
  exact bits_isW x w hw
theorem sq_app {B C : List (List UInt8)} (hB : isW B) (hC : isW C) : sqF (lowF (joinF B) ++ 32 :: lowF (joinF C)) = lowF (joinF (B ++ C)) := by
  rw [sqF, bits_app, bits_low, bits_low, bits_words hB, bits_words hC, ← List.map_append, ← low_join]
theorem endS_app (n : List (List UInt8)) (x : List UInt8) (h : lowF (sqF x) ≠ []) : endS (n ++ [x]) = sqF (endS n ++ 32 :: lowF (sqF x)) := by
  rw [endS_bits n, show lowF (sqF x) = lowF (joinF (bits x)) from rfl, sq_app (flat_isW n) (bits_isW x), endS_bits]
  simp
theorem endS_none (n : List (List UInt8)) (x : List UInt8) (h : lowF (sqF x) = []) : endS (n ++ [x]) = endS n := by
  have h2 : bits x = [] := (sqF_nil x).1 ((lowF_nil _).1 h)
  rw [endS_bits, endS_bits]
  simp [h2]
theorem endS_nil : endS [] = [] := by
  rw [endS_bits]
  rfl
theorem blank_low (x : List UInt8) : blankF x = decide (lowF (sqF x) = []) := by
  rw [← sq_blank, Bool.eq_iff_iff, decide_eq_true_iff, decide_eq_true_iff, lowF_nil]
theorem endR_nil (o : List (List UInt8)) : endR o [] = o := by simp [endR]
theorem same_st (l : List (List UInt8)) : ∀ k, (stP l k).1 = (stR l k).1 ∧ endS (stP l k).2.1 = (stR l k).2.1 ∧ ((stP l k).2.2 = (stR l k).2.2 ∨ ((stP l k).1 = [] ∧ (stP l k).2.1 = [])) := by
  intro k
  induction k with
  | zero => exact ⟨rfl, endS_nil, .inr ⟨rfl, rfl⟩⟩
  | succ k ih =>
    obtain ⟨h1, h2, h3⟩ := ih
    rw [stP, stR]
    simp only
    rw [blank_low, ← h1, ← h2]
    generalize hP : (stP l k).1 = o at *
    generalize hN : (stP l k).2.1 = n at *
    generalize (stP l k).2.2 = d at *
    generalize (stR l k).2.2 = d' at *
    have hx : ∀ (e e' : Bool), (e = e' ∨ (o = [] ∧ n = [])) → ((if e = true then endR o (endS n) else o) = (if e' = true then endR o (endS n) else o)) ∧ endS (if e = true then [] else n) = (if e' = true then [] else endS n) := by
      intro e e' he
      rcases he with rfl | ⟨rfl, rfl⟩
      · cases e <;> simp [endS_nil]
      · cases e <;> cases e' <;> simp [endS_nil, endR_nil]
    have hee : (decide (lowF (sqF (txF l k)) = []) || (qF l k).2 || !decide (((qF l k).1 : Int) = d)) = ((qF l k).2 || decide (lowF (sqF (txF l k)) = []) || !decide (((qF l k).1 : Int) = d')) ∨ (o = [] ∧ n = []) := by
      rcases h3 with h3 | h3
      · left; rw [h3, Bool.or_comm (decide _) (qF l k).2]
      · exact .inr h3
    obtain ⟨q1, q2⟩ := hx _ _ hee
    generalize (decide (lowF (sqF (txF l k)) = []) || (qF l k).2 || !decide (((qF l k).1 : Int) = d)) = e at *
    generalize ((qF l k).2 || decide (lowF (sqF (txF l k)) = []) || !decide (((qF l k).1 : Int) = d')) = e' at *
    refine ⟨q1, ?_, .inl (by trivial)⟩
    generalize (if e = true then [] else n) = n1 at *
    rw [← q2]
    cases hm : (qF l k).2 with
    | true => simp
    | false =>
      by_cases ht : lowF (sqF (txF l k)) = []
      · simp [ht, endS_none _ _ ht]
      · simp [ht, endS_app _ _ ht]
theorem same_par (l : List (List UInt8)) (k : Nat) : endR (stP l k).1 (endS (stP l k).2.1) = endR (stR l k).1 (stR l k).2.1 := by
  obtain ⟨h1, h2, _⟩ := same_st l k
  rw [h1, h2]
end Go.Proofs.YtndjmidmfmcbkaaGreatDoor
