
/- Own texts, put together: P4 P5 E1 P6 P7 P8. -/
import Derived.Test.YthfpehmbellmcaaDoorZ6
import Derived.Test.YthfpehmbellmcaaDoorZ5
import Derived.Test.YthfpehmbellmcaaDoorLayItoa
/- One table over another: the paper's side. -/
namespace Go.Proofs.YthfpehmbellmcaaDoor
open Go.RowKit
set_option linter.unusedVariables false
set_option linter.unusedSimpArgs false
set_option linter.defProp false

/- paperchase/chaseref1.OverlayOf -/
def ir_chaseref1_OverlayOf_L3 : IC :=
  (.seq (.reg [⟨some 75, .bin .lss (.t 74) (.t 73), none⟩])
    (.seq (.cond (.t 75) .skip (.exit 6))
    (.seq (.block 7 (.seq (.reg [⟨some 76, .mov (.t 74), none⟩,
      ⟨some 77, .ixa 1 (.t 72) (.t 74), none⟩,
      ⟨some 78, .ld 1 false (.t 77), none⟩,
      ⟨some 16, .mov (.t 76), none⟩,
      ⟨some 17, .mov (.t 78), none⟩])
    (.seq (.drg [⟨some 79, .mov (.t 15), none⟩,
      ⟨some 80, .ixa 1 (.t 79) (.c (.int .i64 0)), none⟩,
      ⟨some 81, .ld 1 false (.t 80), none⟩,
      ⟨some 82, .mov (.t 12), none⟩,
      ⟨some 83, .ixa 1 (.t 82) (.c (.int .i64 0)), none⟩,
      ⟨some 84, .ld 1 false (.t 83), none⟩,
      ⟨some 85, .bin .eql (.t 81) (.t 84), none⟩])
    (.cond (.t 85) (.drg [⟨some 86, .mov (.t 13), none⟩,
      ⟨some 87, .mov (.t 7), none⟩,
      ⟨some 88, .mov (.t 17), none⟩,
      ⟨some 89, .pcall 0 18 [.t 87, .t 88], none⟩,
      ⟨some 90, .mov (.t 15), none⟩,
      ⟨some 91, .mov (.t 16), none⟩,
      ⟨some 92, .ixa 1 (.t 90) (.t 91), none⟩,
      ⟨some 93, .ld 1 false (.t 92), none⟩,
      ⟨some 94, .ixa 1 (.t 86) (.t 89), none⟩,
      ⟨none, .st 1 (.t 94) (.t 93), none⟩]) .skip))))
    (.cut (.reg [⟨some 95, .bin .add (.t 74) (.c (.int .i64 1)), none⟩,
      ⟨some 74, .mov (.t 95), none⟩])))))
def ir_chaseref1_OverlayOf_L2 : IC :=
  (.seq (.reg [⟨some 67, .bin .lss (.t 66) (.t 65), none⟩])
    (.seq (.cond (.t 67) .skip (.exit 4))
    (.seq (.block 5 (.seq (.reg [⟨some 68, .ixa 1 (.t 64) (.t 66), none⟩,
      ⟨some 69, .ld 1 false (.t 68), none⟩,
      ⟨some 15, .mov (.t 69), none⟩])
    (.seq (.reg [⟨some 70, .mov (.t 1), none⟩,
      ⟨some 71, .ixa 1 (.t 70) (.c (.int .i64 0)), none⟩,
      ⟨some 72, .ld 1 false (.t 71), none⟩,
      ⟨some 73, .len (.t 72), none⟩,
      ⟨some 74, .mov (.c (.int .i64 0)), none⟩])
    (.block 6 (.loop ir_chaseref1_OverlayOf_L3)))))
    (.reg [⟨some 96, .bin .add (.t 66) (.c (.int .i64 1)), none⟩,
      ⟨some 66, .mov (.t 96), none⟩]))))
def ir_chaseref1_OverlayOf_L1 : IC :=
  (.seq (.reg [⟨some 54, .bin .lss (.t 53) (.t 52), none⟩])
    (.seq (.cond (.t 54) .skip (.exit 2))
    (.seq (.block 3 (.seq (.reg [⟨some 55, .ixa 1 (.t 51) (.t 53), none⟩,
      ⟨some 56, .ld 1 false (.t 55), none⟩,
      ⟨some 12, .mov (.t 56), none⟩])
    (.seq (.reg [⟨some 57, .mov (.t 7), none⟩,
      ⟨some 58, .len (.t 57), none⟩,
      ⟨some 59, .mks 9 1 16 [.str []] (.t 58) (.t 58), none⟩,
      ⟨some 13, .mov (.t 59), none⟩])
    (.seq (.reg [⟨some 60, .mov (.t 13), none⟩,
      ⟨some 61, .mov (.t 12), none⟩,
      ⟨some 62, .cpy 1 (.t 60) (.t 61), none⟩])
    (.seq (.seq (.reg [⟨some 63, .mov (.t 1), none⟩,
      ⟨some 64, .vsl 1 (.t 63) (some (.c (.int .i64 1))) none, none⟩,
      ⟨some 65, .len (.t 64), none⟩,
      ⟨some 66, .mov (.c (.int .i64 0)), none⟩])
    (.block 4 (.loop ir_chaseref1_OverlayOf_L2)))
    (.reg [⟨some 97, .mov (.t 10), none⟩,
      ⟨some 98, .mov (.t 13), none⟩,
      ⟨none, .fz (.t 98), none⟩,
      ⟨some 99, .bsl 1 [.t 98], none⟩,
      ⟨some 100, .app 36 1 24 (.t 97) (.t 99), none⟩,
      ⟨some 10, .mov (.t 100), none⟩]))))))
    (.reg [⟨some 101, .bin .add (.t 53) (.c (.int .i64 1)), none⟩,
      ⟨some 53, .mov (.t 101), none⟩]))))
def ir_chaseref1_OverlayOf_L0 : IC :=
  (.seq (.reg [⟨some 33, .bin .lss (.t 32) (.t 31), none⟩])
    (.seq (.cond (.t 33) .skip (.exit 0))
    (.seq (.block 1 (.seq (.reg [⟨some 34, .ixa 1 (.t 30) (.t 32), none⟩,
      ⟨some 35, .ld 1 false (.t 34), none⟩,
      ⟨some 9, .mov (.t 35), none⟩])
    (.seq (.reg [⟨some 36, .mov (.t 7), none⟩,
      ⟨some 37, .mov (.t 9), none⟩,
      ⟨some 38, .call 20 [.t 36, .t 37], none⟩,
      ⟨some 39, .not (.t 38), none⟩])
    (.cond (.t 39) (.reg [⟨some 40, .mov (.t 7), none⟩,
      ⟨some 41, .mov (.t 9), none⟩,
      ⟨some 42, .bsl 1 [.t 41], none⟩,
      ⟨some 43, .app 9 1 16 (.t 40) (.t 42), none⟩,
      ⟨some 7, .mov (.t 43), none⟩]) .skip))))
    (.cut (.reg [⟨some 44, .bin .add (.t 32) (.c (.int .i64 1)), none⟩,
      ⟨some 32, .mov (.t 44), none⟩])))))
def ir_chaseref1_OverlayOf : IC :=
  (.seq (.reg [⟨some 4, .mov (.c (.nl 1)), none⟩,
      ⟨some 5, .mov (.c (.int .i64 0)), none⟩])
    (.seq (.seq (.reg [⟨some 18, .mov (.t 0), none⟩,
      ⟨some 19, .mov (.t 1), none⟩,
      ⟨some 20, .call 19 [.t 18, .t 19], none⟩,
      ⟨some 6, .mov (.t 20), none⟩])
    (.seq (.reg [⟨some 21, .mov (.t 6), none⟩,
      ⟨some 22, .bin .neq (.t 21) (.c (.int .i64 0)), none⟩])
    (.cond (.t 22) (.seq (.reg [⟨some 23, .mov (.t 6), none⟩,
      ⟨some 4, .mov (.c (.nl 1)), none⟩,
      ⟨some 5, .mov (.t 23), none⟩])
    .ret) .skip)))
    (.seq (.reg [⟨some 24, .mov (.t 0), none⟩,
      ⟨some 25, .ixa 1 (.t 24) (.c (.int .i64 0)), none⟩,
      ⟨some 26, .ld 1 false (.t 25), none⟩,
      ⟨some 27, .call 11 [.t 26], none⟩,
      ⟨some 7, .mov (.t 27), none⟩])
    (.seq (.seq (.reg [⟨some 28, .mov (.t 1), none⟩,
      ⟨some 29, .ixa 1 (.t 28) (.c (.int .i64 0)), none⟩,
      ⟨some 30, .ld 1 false (.t 29), none⟩,
      ⟨some 31, .len (.t 30), none⟩,
      ⟨some 32, .mov (.c (.int .i64 0)), none⟩])
    (.block 0 (.loop ir_chaseref1_OverlayOf_L0)))
    (.seq (.seq (.reg [⟨some 45, .mov (.t 7), none⟩,
      ⟨some 46, .len (.t 45), none⟩,
      ⟨some 47, .bin .gtr (.t 46) (.c (.int .i64 30)), none⟩])
    (.cond (.t 47) (.seq (.reg [⟨some 4, .mov (.c (.nl 1)), none⟩,
      ⟨some 5, .mov (.c (.int .i64 2)), none⟩])
    .ret) .skip))
    (.seq (.reg [⟨some 48, .mov (.t 7), none⟩,
      ⟨none, .fz (.t 48), none⟩,
      ⟨some 49, .bsr 36 1 [.t 48], none⟩,
      ⟨some 10, .mov (.t 49), none⟩])
    (.seq (.seq (.reg [⟨some 50, .mov (.t 0), none⟩,
      ⟨some 51, .vsl 1 (.t 50) (some (.c (.int .i64 1))) none, none⟩,
      ⟨some 52, .len (.t 51), none⟩,
      ⟨some 53, .mov (.c (.int .i64 0)), none⟩])
    (.block 2 (.loop ir_chaseref1_OverlayOf_L1)))
    (.seq (.reg [⟨some 102, .mov (.t 10), none⟩,
      ⟨some 4, .mov (.t 102), none⟩,
      ⟨some 5, .mov (.c (.int .i64 0)), none⟩])
    .ret))))))))
def rs_chaseref1_OverlayOf : List IRes := [.t 4, .t 5]
theorem ck_chaseref1_OverlayOf : chkF Tryd.prog Tryd.f7 ir_chaseref1_OverlayOf rs_chaseref1_OverlayOf 103 = true := by kernel_rfl

abbrev tStrs : Nat := 36
/-- Heads put together. -/
def hdS (H : SRow) (h : List UInt8) : SRow := if h ∈ H then H else H ++ [h]
def hdF : SRow → SRow → SRow
  | H, [] => H
  | H, h :: r => hdF (hdS H h) r
theorem hdS_len (H : SRow) (h : List UInt8) : H.length ≤ (hdS H h).length ∧ (hdS H h).length ≤ H.length + 1 := by
  unfold hdS; split <;> simp
theorem hdF_len : ∀ (r H : SRow), H.length ≤ (hdF H r).length ∧ (hdF H r).length ≤ H.length + r.length
  | [], H => by simp [hdF]
  | h :: r, H => by
    have h1 := hdS_len H h
    have h2 := hdF_len r (hdS H h)
    simp only [hdF, List.length_cons]
    omega
theorem hdS_sub (H : SRow) (h : List UInt8) : (∀ x ∈ H, x ∈ hdS H h) ∧ h ∈ hdS H h := by
  unfold hdS
  split
  · rename_i hm; exact ⟨fun x hx => hx, hm⟩
  · exact ⟨fun x hx => List.mem_append_left _ hx, by simp⟩
theorem hdF_sub : ∀ (r H : SRow), (∀ x ∈ H, x ∈ hdF H r) ∧ ∀ x ∈ r, x ∈ hdF H r
  | [], H => by simp [hdF]
  | h :: r, H => by
    have h1 := hdS_sub H h
    have h2 := hdF_sub r (hdS H h)
    refine ⟨fun x hx => h2.1 x (h1.1 x hx), fun x hx => ?_⟩
    rcases List.mem_cons.1 hx with rfl | hx
    · exact h2.1 _ h1.2
    · exact h2.2 x hx
theorem ixO_lt {x : List UInt8} : ∀ {l : SRow}, x ∈ l → ixO x l < l.length
  | [], h => by cases h
  | y :: r, h => by
    rw [ixO]
    split
    · simp
    · rename_i hxy
      have := ixO_lt ((List.mem_cons.1 h).resolve_left hxy)
      simp only [List.length_cons]; omega
theorem IndexIn_ok (l : SRow) (x : List UInt8) (hl : l.length ≤ 1000000000) (hx : x ∈ l) : PCall Tryd.prog E0 18 [.sl 1 (strE l), .str x] (· = int (ixO x l : Nat)) := by
  have h := IndexS_ok l x hl
  rwa [idxS_at, if_pos (ixO_lt hx)] at h
def setK (H b0 o : SRow) : Nat → SRow → SRow
  | 0, w => w
  | k + 1, w => (setK H b0 o k w).set (ixO (b0.getD k []) H) (o.getD k [])
theorem setK_len (H b0 o w : SRow) : ∀ k, (setK H b0 o k w).length = w.length
  | 0 => rfl
  | k + 1 => by rw [setK, List.length_set, setK_len H b0 o w k]
def overK (H b0 : SRow) (bs : Tab) (x : List UInt8) : Nat → SRow → SRow
  | 0, w => w
  | m + 1, w => if (bs.getD m []).headD [] = x then setK H b0 (bs.getD m []) b0.length (overK H b0 bs x m w) else overK H b0 bs x m w
theorem overK_len (H b0 : SRow) (bs : Tab) (x : List UInt8) (w : SRow) : ∀ m, (overK H b0 bs x m w).length = w.length
  | 0 => rfl
  | m + 1 => by
    rw [overK]
    split
    · rw [setK_len, overK_len H b0 bs x w m]
    · exact overK_len H b0 bs x w m
def rowB (n : Nat) (r : SRow) : SRow := r ++ List.replicate (n - r.length) []
def rowO (H b0 : SRow) (bs : Tab) (r : SRow) : SRow := overK H b0 bs (r.headD []) bs.length (rowB H.length r)
def ovH (a b : Tab) : SRow := hdF (a.headD []) (b.headD [])
def ovT (a b : Tab) : Tab := ovH a b :: (a.drop 1).map (rowO (ovH a b) (b.headD []) (b.drop 1))
def ovR (a b : Tab) : PV := if ovF a b = 0 then if 30 < (ovH a b).length then .tup [.sl 1 [], int 2] else .tup [.sl 1 (tbE (ovT a b)), int 0] else .tup [.sl 1 [], int (ovF a b)]
theorem ovF_zero {a b : Tab} (h : ovF a b = 0) : ov0 a b = 0 ∧ dupT a = false ∧ dupT b = false ∧ key0 a = key0 b ∧ missT a b = false := by
  unfold ovF at h
  by_cases h1 : ovE a b = 0
  · rw [if_pos h1] at h
    have h5 : missT a b = false := by cases hm : missT a b; rfl; rw [hm] at h; cases h
    unfold ovE at h1
    by_cases h2 : ov0 a b = 0
    · rw [if_pos h2] at h1
      by_cases h3 : (dupT a || dupT b) = true
      · rw [if_pos h3] at h1; cases h1
      · rw [if_neg h3] at h1
        by_cases h4 : key0 a = key0 b
        · have h3 : (dupT a || dupT b) = false := by simpa using h3
          rw [Bool.or_eq_false_iff] at h3
          exact ⟨h2, h3.1, h3.2, h4, h5⟩
        · rw [if_neg h4] at h1; cases h1
    · rw [if_neg h2] at h1; exact absurd h1 h2
  · rw [if_neg h1] at h; exact absurd h h1
set_option maxHeartbeats 8000000 in
set_option maxRecDepth 100000 in
theorem OverlayOf_ok (a b : Tab) (ha : TabB a) (hb : TabB b) : PCall Tryd.prog E0 7 [.sl 1 (tbE a), .sl 1 (tbE b)] (· = ovR a b) := by
  refine pcallF mixed Tryd.func7 ck_chaseref1_OverlayOf ?_
  simp only [a0, l0, OS.ao, List.map_cons, List.map_nil, List.length_cons, List.length_nil, List.cons_append, List.nil_append, Nat.reduceSub, Nat.reduceAdd, List.replicate_succ, List.replicate_zero, ir_chaseref1_OverlayOf, rs_chaseref1_OverlayOf, ZZ, YY, Ze, ite_true, ite_false, forall_const, reduceCtorEq, Nat.reduceAdd, Nat.reduceMul, Nat.reduceLeDiff, Nat.reduceLT, Nat.reduceEqDiff]
  refine use1 (OverlayFault_ok a b ha hb) rfl (.inl rfl) ?_
  by_cases h0 : ovF a b = 0
  rotate_left
  · have hd : decide (ovF a b = 0) = false := decide_eq_false h0
    simp only [ZZ, YY, Ze, ite_true, ite_false, forall_const, reduceCtorEq, Nat.reduceAdd, Nat.reduceMul, Nat.reduceLeDiff, Nat.reduceLT, Nat.reduceEqDiff, hd]
    rw [ovR, if_neg h0]
  have hd : decide (ovF a b = 0) = true := decide_eq_true h0
  obtain ⟨hv0, _, _, _, _⟩ := ovF_zero h0
  obtain ⟨la, lb, na, nb⟩ := ov0_zero hv0
  obtain ⟨a1, a2⟩ := loadE_zero la
  obtain ⟨b1, b2⟩ := loadE_zero lb
  have ga : (tbE a).getD (Int.toNat 0) [] = _ := tbE_get (head_some na)
  have gb : (tbE b).getD (Int.toNat 0) [] = _ := tbE_get (head_some nb)
  have ra := a2 _ (List.mem_of_getElem? (head_some na))
  have rb := b2 _ (List.mem_of_getElem? (head_some nb))
  rw [ovR, if_pos h0]
  simp only [ZZ, YY, Ze, ite_true, ite_false, forall_const, reduceCtorEq, Nat.reduceAdd, Nat.reduceMul, Nat.reduceLeDiff, Nat.reduceLT, Nat.reduceEqDiff, hd, ga, tbE_len]
  ((repeat' (with_reducible apply And.intro)) <;> try ((first | first | assumption | trivial | exact (fun hq => by rw [hq]; rfl) | exact i64_of (by omega) (by omega) | omega | (simp; done) | (simp; omega) | (intro hsc; have hs0 := hsc; (try have hsd := of_decide_eq_true hsc); (try simp only [Bool.not_eq_true', Bool.or_eq_false_iff, Bool.and_eq_true, Bool.or_eq_true, decide_eq_true_eq, decide_eq_false_iff_not] at hsc); (repeat' (with_reducible apply And.intro)) <;> (first | assumption | trivial | exact (fun hq => by rw [hq]; rfl) | exact i64_of (by omega) (by omega) | omega | (simp; done) | (simp; omega) | (intro hse; simp [hse, hs0]; done) | (intro hse; simp only [hse, hs0, Bool.true_and, Bool.and_true, Bool.not_false, Bool.not_true, Bool.and_self]; done))))))
  refine useF (CloneS_ok (strE (a.headD [])) (by rw [strE_len]; omega)) rfl rfl ?_
  rintro es rfl
  simp only [ZZ, YY, Ze, ite_true, ite_false, forall_const, reduceCtorEq, Nat.reduceAdd, Nat.reduceMul, Nat.reduceLeDiff, Nat.reduceLT, Nat.reduceEqDiff, gb, tbE_len, strE_len]
  ((repeat' (with_reducible apply And.intro)) <;> try ((first | first | assumption | trivial | exact (fun hq => by rw [hq]; rfl) | exact i64_of (by omega) (by omega) | omega | (simp; done) | (simp; omega) | (intro hsc; have hs0 := hsc; (try have hsd := of_decide_eq_true hsc); (try simp only [Bool.not_eq_true', Bool.or_eq_false_iff, Bool.and_eq_true, Bool.or_eq_true, decide_eq_true_eq, decide_eq_false_iff_not] at hsc); (repeat' (with_reducible apply And.intro)) <;> (first | assumption | trivial | exact (fun hq => by rw [hq]; rfl) | exact i64_of (by omega) (by omega) | omega | (simp; done) | (simp; omega) | (intro hse; simp [hse, hs0]; done) | (intro hse; simp only [hse, hs0, Bool.true_and, Bool.and_true, Bool.not_false, Bool.not_true, Bool.and_self]; done))))))
  have hT : ovT a b = ovH a b :: (a.drop 1).map (rowO (ovH a b) (b.headD []) (b.drop 1)) := rfl
  rw [hT]
  have hH : ovH a b = hdF (a.headD []) (b.headD []) := rfl
  have hHl := hdF_len (b.headD []) (a.headD [])
  have hHs := (hdF_sub (b.headD []) (a.headD [])).2
  rw [← hH] at hHl hHs
  generalize ovH a b = H at *
  generalize b.headD [] = b0 at *
  generalize a.headD [] = a0 at *
  refine loop_intro (fun n fr L => ∃ (k : Nat) (G : SRow), k ≤ b0.length ∧ n = b0.length - k ∧ (H = hdF G (b0.drop k)) ∧ (G.length ≤ 30 + k) ∧ fr = [.p (.sl 1 (tbE a)), .p (.sl 1 (tbE b)), .any, .any, .any, .any, .any, .row (.l 27), .any, .any, .any, .any, .any, .any, .any, .any, .any, .any, .any, .any, .any, .any, .any, .any, .any, .any, .any, .any, .any, .any, .p (.sl 1 (strE b0)), .p (int (b0.length : Nat)), .p (int (k : Nat)), .any, .any, .any, .any, .any, .any, .any, .any, .any, .any, .any, .any, .any, .any, .any, .any, .any, .any, .any, .any, .any, .any, .any, .any, .any, .any, .any, .any, .any, .any, .any, .any, .any, .any, .any, .any, .any, .any, .any, .any, .any, .any, .any, .any, .any, .any, .any, .any, .any, .any, .any, .any, .any, .any, .any, .any, .any, .any, .any, .any, .any, .any, .any, .any, .any, .any, .any, .any, .any, .any] ∧ L = [(.l 27, .row (strE G) tStr 1 true)]) (b0.length) [.p (.sl 1 (tbE a)), .p (.sl 1 (tbE b)), .any, .any, .any, .any, .any, .row (.l 27), .any, .any, .any, .any, .any, .any, .any, .any, .any, .any, .any, .any, .any, .any, .any, .any, .any, .any, .any, .any, .any, .any, .p (.sl 1 (strE b0)), .p (int (b0.length : Nat)), .p (int (0 : Nat)), .any, .any, .any, .any, .any, .any, .any, .any, .any, .any, .any, .any, .any, .any, .any, .any, .any, .any, .any, .any, .any, .any, .any, .any, .any, .any, .any, .any, .any, .any, .any, .any, .any, .any, .any, .any, .any, .any, .any, .any, .any, .any, .any, .any, .any, .any, .any, .any, .any, .any, .any, .any, .any, .any, .any, .any, .any, .any, .any, .any, .any, .any, .any, .any, .any, .any, .any, .any, .any, .any] [(.l 27, .row (strE a0) tStr 1 true)] (by simp only [ZZ, YY, Ze, ite_true, ite_false, forall_const, reduceCtorEq, Nat.reduceAdd, Nat.reduceMul, Nat.reduceLeDiff, Nat.reduceLT, Nat.reduceEqDiff, strE_len]; try trivial) (by (simp only [ZZ, YY, Ze, ite_true, ite_false, forall_const, reduceCtorEq, Nat.reduceAdd, Nat.reduceMul, Nat.reduceLeDiff, Nat.reduceLT, Nat.reduceEqDiff]; try trivial)) ⟨0, a0, by omega, by omega, by simpa using hH, by omega, rfl, rfl⟩ ?_
  rintro n fr L ⟨k, G, hk, rfl, hG, hGl, rfl, rfl⟩
  simp only [ir_chaseref1_OverlayOf_L0, ZZ, YY, Ze, ite_true, ite_false, forall_const, reduceCtorEq, Nat.reduceAdd, Nat.reduceMul, Nat.reduceLeDiff, Nat.reduceLT, Nat.reduceEqDiff]
  refine br ?_ ?_
  · intro h
    have hlt : k < b0.length := by have := of_decide_eq_true h; omega
    obtain ⟨x, hx⟩ : ∃ x, b0[k]? = some x := ⟨_, List.getElem?_eq_getElem hlt⟩
    have hg : (strE b0).getD k [] = [.str x] := strE_get hx
    rw [drop_cons hx, hdF] at hG
    have e3 : ∀ (l : List (List UInt8)) (s : List UInt8), strE l ++ [[PV.str s]] = strE (l ++ [s]) := by intro l s; simp [strE]
    simp only [ZZ, YY, Ze, ite_true, ite_false, forall_const, reduceCtorEq, Nat.reduceAdd, Nat.reduceMul, Nat.reduceLeDiff, Nat.reduceLT, Nat.reduceEqDiff, hg, strE_len]
    ((repeat' (with_reducible apply And.intro)) <;> try ((first | first | assumption | trivial | exact (fun hq => by rw [hq]; rfl) | exact i64_of (by omega) (by omega) | omega | (simp; done) | (simp; omega) | (intro hsc; have hs0 := hsc; (try have hsd := of_decide_eq_true hsc); (try simp only [Bool.not_eq_true', Bool.or_eq_false_iff, Bool.and_eq_true, Bool.or_eq_true, decide_eq_true_eq, decide_eq_false_iff_not] at hsc); (repeat' (with_reducible apply And.intro)) <;> (first | assumption | trivial | exact (fun hq => by rw [hq]; rfl) | exact i64_of (by omega) (by omega) | omega | (simp; done) | (simp; omega) | (intro hse; simp [hse, hs0]; done) | (intro hse; simp only [hse, hs0, Bool.true_and, Bool.and_true, Bool.not_false, Bool.not_true, Bool.and_self]; done))))))
    refine use1 (ContainsS_ok G x (by omega)) rfl (.inr rfl) ?_
    simp only [ZZ, YY, Ze, ite_true, ite_false, forall_const, reduceCtorEq, Nat.reduceAdd, Nat.reduceMul, Nat.reduceLeDiff, Nat.reduceLT, Nat.reduceEqDiff]
    refine br ?_ ?_
    · intro hm
      have hm : x ∉ G := by intro e; rw [decide_eq_true e] at hm; cases hm
      rw [hdS, if_neg hm] at hG
      simp only [ZZ, YY, Ze, ite_true, ite_false, forall_const, reduceCtorEq, Nat.reduceAdd, Nat.reduceMul, Nat.reduceLeDiff, Nat.reduceLT, Nat.reduceEqDiff, e3, strE_len]
      ((repeat' (with_reducible apply And.intro)) <;> try ((first | first | assumption | trivial | exact (fun hq => by rw [hq]; rfl) | exact i64_of (by omega) (by omega) | omega | (simp; done) | (simp; omega) | (intro hsc; have hs0 := hsc; (try have hsd := of_decide_eq_true hsc); (try simp only [Bool.not_eq_true', Bool.or_eq_false_iff, Bool.and_eq_true, Bool.or_eq_true, decide_eq_true_eq, decide_eq_false_iff_not] at hsc); (repeat' (with_reducible apply And.intro)) <;> (first | assumption | trivial | exact (fun hq => by rw [hq]; rfl) | exact i64_of (by omega) (by omega) | omega | (simp; done) | (simp; omega) | (intro hse; simp [hse, hs0]; done) | (intro hse; simp only [hse, hs0, Bool.true_and, Bool.and_true, Bool.not_false, Bool.not_true, Bool.and_self]; done))))))
      refine cut_same (by simp only [ZZ, YY, Ze, ite_true, ite_false, forall_const, reduceCtorEq, Nat.reduceAdd, Nat.reduceMul, Nat.reduceLeDiff, Nat.reduceLT, Nat.reduceEqDiff]) ?_
      simp only [ZZ, YY, Ze, ite_true, ite_false, forall_const, reduceCtorEq, Nat.reduceAdd, Nat.reduceMul, Nat.reduceLeDiff, Nat.reduceLT, Nat.reduceEqDiff]
      ((repeat' (with_reducible apply And.intro)) <;> try ((first | first | assumption | trivial | exact (fun hq => by rw [hq]; rfl) | exact i64_of (by omega) (by omega) | omega | (simp; done) | (simp; omega) | (intro hsc; have hs0 := hsc; (try have hsd := of_decide_eq_true hsc); (try simp only [Bool.not_eq_true', Bool.or_eq_false_iff, Bool.and_eq_true, Bool.or_eq_true, decide_eq_true_eq, decide_eq_false_iff_not] at hsc); (repeat' (with_reducible apply And.intro)) <;> (first | assumption | trivial | exact (fun hq => by rw [hq]; rfl) | exact i64_of (by omega) (by omega) | omega | (simp; done) | (simp; omega) | (intro hse; simp [hse, hs0]; done) | (intro hse; simp only [hse, hs0, Bool.true_and, Bool.and_true, Bool.not_false, Bool.not_true, Bool.and_self]; done))))))
      refine end_round (b0.length - (k + 1)) [.p (.sl 1 (tbE a)), .p (.sl 1 (tbE b)), .any, .any, .any, .any, .any, .row (.l 27), .any, .any, .any, .any, .any, .any, .any, .any, .any, .any, .any, .any, .any, .any, .any, .any, .any, .any, .any, .any, .any, .any, .p (.sl 1 (strE b0)), .p (int (b0.length : Nat)), .p (int ((k + 1) : Nat)), .any, .any, .any, .any, .any, .any, .any, .any, .any, .any, .any, .any, .any, .any, .any, .any, .any, .any, .any, .any, .any, .any, .any, .any, .any, .any, .any, .any, .any, .any, .any, .any, .any, .any, .any, .any, .any, .any, .any, .any, .any, .any, .any, .any, .any, .any, .any, .any, .any, .any, .any, .any, .any, .any, .any, .any, .any, .any, .any, .any, .any, .any, .any, .any, .any, .any, .any, .any, .any, .any] [(.l 27, .row (strE (G ++ [x])) tStr 1 true)] (by omega) (by (simp only [ZZ, YY, Ze, ite_true, ite_false, forall_const, reduceCtorEq, Nat.reduceAdd, Nat.reduceMul, Nat.reduceLeDiff, Nat.reduceLT, Nat.reduceEqDiff]; try trivial)) (by (simp only [ZZ, YY, Ze, ite_true, ite_false, forall_const, reduceCtorEq, Nat.reduceAdd, Nat.reduceMul, Nat.reduceLeDiff, Nat.reduceLT, Nat.reduceEqDiff]; try trivial)) ⟨k + 1, G ++ [x], by omega, rfl, hG, by simp; omega, rfl, rfl⟩
    · intro hm
      have hm : x ∈ G := by
        by_cases e : x ∈ G
        · exact e
        · rw [decide_eq_false e] at hm; cases hm
      rw [hdS, if_pos hm] at hG
      simp only [ZZ, YY, Ze, ite_true, ite_false, forall_const, reduceCtorEq, Nat.reduceAdd, Nat.reduceMul, Nat.reduceLeDiff, Nat.reduceLT, Nat.reduceEqDiff]
      refine cut_same (by simp only [ZZ, YY, Ze, ite_true, ite_false, forall_const, reduceCtorEq, Nat.reduceAdd, Nat.reduceMul, Nat.reduceLeDiff, Nat.reduceLT, Nat.reduceEqDiff]) ?_
      simp only [ZZ, YY, Ze, ite_true, ite_false, forall_const, reduceCtorEq, Nat.reduceAdd, Nat.reduceMul, Nat.reduceLeDiff, Nat.reduceLT, Nat.reduceEqDiff]
      ((repeat' (with_reducible apply And.intro)) <;> try ((first | first | assumption | trivial | exact (fun hq => by rw [hq]; rfl) | exact i64_of (by omega) (by omega) | omega | (simp; done) | (simp; omega) | (intro hsc; have hs0 := hsc; (try have hsd := of_decide_eq_true hsc); (try simp only [Bool.not_eq_true', Bool.or_eq_false_iff, Bool.and_eq_true, Bool.or_eq_true, decide_eq_true_eq, decide_eq_false_iff_not] at hsc); (repeat' (with_reducible apply And.intro)) <;> (first | assumption | trivial | exact (fun hq => by rw [hq]; rfl) | exact i64_of (by omega) (by omega) | omega | (simp; done) | (simp; omega) | (intro hse; simp [hse, hs0]; done) | (intro hse; simp only [hse, hs0, Bool.true_and, Bool.and_true, Bool.not_false, Bool.not_true, Bool.and_self]; done))))))
      refine end_round (b0.length - (k + 1)) [.p (.sl 1 (tbE a)), .p (.sl 1 (tbE b)), .any, .any, .any, .any, .any, .row (.l 27), .any, .any, .any, .any, .any, .any, .any, .any, .any, .any, .any, .any, .any, .any, .any, .any, .any, .any, .any, .any, .any, .any, .p (.sl 1 (strE b0)), .p (int (b0.length : Nat)), .p (int ((k + 1) : Nat)), .any, .any, .any, .any, .any, .any, .any, .any, .any, .any, .any, .any, .any, .any, .any, .any, .any, .any, .any, .any, .any, .any, .any, .any, .any, .any, .any, .any, .any, .any, .any, .any, .any, .any, .any, .any, .any, .any, .any, .any, .any, .any, .any, .any, .any, .any, .any, .any, .any, .any, .any, .any, .any, .any, .any, .any, .any, .any, .any, .any, .any, .any, .any, .any, .any, .any, .any, .any, .any, .any] [(.l 27, .row (strE G) tStr 1 true)] (by omega) (by (simp only [ZZ, YY, Ze, ite_true, ite_false, forall_const, reduceCtorEq, Nat.reduceAdd, Nat.reduceMul, Nat.reduceLeDiff, Nat.reduceLT, Nat.reduceEqDiff]; try trivial)) (by (simp only [ZZ, YY, Ze, ite_true, ite_false, forall_const, reduceCtorEq, Nat.reduceAdd, Nat.reduceMul, Nat.reduceLeDiff, Nat.reduceLT, Nat.reduceEqDiff]; try trivial)) ⟨k + 1, G, by omega, rfl, hG, by omega, rfl, rfl⟩
  · intro h
    have hge : k = b0.length := by have := of_decide_eq_false h; omega
    rw [hge, List.drop_length, hdF] at hG
    subst hG
    simp only [ZZ, YY, Ze, ite_true, ite_false, forall_const, reduceCtorEq, Nat.reduceAdd, Nat.reduceMul, Nat.reduceLeDiff, Nat.reduceLT, Nat.reduceEqDiff, strE_len]
    refine br ?_ ?_
    · intro hb30
      have := of_decide_eq_true hb30
      simp only [ZZ, YY, Ze, ite_true, ite_false, forall_const, reduceCtorEq, Nat.reduceAdd, Nat.reduceMul, Nat.reduceLeDiff, Nat.reduceLT, Nat.reduceEqDiff]
      rw [if_pos (by omega)]
    intro hb30
    have hH30 : ¬ 30 < H.length := by have := of_decide_eq_false hb30; omega
    rw [if_neg hH30]
    obtain ⟨e1, e2⟩ := tb_tail a na
    have hsing : ([[PV.sl 1 (strE H)]] : List (List PV)) = tbE [H] := rfl
    simp only [ZZ, YY, Ze, ite_true, ite_false, forall_const, reduceCtorEq, Nat.reduceAdd, Nat.reduceMul, Nat.reduceLeDiff, Nat.reduceLT, Nat.reduceEqDiff, tbE_len, e1, e2, hsing]
    ((repeat' (with_reducible apply And.intro)) <;> try ((first | first | assumption | trivial | exact (fun hq => by rw [hq]; rfl) | exact i64_of (by omega) (by omega) | omega | (simp; done) | (simp; omega) | (intro hsc; have hs0 := hsc; (try have hsd := of_decide_eq_true hsc); (try simp only [Bool.not_eq_true', Bool.or_eq_false_iff, Bool.and_eq_true, Bool.or_eq_true, decide_eq_true_eq, decide_eq_false_iff_not] at hsc); (repeat' (with_reducible apply And.intro)) <;> (first | assumption | trivial | exact (fun hq => by rw [hq]; rfl) | exact i64_of (by omega) (by omega) | omega | (simp; done) | (simp; omega) | (intro hse; simp [hse, hs0]; done) | (intro hse; simp only [hse, hs0, Bool.true_and, Bool.and_true, Bool.not_false, Bool.not_true, Bool.and_self]; done))))))
    have d1 : (a.drop 1).length ≤ 2001 := by simp; omega
    have d2 : ∀ r ∈ a.drop 1, 1 ≤ r.length ∧ r.length ≤ H.length := fun r hr => by have := a2 r (List.mem_of_mem_drop hr); omega
    have d3 : (b.drop 1).length ≤ 2001 := by simp; omega
    have d4 : ∀ r ∈ b.drop 1, 1 ≤ r.length ∧ r.length = b0.length := fun r hr => by have := b2 r (List.mem_of_mem_drop hr); omega
    obtain ⟨g1, g2⟩ := tb_tail b nb
    clear e1 e2 h hge hk hH hGl
    generalize a.drop 1 = u at *
    generalize b.drop 1 = v at *
    refine loop_intro (fun n fr L => ∃ (k : Nat), k ≤ u.length ∧ n = u.length - k ∧ fr = [.p (.sl 1 (tbE a)), .p (.sl 1 (tbE b)), .any, .any, .any, .any, .any, .p (.sl 1 (strE H)), .any, .any, .row (.l 49), .any, .any, .any, .any, .any, .any, .any, .any, .any, .any, .any, .any, .any, .any, .any, .any, .any, .any, .any, .any, .any, .any, .any, .any, .any, .any, .any, .any, .any, .any, .any, .any, .any, .any, .any, .any, .any, .any, .any, .any, .p (.sl 1 (tbE u)), .p (int (u.length : Nat)), .p (int (k : Nat)), .any, .any, .any, .any, .any, .any, .any, .any, .any, .any, .any, .any, .any, .any, .any, .any, .any, .any, .any, .any, .any, .any, .any, .any, .any, .any, .any, .any, .any, .any, .any, .any, .any, .any, .any, .any, .any, .any, .any, .any, .any, .any, .any, .any, .any, .any, .any, .any, .any] ∧ L = [(.l 49, .row (tbE (H :: (u.take k).map (rowO H b0 v))) tStrs 1 true)]) (u.length) [.p (.sl 1 (tbE a)), .p (.sl 1 (tbE b)), .any, .any, .any, .any, .any, .p (.sl 1 (strE H)), .any, .any, .row (.l 49), .any, .any, .any, .any, .any, .any, .any, .any, .any, .any, .any, .any, .any, .any, .any, .any, .any, .any, .any, .any, .any, .any, .any, .any, .any, .any, .any, .any, .any, .any, .any, .any, .any, .any, .any, .any, .any, .any, .any, .any, .p (.sl 1 (tbE u)), .p (int (u.length : Nat)), .p (int (0 : Nat)), .any, .any, .any, .any, .any, .any, .any, .any, .any, .any, .any, .any, .any, .any, .any, .any, .any, .any, .any, .any, .any, .any, .any, .any, .any, .any, .any, .any, .any, .any, .any, .any, .any, .any, .any, .any, .any, .any, .any, .any, .any, .any, .any, .any, .any, .any, .any, .any, .any] [(.l 49, .row (tbE (H :: (u.take 0).map (rowO H b0 v))) tStrs 1 true)] (by simp only [ZZ, YY, Ze, ite_true, ite_false, forall_const, reduceCtorEq, Nat.reduceAdd, Nat.reduceMul, Nat.reduceLeDiff, Nat.reduceLT, Nat.reduceEqDiff, tbE_len]; try trivial) (by (simp only [ZZ, YY, Ze, ite_true, ite_false, forall_const, reduceCtorEq, Nat.reduceAdd, Nat.reduceMul, Nat.reduceLeDiff, Nat.reduceLT, Nat.reduceEqDiff]; try trivial)) ⟨0, by omega, by omega, rfl, rfl⟩ ?_
    rintro n fr L ⟨k, hk, rfl, rfl, rfl⟩
    simp only [ir_chaseref1_OverlayOf_L1, ZZ, YY, Ze, ite_true, ite_false, forall_const, reduceCtorEq, Nat.reduceAdd, Nat.reduceMul, Nat.reduceLeDiff, Nat.reduceLT, Nat.reduceEqDiff]
    refine br ?_ ?_
    · intro h
      have hlt : k < u.length := by have := of_decide_eq_true h; omega
      obtain ⟨r, hr⟩ : ∃ r, u[k]? = some r := ⟨_, List.getElem?_eq_getElem hlt⟩
      have hg := tbE_get hr
      obtain ⟨r1, r2⟩ := d2 r (List.mem_of_getElem? hr)
      have hgx : (strE r).getD (Int.toNat 0) [] = [.str (r.headD [])] := strE_get (headS_some r1)
      have hcp : (strE r).take (List.replicate H.length [PV.str []]).length ++ (List.replicate H.length [PV.str []]).drop r.length = strE (rowB H.length r) := by
        rw [List.length_replicate, List.take_of_length_le (by rw [strE_len]; exact r2), List.drop_replicate, rowB, strE_app]
        simp [strE]
      simp only [ZZ, YY, Ze, ite_true, ite_false, forall_const, reduceCtorEq, Nat.reduceAdd, Nat.reduceMul, Nat.reduceLeDiff, Nat.reduceLT, Nat.reduceEqDiff, hg, tbE_len, strE_len, g1, g2, hcp]
      ((repeat' (with_reducible apply And.intro)) <;> try ((first | first | assumption | trivial | exact (fun hq => by rw [hq]; rfl) | exact i64_of (by omega) (by omega) | omega | (simp; done) | (simp; omega) | (intro hsc; have hs0 := hsc; (try have hsd := of_decide_eq_true hsc); (try simp only [Bool.not_eq_true', Bool.or_eq_false_iff, Bool.and_eq_true, Bool.or_eq_true, decide_eq_true_eq, decide_eq_false_iff_not] at hsc); (repeat' (with_reducible apply And.intro)) <;> (first | assumption | trivial | exact (fun hq => by rw [hq]; rfl) | exact i64_of (by omega) (by omega) | omega | (simp; done) | (simp; omega) | (intro hse; simp [hse, hs0]; done) | (intro hse; simp only [hse, hs0, Bool.true_and, Bool.and_true, Bool.not_false, Bool.not_true, Bool.and_self]; done))))))
      refine loop_intro (fun n fr L => ∃ (q : Nat), q ≤ v.length ∧ n = v.length - q ∧ fr = [.p (.sl 1 (tbE a)), .p (.sl 1 (tbE b)), .any, .any, .any, .any, .any, .p (.sl 1 (strE H)), .any, .any, .row (.l 49), .any, .p (.sl 1 (strE r)), .row (.l 59), .any, .any, .any, .any, .any, .any, .any, .any, .any, .any, .any, .any, .any, .any, .any, .any, .any, .any, .any, .any, .any, .any, .any, .any, .any, .any, .any, .any, .any, .any, .any, .any, .any, .any, .any, .any, .any, .p (.sl 1 (tbE u)), .p (int (u.length : Nat)), .p (int (k : Nat)), .any, .any, .any, .any, .any, .any, .any, .any, .any, .any, .p (.sl 1 (tbE v)), .p (int (v.length : Nat)), .p (int (q : Nat)), .any, .any, .any, .any, .any, .any, .any, .any, .any, .any, .any, .any, .any, .any, .any, .any, .any, .any, .any, .any, .any, .any, .any, .any, .any, .any, .any, .any, .any, .any, .any, .any, .any, .any, .any, .any] ∧ L = [(.l 49, .row (tbE (H :: (u.take k).map (rowO H b0 v))) tStrs 1 true), (.l 59, .row (strE (overK H b0 v (r.headD []) q (rowB H.length r))) tStr 1 true)]) (v.length) [.p (.sl 1 (tbE a)), .p (.sl 1 (tbE b)), .any, .any, .any, .any, .any, .p (.sl 1 (strE H)), .any, .any, .row (.l 49), .any, .p (.sl 1 (strE r)), .row (.l 59), .any, .any, .any, .any, .any, .any, .any, .any, .any, .any, .any, .any, .any, .any, .any, .any, .any, .any, .any, .any, .any, .any, .any, .any, .any, .any, .any, .any, .any, .any, .any, .any, .any, .any, .any, .any, .any, .p (.sl 1 (tbE u)), .p (int (u.length : Nat)), .p (int (k : Nat)), .any, .any, .any, .any, .any, .any, .any, .any, .any, .any, .p (.sl 1 (tbE v)), .p (int (v.length : Nat)), .p (int (0 : Nat)), .any, .any, .any, .any, .any, .any, .any, .any, .any, .any, .any, .any, .any, .any, .any, .any, .any, .any, .any, .any, .any, .any, .any, .any, .any, .any, .any, .any, .any, .any, .any, .any, .any, .any, .any, .any] [(.l 49, .row (tbE (H :: (u.take k).map (rowO H b0 v))) tStrs 1 true), (.l 59, .row (strE (overK H b0 v (r.headD []) 0 (rowB H.length r))) tStr 1 true)] (by simp only [ZZ, YY, Ze, ite_true, ite_false, forall_const, reduceCtorEq, Nat.reduceAdd, Nat.reduceMul, Nat.reduceLeDiff, Nat.reduceLT, Nat.reduceEqDiff, tbE_len, overK]; try trivial) (by (simp only [ZZ, YY, Ze, ite_true, ite_false, forall_const, reduceCtorEq, Nat.reduceAdd, Nat.reduceMul, Nat.reduceLeDiff, Nat.reduceLT, Nat.reduceEqDiff]; try trivial)) ⟨0, by omega, by omega, rfl, rfl⟩ ?_
      rintro n fr L ⟨q, hq, rfl, rfl, rfl⟩
      simp only [ir_chaseref1_OverlayOf_L2, ZZ, YY, Ze, ite_true, ite_false, forall_const, reduceCtorEq, Nat.reduceAdd, Nat.reduceMul, Nat.reduceLeDiff, Nat.reduceLT, Nat.reduceEqDiff]
      refine br ?_ ?_
      · intro h2
        have hlt2 : q < v.length := by have := of_decide_eq_true h2; omega
        obtain ⟨o, ho⟩ : ∃ o, v[q]? = some o := ⟨_, List.getElem?_eq_getElem hlt2⟩
        have hgo := tbE_get ho
        obtain ⟨o1, o2⟩ := d4 o (List.mem_of_getElem? ho)
        have hgo0 : (strE o).getD (Int.toNat 0) [] = [.str (o.headD [])] := strE_get (headS_some o1)
        have hoD : v.getD q [] = o := by simp [List.getD, ho]
        have hstep : overK H b0 v (r.headD []) (q + 1) (rowB H.length r) = if o.headD [] = r.headD [] then setK H b0 o b0.length (overK H b0 v (r.headD []) q (rowB H.length r)) else overK H b0 v (r.headD []) q (rowB H.length r) := by rw [overK, hoD]
        have hwl : (overK H b0 v (r.headD []) q (rowB H.length r)).length = H.length := by rw [overK_len, rowB, List.length_append, List.length_replicate]; omega
        generalize hW : overK H b0 v (r.headD []) q (rowB H.length r) = W at *
        simp only [ZZ, YY, Ze, ite_true, ite_false, forall_const, reduceCtorEq, Nat.reduceAdd, Nat.reduceMul, Nat.reduceLeDiff, Nat.reduceLT, Nat.reduceEqDiff, hgo, gb, tbE_len, strE_len]
        ((repeat' (with_reducible apply And.intro)) <;> try ((first | first | assumption | trivial | exact (fun hq => by rw [hq]; rfl) | exact i64_of (by omega) (by omega) | omega | (simp; done) | (simp; omega) | (intro hsc; have hs0 := hsc; (try have hsd := of_decide_eq_true hsc); (try simp only [Bool.not_eq_true', Bool.or_eq_false_iff, Bool.and_eq_true, Bool.or_eq_true, decide_eq_true_eq, decide_eq_false_iff_not] at hsc); (repeat' (with_reducible apply And.intro)) <;> (first | assumption | trivial | exact (fun hq => by rw [hq]; rfl) | exact i64_of (by omega) (by omega) | omega | (simp; done) | (simp; omega) | (intro hse; simp [hse, hs0]; done) | (intro hse; simp only [hse, hs0, Bool.true_and, Bool.and_true, Bool.not_false, Bool.not_true, Bool.and_self]; done))))))
        have hw0 : strE W = strE (if o.headD [] = r.headD [] then setK H b0 o 0 W else W) := by split <;> rfl
        rw [hw0]
        refine loop_intro (fun n fr L => ∃ (j : Nat), j ≤ b0.length ∧ n = b0.length - j ∧ fr = [.p (.sl 1 (tbE a)), .p (.sl 1 (tbE b)), .any, .any, .any, .any, .any, .p (.sl 1 (strE H)), .any, .any, .row (.l 49), .any, .p (.sl 1 (strE r)), .row (.l 59), .any, .p (.sl 1 (strE o)), .any, .any, .any, .any, .any, .any, .any, .any, .any, .any, .any, .any, .any, .any, .any, .any, .any, .any, .any, .any, .any, .any, .any, .any, .any, .any, .any, .any, .any, .any, .any, .any, .any, .any, .any, .p (.sl 1 (tbE u)), .p (int (u.length : Nat)), .p (int (k : Nat)), .any, .any, .any, .any, .any, .any, .any, .any, .any, .any, .p (.sl 1 (tbE v)), .p (int (v.length : Nat)), .p (int (q : Nat)), .any, .any, .any, .any, .any, .p (.sl 1 (strE b0)), .p (int (b0.length : Nat)), .p (int (j : Nat)), .any, .any, .any, .any, .any, .any, .any, .any, .any, .any, .any, .any, .any, .any, .any, .any, .any, .any, .any, .any, .any, .any, .any, .any, .any, .any, .any, .any] ∧ L = [(.l 49, .row (tbE (H :: (u.take k).map (rowO H b0 v))) tStrs 1 true), (.l 59, .row (strE (if o.headD [] = r.headD [] then setK H b0 o j W else W)) tStr 1 true)]) (b0.length) [.p (.sl 1 (tbE a)), .p (.sl 1 (tbE b)), .any, .any, .any, .any, .any, .p (.sl 1 (strE H)), .any, .any, .row (.l 49), .any, .p (.sl 1 (strE r)), .row (.l 59), .any, .p (.sl 1 (strE o)), .any, .any, .any, .any, .any, .any, .any, .any, .any, .any, .any, .any, .any, .any, .any, .any, .any, .any, .any, .any, .any, .any, .any, .any, .any, .any, .any, .any, .any, .any, .any, .any, .any, .any, .any, .p (.sl 1 (tbE u)), .p (int (u.length : Nat)), .p (int (k : Nat)), .any, .any, .any, .any, .any, .any, .any, .any, .any, .any, .p (.sl 1 (tbE v)), .p (int (v.length : Nat)), .p (int (q : Nat)), .any, .any, .any, .any, .any, .p (.sl 1 (strE b0)), .p (int (b0.length : Nat)), .p (int (0 : Nat)), .any, .any, .any, .any, .any, .any, .any, .any, .any, .any, .any, .any, .any, .any, .any, .any, .any, .any, .any, .any, .any, .any, .any, .any, .any, .any, .any, .any] [(.l 49, .row (tbE (H :: (u.take k).map (rowO H b0 v))) tStrs 1 true), (.l 59, .row (strE (if o.headD [] = r.headD [] then setK H b0 o 0 W else W)) tStr 1 true)] (by simp only [ZZ, YY, Ze, ite_true, ite_false, forall_const, reduceCtorEq, Nat.reduceAdd, Nat.reduceMul, Nat.reduceLeDiff, Nat.reduceLT, Nat.reduceEqDiff, strE_len]; try trivial) (by (simp only [ZZ, YY, Ze, ite_true, ite_false, forall_const, reduceCtorEq, Nat.reduceAdd, Nat.reduceMul, Nat.reduceLeDiff, Nat.reduceLT, Nat.reduceEqDiff]; try trivial)) ⟨0, by omega, by omega, rfl, rfl⟩ ?_
        rintro n fr L ⟨j, hj, rfl, rfl, rfl⟩
        simp only [ir_chaseref1_OverlayOf_L3, ZZ, YY, Ze, ite_true, ite_false, forall_const, reduceCtorEq, Nat.reduceAdd, Nat.reduceMul, Nat.reduceLeDiff, Nat.reduceLT, Nat.reduceEqDiff]
        refine br ?_ ?_
        · intro h3
          have hlt3 : j < b0.length := by have := of_decide_eq_true h3; omega
          obtain ⟨x, hx⟩ : ∃ x, b0[j]? = some x := ⟨_, List.getElem?_eq_getElem hlt3⟩
          obtain ⟨y, hy⟩ : ∃ y, o[j]? = some y := ⟨_, List.getElem?_eq_getElem (by omega)⟩
          have hgx3 : (strE b0).getD j [] = [.str x] := strE_get hx
          have hgy3 : (strE o).getD j [] = [.str y] := strE_get hy
          have hxm := hHs x (List.mem_of_getElem? hx)
          have hxl := ixO_lt hxm
          have hxD : b0.getD j [] = x := by simp [List.getD, hx]
          have hyD : o.getD j [] = y := by simp [List.getD, hy]
          simp only [ZZ, YY, Ze, ite_true, ite_false, forall_const, reduceCtorEq, Nat.reduceAdd, Nat.reduceMul, Nat.reduceLeDiff, Nat.reduceLT, Nat.reduceEqDiff, hgx3, strE_len]
          ((repeat' (with_reducible apply And.intro)) <;> try ((first | first | assumption | trivial | exact (fun hq => by rw [hq]; rfl) | exact i64_of (by omega) (by omega) | omega | (simp; done) | (simp; omega) | (intro hsc; have hs0 := hsc; (try have hsd := of_decide_eq_true hsc); (try simp only [Bool.not_eq_true', Bool.or_eq_false_iff, Bool.and_eq_true, Bool.or_eq_true, decide_eq_true_eq, decide_eq_false_iff_not] at hsc); (repeat' (with_reducible apply And.intro)) <;> (first | assumption | trivial | exact (fun hq => by rw [hq]; rfl) | exact i64_of (by omega) (by omega) | omega | (simp; done) | (simp; omega) | (intro hse; simp [hse, hs0]; done) | (intro hse; simp only [hse, hs0, Bool.true_and, Bool.and_true, Bool.not_false, Bool.not_true, Bool.and_self]; done))))))
          refine drg0 ?_
          simp only [ZZ, YY, Ze, ite_true, ite_false, forall_const, reduceCtorEq, Nat.reduceAdd, Nat.reduceMul, Nat.reduceLeDiff, Nat.reduceLT, Nat.reduceEqDiff, hgo0, hgx, strE_len]
          ((repeat' (with_reducible apply And.intro)) <;> try ((first | first | assumption | trivial | exact (fun hq => by rw [hq]; rfl) | exact i64_of (by omega) (by omega) | omega | (simp; done) | (simp; omega) | (intro hsc; have hs0 := hsc; (try have hsd := of_decide_eq_true hsc); (try simp only [Bool.not_eq_true', Bool.or_eq_false_iff, Bool.and_eq_true, Bool.or_eq_true, decide_eq_true_eq, decide_eq_false_iff_not] at hsc); (repeat' (with_reducible apply And.intro)) <;> (first | assumption | trivial | exact (fun hq => by rw [hq]; rfl) | exact i64_of (by omega) (by omega) | omega | (simp; done) | (simp; omega) | (intro hse; simp [hse, hs0]; done) | (intro hse; simp only [hse, hs0, Bool.true_and, Bool.and_true, Bool.not_false, Bool.not_true, Bool.and_self]; done))))))
          refine br ?_ ?_
          · intro he
            have he : o.headD [] = r.headD [] := of_decide_eq_true he
            rw [show (if o.headD [] = r.headD [] then setK H b0 o j W else W) = setK H b0 o j W from if_pos he]
            have hsl : (setK H b0 o j W).length = H.length := by rw [setK_len, hwl]
            have hset : (strE (setK H b0 o j W)).set (ixO x H) (((strE (setK H b0 o j W)).getD (ixO x H) []).set 0 (.str y)) = strE (if o.headD [] = r.headD [] then setK H b0 o (j + 1) W else W) := by
              rw [strE_get (List.getElem?_eq_getElem (show ixO x H < (setK H b0 o j W).length by omega)), if_pos he, setK, hxD, hyD, strE, strE, List.map_set]
              rfl
            simp only [ZZ, YY, Ze, ite_true, ite_false, forall_const, reduceCtorEq, Nat.reduceAdd, Nat.reduceMul, Nat.reduceLeDiff, Nat.reduceLT, Nat.reduceEqDiff]
            refine drg1 (x1 := int (ixO x H : Nat)) ?_
            simp only [ZZ, YY, Ze, ite_true, ite_false, forall_const, reduceCtorEq, Nat.reduceAdd, Nat.reduceMul, Nat.reduceLeDiff, Nat.reduceLT, Nat.reduceEqDiff, hgy3, strE_len, hsl, hset]
            ((repeat' (with_reducible apply And.intro)) <;> try (first | exact usep (IndexIn_ok H x (by omega) hxm) rfl (.inl rfl) | (first | first | assumption | trivial | exact (fun hq => by rw [hq]; rfl) | exact i64_of (by omega) (by omega) | omega | (simp; done) | (simp; omega) | (intro hsc; have hs0 := hsc; (try have hsd := of_decide_eq_true hsc); (try simp only [Bool.not_eq_true', Bool.or_eq_false_iff, Bool.and_eq_true, Bool.or_eq_true, decide_eq_true_eq, decide_eq_false_iff_not] at hsc); (repeat' (with_reducible apply And.intro)) <;> (first | assumption | trivial | exact (fun hq => by rw [hq]; rfl) | exact i64_of (by omega) (by omega) | omega | (simp; done) | (simp; omega) | (intro hse; simp [hse, hs0]; done) | (intro hse; simp only [hse, hs0, Bool.true_and, Bool.and_true, Bool.not_false, Bool.not_true, Bool.and_self]; done))))))
            refine cut_same (by simp only [ZZ, YY, Ze, ite_true, ite_false, forall_const, reduceCtorEq, Nat.reduceAdd, Nat.reduceMul, Nat.reduceLeDiff, Nat.reduceLT, Nat.reduceEqDiff]) ?_
            simp only [ZZ, YY, Ze, ite_true, ite_false, forall_const, reduceCtorEq, Nat.reduceAdd, Nat.reduceMul, Nat.reduceLeDiff, Nat.reduceLT, Nat.reduceEqDiff]
            ((repeat' (with_reducible apply And.intro)) <;> try ((first | first | assumption | trivial | exact (fun hq => by rw [hq]; rfl) | exact i64_of (by omega) (by omega) | omega | (simp; done) | (simp; omega) | (intro hsc; have hs0 := hsc; (try have hsd := of_decide_eq_true hsc); (try simp only [Bool.not_eq_true', Bool.or_eq_false_iff, Bool.and_eq_true, Bool.or_eq_true, decide_eq_true_eq, decide_eq_false_iff_not] at hsc); (repeat' (with_reducible apply And.intro)) <;> (first | assumption | trivial | exact (fun hq => by rw [hq]; rfl) | exact i64_of (by omega) (by omega) | omega | (simp; done) | (simp; omega) | (intro hse; simp [hse, hs0]; done) | (intro hse; simp only [hse, hs0, Bool.true_and, Bool.and_true, Bool.not_false, Bool.not_true, Bool.and_self]; done))))))
            refine end_round (b0.length - (j + 1)) [.p (.sl 1 (tbE a)), .p (.sl 1 (tbE b)), .any, .any, .any, .any, .any, .p (.sl 1 (strE H)), .any, .any, .row (.l 49), .any, .p (.sl 1 (strE r)), .row (.l 59), .any, .p (.sl 1 (strE o)), .any, .any, .any, .any, .any, .any, .any, .any, .any, .any, .any, .any, .any, .any, .any, .any, .any, .any, .any, .any, .any, .any, .any, .any, .any, .any, .any, .any, .any, .any, .any, .any, .any, .any, .any, .p (.sl 1 (tbE u)), .p (int (u.length : Nat)), .p (int (k : Nat)), .any, .any, .any, .any, .any, .any, .any, .any, .any, .any, .p (.sl 1 (tbE v)), .p (int (v.length : Nat)), .p (int (q : Nat)), .any, .any, .any, .any, .any, .p (.sl 1 (strE b0)), .p (int (b0.length : Nat)), .p (int ((j + 1) : Nat)), .any, .any, .any, .any, .any, .any, .any, .any, .any, .any, .any, .any, .any, .any, .any, .any, .any, .any, .any, .any, .any, .any, .any, .any, .any, .any, .any, .any] [(.l 49, .row (tbE (H :: (u.take k).map (rowO H b0 v))) tStrs 1 true), (.l 59, .row (strE (if o.headD [] = r.headD [] then setK H b0 o (j + 1) W else W)) tStr 1 true)] (by omega) (by (simp only [ZZ, YY, Ze, ite_true, ite_false, forall_const, reduceCtorEq, Nat.reduceAdd, Nat.reduceMul, Nat.reduceLeDiff, Nat.reduceLT, Nat.reduceEqDiff]; try trivial)) (by (simp only [ZZ, YY, Ze, ite_true, ite_false, forall_const, reduceCtorEq, Nat.reduceAdd, Nat.reduceMul, Nat.reduceLeDiff, Nat.reduceLT, Nat.reduceEqDiff]; try trivial)) ⟨j + 1, by omega, rfl, rfl, rfl⟩
          · intro he
            have he : ¬ o.headD [] = r.headD [] := of_decide_eq_false he
            rw [show (if o.headD [] = r.headD [] then setK H b0 o j W else W) = (if o.headD [] = r.headD [] then setK H b0 o (j + 1) W else W) from by rw [if_neg he, if_neg he]]
            simp only [ZZ, YY, Ze, ite_true, ite_false, forall_const, reduceCtorEq, Nat.reduceAdd, Nat.reduceMul, Nat.reduceLeDiff, Nat.reduceLT, Nat.reduceEqDiff]
            refine cut_same (by simp only [ZZ, YY, Ze, ite_true, ite_false, forall_const, reduceCtorEq, Nat.reduceAdd, Nat.reduceMul, Nat.reduceLeDiff, Nat.reduceLT, Nat.reduceEqDiff]) ?_
            simp only [ZZ, YY, Ze, ite_true, ite_false, forall_const, reduceCtorEq, Nat.reduceAdd, Nat.reduceMul, Nat.reduceLeDiff, Nat.reduceLT, Nat.reduceEqDiff]
            ((repeat' (with_reducible apply And.intro)) <;> try ((first | first | assumption | trivial | exact (fun hq => by rw [hq]; rfl) | exact i64_of (by omega) (by omega) | omega | (simp; done) | (simp; omega) | (intro hsc; have hs0 := hsc; (try have hsd := of_decide_eq_true hsc); (try simp only [Bool.not_eq_true', Bool.or_eq_false_iff, Bool.and_eq_true, Bool.or_eq_true, decide_eq_true_eq, decide_eq_false_iff_not] at hsc); (repeat' (with_reducible apply And.intro)) <;> (first | assumption | trivial | exact (fun hq => by rw [hq]; rfl) | exact i64_of (by omega) (by omega) | omega | (simp; done) | (simp; omega) | (intro hse; simp [hse, hs0]; done) | (intro hse; simp only [hse, hs0, Bool.true_and, Bool.and_true, Bool.not_false, Bool.not_true, Bool.and_self]; done))))))
            refine end_round (b0.length - (j + 1)) [.p (.sl 1 (tbE a)), .p (.sl 1 (tbE b)), .any, .any, .any, .any, .any, .p (.sl 1 (strE H)), .any, .any, .row (.l 49), .any, .p (.sl 1 (strE r)), .row (.l 59), .any, .p (.sl 1 (strE o)), .any, .any, .any, .any, .any, .any, .any, .any, .any, .any, .any, .any, .any, .any, .any, .any, .any, .any, .any, .any, .any, .any, .any, .any, .any, .any, .any, .any, .any, .any, .any, .any, .any, .any, .any, .p (.sl 1 (tbE u)), .p (int (u.length : Nat)), .p (int (k : Nat)), .any, .any, .any, .any, .any, .any, .any, .any, .any, .any, .p (.sl 1 (tbE v)), .p (int (v.length : Nat)), .p (int (q : Nat)), .any, .any, .any, .any, .any, .p (.sl 1 (strE b0)), .p (int (b0.length : Nat)), .p (int ((j + 1) : Nat)), .any, .any, .any, .any, .any, .any, .any, .any, .any, .any, .any, .any, .any, .any, .any, .any, .any, .any, .any, .any, .any, .any, .any, .any, .any, .any, .any, .any] [(.l 49, .row (tbE (H :: (u.take k).map (rowO H b0 v))) tStrs 1 true), (.l 59, .row (strE (if o.headD [] = r.headD [] then setK H b0 o (j + 1) W else W)) tStr 1 true)] (by omega) (by (simp only [ZZ, YY, Ze, ite_true, ite_false, forall_const, reduceCtorEq, Nat.reduceAdd, Nat.reduceMul, Nat.reduceLeDiff, Nat.reduceLT, Nat.reduceEqDiff]; try trivial)) (by (simp only [ZZ, YY, Ze, ite_true, ite_false, forall_const, reduceCtorEq, Nat.reduceAdd, Nat.reduceMul, Nat.reduceLeDiff, Nat.reduceLT, Nat.reduceEqDiff]; try trivial)) ⟨j + 1, by omega, rfl, rfl, rfl⟩
        · intro h3
          have hge3 : j = b0.length := by have := of_decide_eq_false h3; omega
          rw [hge3, ← hstep]
          simp only [ZZ, YY, Ze, ite_true, ite_false, forall_const, reduceCtorEq, Nat.reduceAdd, Nat.reduceMul, Nat.reduceLeDiff, Nat.reduceLT, Nat.reduceEqDiff]
          ((repeat' (with_reducible apply And.intro)) <;> try ((first | first | assumption | trivial | exact (fun hq => by rw [hq]; rfl) | exact i64_of (by omega) (by omega) | omega | (simp; done) | (simp; omega) | (intro hsc; have hs0 := hsc; (try have hsd := of_decide_eq_true hsc); (try simp only [Bool.not_eq_true', Bool.or_eq_false_iff, Bool.and_eq_true, Bool.or_eq_true, decide_eq_true_eq, decide_eq_false_iff_not] at hsc); (repeat' (with_reducible apply And.intro)) <;> (first | assumption | trivial | exact (fun hq => by rw [hq]; rfl) | exact i64_of (by omega) (by omega) | omega | (simp; done) | (simp; omega) | (intro hse; simp [hse, hs0]; done) | (intro hse; simp only [hse, hs0, Bool.true_and, Bool.and_true, Bool.not_false, Bool.not_true, Bool.and_self]; done))))))
          refine end_round (v.length - (q + 1)) [.p (.sl 1 (tbE a)), .p (.sl 1 (tbE b)), .any, .any, .any, .any, .any, .p (.sl 1 (strE H)), .any, .any, .row (.l 49), .any, .p (.sl 1 (strE r)), .row (.l 59), .any, .any, .any, .any, .any, .any, .any, .any, .any, .any, .any, .any, .any, .any, .any, .any, .any, .any, .any, .any, .any, .any, .any, .any, .any, .any, .any, .any, .any, .any, .any, .any, .any, .any, .any, .any, .any, .p (.sl 1 (tbE u)), .p (int (u.length : Nat)), .p (int (k : Nat)), .any, .any, .any, .any, .any, .any, .any, .any, .any, .any, .p (.sl 1 (tbE v)), .p (int (v.length : Nat)), .p (int ((q + 1) : Nat)), .any, .any, .any, .any, .any, .any, .any, .any, .any, .any, .any, .any, .any, .any, .any, .any, .any, .any, .any, .any, .any, .any, .any, .any, .any, .any, .any, .any, .any, .any, .any, .any, .any, .any, .any, .any] [(.l 49, .row (tbE (H :: (u.take k).map (rowO H b0 v))) tStrs 1 true), (.l 59, .row (strE (overK H b0 v (r.headD []) (q + 1) (rowB H.length r))) tStr 1 true)] (by omega) (by (simp only [ZZ, YY, Ze, ite_true, ite_false, forall_const, reduceCtorEq, Nat.reduceAdd, Nat.reduceMul, Nat.reduceLeDiff, Nat.reduceLT, Nat.reduceEqDiff]; try trivial)) (by (simp only [ZZ, YY, Ze, ite_true, ite_false, forall_const, reduceCtorEq, Nat.reduceAdd, Nat.reduceMul, Nat.reduceLeDiff, Nat.reduceLT, Nat.reduceEqDiff]; try trivial)) ⟨q + 1, by omega, rfl, rfl, rfl⟩
      · intro h2
        have hge2 : q = v.length := by have := of_decide_eq_false h2; omega
        subst hge2
        have hro : overK H b0 v (r.headD []) v.length (rowB H.length r) = rowO H b0 v r := rfl
        rw [hro]
        have hap : tbE (H :: (u.take k).map (rowO H b0 v)) ++ [[PV.sl 1 (strE (rowO H b0 v r))]] = tbE (H :: (u.take (k + 1)).map (rowO H b0 v)) := by
          rw [List.take_add_one, hr, List.map_append, tbE, tbE]
          simp
        have hul : (u.take k).length = k := by rw [List.length_take]; omega
        simp only [ZZ, YY, Ze, ite_true, ite_false, forall_const, reduceCtorEq, Nat.reduceAdd, Nat.reduceMul, Nat.reduceLeDiff, Nat.reduceLT, Nat.reduceEqDiff, tbE_len, List.length_cons, List.length_map, hul, hap]
        ((repeat' (with_reducible apply And.intro)) <;> try ((first | first | assumption | trivial | exact (fun hq => by rw [hq]; rfl) | exact i64_of (by omega) (by omega) | omega | (simp; done) | (simp; omega) | (intro hsc; have hs0 := hsc; (try have hsd := of_decide_eq_true hsc); (try simp only [Bool.not_eq_true', Bool.or_eq_false_iff, Bool.and_eq_true, Bool.or_eq_true, decide_eq_true_eq, decide_eq_false_iff_not] at hsc); (repeat' (with_reducible apply And.intro)) <;> (first | assumption | trivial | exact (fun hq => by rw [hq]; rfl) | exact i64_of (by omega) (by omega) | omega | (simp; done) | (simp; omega) | (intro hse; simp [hse, hs0]; done) | (intro hse; simp only [hse, hs0, Bool.true_and, Bool.and_true, Bool.not_false, Bool.not_true, Bool.and_self]; done))))))
        refine end_round (u.length - (k + 1)) [.p (.sl 1 (tbE a)), .p (.sl 1 (tbE b)), .any, .any, .any, .any, .any, .p (.sl 1 (strE H)), .any, .any, .row (.l 49), .any, .any, .any, .any, .any, .any, .any, .any, .any, .any, .any, .any, .any, .any, .any, .any, .any, .any, .any, .any, .any, .any, .any, .any, .any, .any, .any, .any, .any, .any, .any, .any, .any, .any, .any, .any, .any, .any, .any, .any, .p (.sl 1 (tbE u)), .p (int (u.length : Nat)), .p (int ((k + 1) : Nat)), .any, .any, .any, .any, .any, .any, .any, .any, .any, .any, .any, .any, .any, .any, .any, .any, .any, .any, .any, .any, .any, .any, .any, .any, .any, .any, .any, .any, .any, .any, .any, .any, .any, .any, .any, .any, .any, .any, .any, .any, .any, .any, .any, .any, .any, .any, .any, .any, .any] [(.l 49, .row (tbE (H :: (u.take (k + 1)).map (rowO H b0 v))) tStrs 1 true)] (by omega) (by (simp only [ZZ, YY, Ze, ite_true, ite_false, forall_const, reduceCtorEq, Nat.reduceAdd, Nat.reduceMul, Nat.reduceLeDiff, Nat.reduceLT, Nat.reduceEqDiff]; try trivial)) (by (simp only [ZZ, YY, Ze, ite_true, ite_false, forall_const, reduceCtorEq, Nat.reduceAdd, Nat.reduceMul, Nat.reduceLeDiff, Nat.reduceLT, Nat.reduceEqDiff]; try trivial)) ⟨k + 1, by omega, rfl, rfl, rfl⟩
    · intro h
      have hge : k = u.length := by have := of_decide_eq_false h; omega
      subst hge
      rw [List.take_length]
      simp only [ZZ, YY, Ze, ite_true, ite_false, forall_const, reduceCtorEq, Nat.reduceAdd, Nat.reduceMul, Nat.reduceLeDiff, Nat.reduceLT, Nat.reduceEqDiff]
end Go.Proofs.YthfpehmbellmcaaDoor

/- One table over another: the program's way gives the paper's table (plain). -/
namespace Go.Proofs.YthfpehmbellmcaaDoor
open Go.RowKit
set_option linter.unusedVariables false
set_option linter.unusedSimpArgs false
set_option linter.defProp false

/-- Cells put into a row, but for the first. -/
def setN (H b0 o : SRow) : Nat → SRow → SRow
  | 0, w => w
  | k + 1, w => if k = 0 then w else (setN H b0 o k w).set (ixO (b0.getD k []) H) (o.getD k [])
theorem setN_len (H b0 o w : SRow) : ∀ k, (setN H b0 o k w).length = w.length
  | 0 => rfl
  | k + 1 => by
    rw [setN]
    split
    · rfl
    · rw [List.length_set, setN_len H b0 o w k]
theorem setK_setN {H b0 o w : SRow} (h0 : ixO (b0.getD 0 []) H = 0) (hw : w.set 0 (o.getD 0 []) = w) : ∀ k, setK H b0 o k w = setN H b0 o k w
  | 0 => rfl
  | 1 => by rw [setK, setN, if_pos rfl, h0, setK, hw]
  | k + 2 => by rw [setK, setN, if_neg (by omega), setK_setN h0 hw (k + 1)]
theorem set_getD0 (l : SRow) (i : Nat) (v : List UInt8) : (l.set i v).getD 0 [] = if i = 0 ∧ l ≠ [] then v else l.getD 0 [] := by
  cases l with
  | nil => simp
  | cons a r => cases i <;> simp
theorem setK_zero0 {H b0 o w : SRow} {x : List UInt8} (hne : ∀ k, 0 < k → k < b0.length → ixO (b0.getD k []) H ≠ 0) (ho : o.getD 0 [] = x) (hw : w.getD 0 [] = x) : ∀ k, k ≤ b0.length → (setK H b0 o k w).getD 0 [] = x
  | 0, _ => hw
  | k + 1, hk => by
    rw [setK, set_getD0]
    split
    · rename_i h
      rcases Nat.eq_zero_or_pos k with rfl | h3
      · exact ho
      · exact absurd h.1 (hne k h3 (by omega))
    · exact setK_zero0 hne ho hw k (by omega)
theorem set0_same {w : SRow} {x : List UInt8} (h : w.getD 0 [] = x) : w.set 0 x = w := by
  cases w with
  | nil => rfl
  | cons a r => simp at h; simp [h]
theorem headD_getD (r : SRow) : r.headD [] = r.getD 0 [] := by cases r <;> rfl
theorem overK_zero0 {H b0 w : SRow} {v : Tab} {x : List UInt8} (hne : ∀ k, 0 < k → k < b0.length → ixO (b0.getD k []) H ≠ 0) (hw : w.getD 0 [] = x) : ∀ m, (overK H b0 v x m w).getD 0 [] = x
  | 0 => hw
  | m + 1 => by
    rw [overK]
    split
    · rename_i h
      exact setK_zero0 hne (by rw [← headD_getD]; exact h) (overK_zero0 hne hw m) _ (Nat.le_refl _)
    · exact overK_zero0 hne hw m
theorem ixO_get {x : List UInt8} : ∀ {l : SRow}, x ∈ l → l[ixO x l]? = some x
  | [], h => by cases h
  | y :: r, h => by
    rw [ixO]
    split
    · rename_i e; simp [e]
    · rename_i e
      simpa using ixO_get ((List.mem_cons.1 h).resolve_left e)
/-- The table as far as m rows are put in. -/
def nearK (H b0 : SRow) (u v : Tab) : Nat → Tab → Tab
  | 0, t => t
  | m + 1, t => (nearK H b0 u v m t).set (ixO ((v.getD m []).headD []) (colF u) + 1) (setN H b0 (v.getD m []) b0.length ((nearK H b0 u v m t).getD (ixO ((v.getD m []).headD []) (colF u) + 1) []))
theorem near_over {H b0 : SRow} {u v : Tab} (h0 : ixO (b0.getD 0 []) H = 0) (hne : ∀ k, 0 < k → k < b0.length → ixO (b0.getD k []) H ≠ 0) (hu : (colF u).Nodup) (hr : ∀ r ∈ u, 1 ≤ r.length) (hm : ∀ o ∈ v, o.headD [] ∈ colF u) : ∀ m, m ≤ v.length → nearK H b0 u v m (H :: u.map (rowB H.length)) = H :: u.map fun r => overK H b0 v (r.headD []) m (rowB H.length r)
  | 0, _ => rfl
  | m + 1, hmv => by
    rw [nearK, near_over h0 hne hu hr hm m (by omega)]
    obtain ⟨o, ho⟩ : ∃ o, v[m]? = some o := ⟨_, List.getElem?_eq_getElem (by omega)⟩
    have hoD : v.getD m [] = o := by simp [List.getD, ho]
    rw [hoD]
    have hk := hm o (List.mem_of_getElem? ho)
    have hq := ixO_lt hk
    have hqg := ixO_get hk
    generalize hqe : ixO (o.headD []) (colF u) = q at *
    rw [colF_len] at hq
    rw [colF, List.getElem?_map, List.getElem?_eq_getElem hq, Option.map_some] at hqg
    have hkey : (u[q]).headD [] = o.headD [] := Option.some.inj hqg
    rw [List.set_cons_succ, List.getD_cons_succ]
    congr 1
    apply List.ext_getElem?
    intro j
    rw [List.getElem?_set]
    by_cases hj : q = j
    · subst hj
      rw [if_pos rfl, if_pos (by simpa using hq), List.getElem?_map, List.getElem?_eq_getElem hq, Option.map_some, overK, hoD, if_pos hkey.symm]
      have hg : (u.map fun r => overK H b0 v (r.headD []) m (rowB H.length r)).getD q [] = overK H b0 v ((u[q]).headD []) m (rowB H.length u[q]) := by
        rw [List.getD, List.getElem?_map, List.getElem?_eq_getElem hq]; rfl
      rw [hg]
      have hb : (rowB H.length u[q]).getD 0 [] = (u[q]).headD [] := by
        have := hr u[q] (List.getElem_mem hq)
        rw [rowB]
        cases hx : u[q] with
        | nil => rw [hx] at this; simp at this
        | cons a r => rfl
      have hz := overK_zero0 (v := v) hne hb m
      rw [setK_setN h0 (set0_same (by rw [hz, hkey, headD_getD]))]
    · rw [if_neg hj]
      by_cases hjl : j < u.length
      · rw [List.getElem?_map, List.getElem?_map, List.getElem?_eq_getElem hjl, Option.map_some, Option.map_some, overK, hoD, if_neg]
        intro e
        have h1 : (colF u)[q]'(by rw [colF_len]; exact hq) = (colF u)[j]'(by rw [colF_len]; exact hjl) := by simp only [colF, List.getElem_map]; rw [hkey, e]
        rw [List.nodup_iff_pairwise_ne, List.pairwise_iff_getElem] at hu
        rcases Nat.lt_or_gt_of_ne hj with h | h
        · exact hu q j _ _ h h1
        · exact hu j q _ _ h h1.symm
      · rw [List.getElem?_map, List.getElem?_map, List.getElem?_eq_none (by omega)]
        rfl
theorem ixO_app {x : List UInt8} : ∀ {l : SRow} (r : SRow), x ∈ l → ixO x (l ++ r) = ixO x l
  | [], _, h => by cases h
  | y :: l, r, h => by
    rw [List.cons_append, ixO, ixO]
    split
    · rfl
    · rename_i e
      rw [ixO_app r ((List.mem_cons.1 h).resolve_left e)]
theorem ixO_new {x : List UInt8} : ∀ {l : SRow} (r : SRow), x ∉ l → ixO x (l ++ x :: r) = l.length
  | [], _, _ => by simp [ixO]
  | y :: l, r, h => by
    have h1 : ¬ x = y := by rintro rfl; exact h (by simp)
    rw [List.cons_append, ixO, if_neg h1, ixO_new r (fun e => h (by simp [e]))]
    rfl
theorem hdF_pre : ∀ (r G : SRow), ∃ s, hdF G r = G ++ s
  | [], G => ⟨[], by simp [hdF]⟩
  | h :: r, G => by
    obtain ⟨s, hs⟩ := hdF_pre r (hdS G h)
    rw [hdF, hs]
    unfold hdS
    split
    · exact ⟨s, rfl⟩
    · exact ⟨h :: s, by simp⟩
/-- Where a head comes to lie. -/
theorem hdF_ix (G r : SRow) (h : List UInt8) : ixO h (hdF G (h :: r)) = if h ∈ G then ixO h G else G.length := by
  obtain ⟨s, hs⟩ := hdF_pre r (hdS G h)
  rw [hdF, hs]
  unfold hdS
  split
  · rename_i hm; exact ixO_app s hm
  · rename_i hm; rw [List.append_assoc]; exact ixO_new s hm
/-- What the right tables' heads are. -/
theorem ov_facts {a b : Tab} (h : ovF a b = 0) : ixO ((b.headD []).getD 0 []) (ovH a b) = 0 ∧ (∀ k, 0 < k → k < (b.headD []).length → ixO ((b.headD []).getD k []) (ovH a b) ≠ 0) ∧ (colF (a.drop 1)).Nodup ∧ (∀ r ∈ a.drop 1, 1 ≤ r.length) ∧ ∀ o ∈ b.drop 1, o.headD [] ∈ colF (a.drop 1) := by
  obtain ⟨hv0, da, db, hk, hm⟩ := ovF_zero h
  obtain ⟨la, lb, na, nb⟩ := ov0_zero hv0
  obtain ⟨a1, a2⟩ := loadE_zero la
  obtain ⟨b1, b2⟩ := loadE_zero lb
  have ra := (a2 _ (List.mem_of_getElem? (head_some na))).1
  simp only [dupT, Bool.or_eq_false_iff, Bool.not_eq_false', decide_eq_true_eq] at da db
  obtain ⟨s, hs⟩ := hdF_pre (b.headD []) (a.headD [])
  have hH : ovH a b = a.headD [] ++ s := hs
  have hbd := db.1
  unfold key0 at hk
  rw [hH]
  generalize a.headD [] = a0 at *
  generalize b.headD [] = b0 at *
  obtain ⟨x, r, rfl⟩ : ∃ x r, a0 = x :: r := by cases a0 with | nil => simp at ra | cons x r => exact ⟨x, r, rfl⟩
  have hk : x = b0.getD 0 [] := by rw [← headD_getD, ← hk]; rfl
  refine ⟨?_, ?_, da.2, fun r hr => (a2 r (List.mem_of_mem_drop hr)).1, ?_⟩
  · rw [← hk, List.cons_append, ixO, if_pos rfl]
  · intro k h0 hk2 e
    rw [List.cons_append, ixO] at e
    split at e
    · rename_i e2
      have h1 : b0.getD k [] = b0[k] := by simp [List.getD, hk2]
      have h2 : b0.getD 0 [] = b0[0]'(by omega) := by simp [List.getD, show 0 < b0.length by omega]
      rw [hk, h1, h2] at e2
      rw [List.nodup_iff_pairwise_ne, List.pairwise_iff_getElem] at hbd
      exact hbd 0 k (by omega) hk2 h0 e2.symm
    · cases e
  · intro o ho
    unfold missT at hm
    rw [List.any_eq_false] at hm
    simpa using hm o ho
/-- What the program's table is. -/
theorem near_ovT {a b : Tab} (h : ovF a b = 0) : nearK (ovH a b) (b.headD []) (a.drop 1) (b.drop 1) (b.drop 1).length (ovH a b :: (a.drop 1).map (rowB (ovH a b).length)) = ovT a b := by
  obtain ⟨h1, h2, h3, h4, h5⟩ := ov_facts h
  exact near_over h1 h2 h3 h4 h5 _ (Nat.le_refl _)
end Go.Proofs.YthfpehmbellmcaaDoor

/- slices.Equal of strings. -/
namespace Go.Proofs.YthfpehmbellmcaaDoor
set_option linter.unusedVariables false
set_option linter.unusedSimpArgs false
set_option linter.defProp false
/- slices.Equal[[]string,string] -/
def ir_slices_Equal_string_string_L0 : IC :=
  (.seq (.reg [⟨some 14, .bin .lss (.t 13) (.t 12), none⟩])
    (.seq (.cond (.t 14) .skip (.exit 0))
    (.seq (.block 1 (.seq (.reg [⟨some 15, .mov (.t 13), none⟩,
      ⟨some 5, .mov (.t 15), none⟩])
    (.seq (.drg [⟨some 16, .mov (.t 0), none⟩,
      ⟨some 17, .mov (.t 5), none⟩,
      ⟨some 18, .ixa 1 (.t 16) (.t 17), none⟩,
      ⟨some 19, .ld 1 false (.t 18), none⟩,
      ⟨some 20, .mov (.t 1), none⟩,
      ⟨some 21, .mov (.t 5), none⟩,
      ⟨some 22, .ixa 1 (.t 20) (.t 21), none⟩,
      ⟨some 23, .ld 1 false (.t 22), none⟩,
      ⟨some 24, .bin .neq (.t 19) (.t 23), none⟩])
    (.cond (.t 24) (.seq (.reg [⟨some 4, .mov (.c (.bool false)), none⟩])
    .ret) .skip))))
    (.reg [⟨some 25, .bin .add (.t 13) (.c (.int .i64 1)), none⟩,
      ⟨some 13, .mov (.t 25), none⟩]))))
def ir_slices_Equal_string_string : IC :=
  (.seq (.reg [⟨some 4, .mov (.c (.bool false)), none⟩])
    (.seq (.seq (.reg [⟨some 6, .mov (.t 0), none⟩,
      ⟨some 7, .len (.t 6), none⟩,
      ⟨some 8, .mov (.t 1), none⟩,
      ⟨some 9, .len (.t 8), none⟩,
      ⟨some 10, .bin .neq (.t 7) (.t 9), none⟩])
    (.cond (.t 10) (.seq (.reg [⟨some 4, .mov (.c (.bool false)), none⟩])
    .ret) .skip))
    (.seq (.seq (.reg [⟨some 11, .mov (.t 0), none⟩,
      ⟨some 12, .len (.t 11), none⟩,
      ⟨some 13, .mov (.c (.int .i64 0)), none⟩])
    (.block 0 (.loop ir_slices_Equal_string_string_L0)))
    (.seq (.reg [⟨some 4, .mov (.c (.bool true)), none⟩])
    .ret))))
def rs_slices_Equal_string_string : List IRes := [.t 4]
theorem ck_slices_Equal_string_string : chkF Tryd.prog Tryd.f23 ir_slices_Equal_string_string rs_slices_Equal_string_string 26 = true := by kernel_rfl

section
variable {E : Envt}
theorem EqualT_ok (l m : List (List UInt8)) (hl : l.length ≤ 1000000000) : PCall Tryd.prog E 23 [strs l, strs m] (· = .bool (decide (l = m))) := by
  refine pcallF mixed Tryd.func23 ck_slices_Equal_string_string ?_
  simp only [a0, l0, OS.ao, List.map_cons, List.map_nil, List.length_cons, List.length_nil, List.cons_append, List.nil_append, Nat.reduceSub, Nat.reduceAdd, List.replicate_succ, List.replicate_zero, ir_slices_Equal_string_string, rs_slices_Equal_string_string, ZZ, YY, Ze, ite_true, ite_false, forall_const, reduceCtorEq, Nat.reduceAdd, Nat.reduceMul, Nat.reduceLeDiff, Nat.reduceLT, Nat.reduceEqDiff]
  simp only [strs, ZZ, YY, Ze, ite_true, ite_false, forall_const, reduceCtorEq, Nat.reduceAdd, Nat.reduceMul, Nat.reduceLeDiff, Nat.reduceLT, Nat.reduceEqDiff]
  have hln : (l.map fun x => [PV.str x]).length = l.length := by simp
  have hlm : (m.map fun x => [PV.str x]).length = m.length := by simp
  have hget : ∀ k x, l[k]? = some x → (l.map fun x => [PV.str x]).getD k [] = [.str x] := fun k p hp => getD_map hp
  have hgem : ∀ k x, m[k]? = some x → (m.map fun x => [PV.str x]).getD k [] = [.str x] := fun k p hp => getD_map hp
  generalize (l.map fun x => [PV.str x]) = es at *
  generalize (m.map fun x => [PV.str x]) = fs at *
  simp only [ZZ, YY, Ze, ite_true, ite_false, forall_const, reduceCtorEq, Nat.reduceAdd, Nat.reduceMul, Nat.reduceLeDiff, Nat.reduceLT, Nat.reduceEqDiff, hln, hlm]
  refine br ?_ ?_
  · intro h
    have : ¬ l = m := by rintro rfl; simp at h
    simp only [ZZ, YY, Ze, ite_true, ite_false, forall_const, reduceCtorEq, Nat.reduceAdd, Nat.reduceMul, Nat.reduceLeDiff, Nat.reduceLT, Nat.reduceEqDiff]
    simp [this]
  intro h
  have hlen : l.length = m.length := by have : (l.length : Int) = m.length := by simpa using h
                                        omega
  simp only [ZZ, YY, Ze, ite_true, ite_false, forall_const, reduceCtorEq, Nat.reduceAdd, Nat.reduceMul, Nat.reduceLeDiff, Nat.reduceLT, Nat.reduceEqDiff]
  refine loop_intro (fun n fr L => ∃ (k : Nat), k ≤ l.length ∧ n = l.length - k ∧ (l.take k = m.take k) ∧ fr = [.p (.sl 1 es), .p (.sl 1 fs), .any, .any, .any, .any, .any, .any, .any, .any, .any, .any, .p (int (l.length : Nat)), .p (int (k : Nat)), .any, .any, .any, .any, .any, .any, .any, .any, .any, .any, .any, .any] ∧ L = []) (l.length) [.p (.sl 1 es), .p (.sl 1 fs), .any, .any, .any, .any, .any, .any, .any, .any, .any, .any, .p (int (l.length : Nat)), .p (int (0 : Nat)), .any, .any, .any, .any, .any, .any, .any, .any, .any, .any, .any, .any] [] (by simp only [hln, ZZ, YY, Ze, ite_true, ite_false, forall_const, reduceCtorEq, Nat.reduceAdd, Nat.reduceMul, Nat.reduceLeDiff, Nat.reduceLT, Nat.reduceEqDiff]; try trivial) (by (simp only [ZZ, YY, Ze, ite_true, ite_false, forall_const, reduceCtorEq, Nat.reduceAdd, Nat.reduceMul, Nat.reduceLeDiff, Nat.reduceLT, Nat.reduceEqDiff]; try trivial)) ⟨0, by omega, by omega, by simp, rfl, rfl⟩ ?_
  rintro n fr L ⟨k, hk, rfl, hf, rfl, rfl⟩
  simp only [ir_slices_Equal_string_string_L0, ZZ, YY, Ze, ite_true, ite_false, forall_const, reduceCtorEq, Nat.reduceAdd, Nat.reduceMul, Nat.reduceLeDiff, Nat.reduceLT, Nat.reduceEqDiff]
  refine br ?_ ?_
  · intro h
    have hlt : k < l.length := by have := of_decide_eq_true h; omega
    obtain ⟨x, hx⟩ : ∃ x, l[k]? = some x := ⟨_, List.getElem?_eq_getElem hlt⟩
    obtain ⟨y, hy⟩ : ∃ y, m[k]? = some y := ⟨_, List.getElem?_eq_getElem (by omega)⟩
    have hg := hget k x hx
    have hg2 := hgem k y hy
    simp only [ZZ, YY, Ze, ite_true, ite_false, forall_const, reduceCtorEq, Nat.reduceAdd, Nat.reduceMul, Nat.reduceLeDiff, Nat.reduceLT, Nat.reduceEqDiff]
    refine drg0 ?_
    simp only [ZZ, YY, Ze, ite_true, ite_false, forall_const, reduceCtorEq, Nat.reduceAdd, Nat.reduceMul, Nat.reduceLeDiff, Nat.reduceLT, Nat.reduceEqDiff, hg, hg2, hln, hlm]
    ((repeat' (with_reducible apply And.intro)) <;> try ((first | first | assumption | trivial | exact (fun hq => by rw [hq]; rfl) | exact i64_of (by omega) (by omega) | omega | (simp; done) | (simp; omega) | (intro hsc; have hs0 := hsc; (try have hsd := of_decide_eq_true hsc); (try simp only [Bool.not_eq_true', Bool.or_eq_false_iff, Bool.and_eq_true, Bool.or_eq_true, decide_eq_true_eq, decide_eq_false_iff_not] at hsc); (repeat' (with_reducible apply And.intro)) <;> (first | assumption | trivial | exact (fun hq => by rw [hq]; rfl) | exact i64_of (by omega) (by omega) | omega | (simp; done) | (simp; omega) | (intro hse; simp [hse, hs0]; done) | (intro hse; simp only [hse, hs0, Bool.true_and, Bool.and_true, Bool.not_false, Bool.not_true, Bool.and_self]; done))))))
    refine br ?_ ?_
    · intro h2
      have : ¬ l = m := by
        rintro rfl
        rw [hx] at hy
        cases hy
        simp at h2
      simp only [ZZ, YY, Ze, ite_true, ite_false, forall_const, reduceCtorEq, Nat.reduceAdd, Nat.reduceMul, Nat.reduceLeDiff, Nat.reduceLT, Nat.reduceEqDiff]
      simp [this]
    · intro h2
      have hxy : x = y := by simpa using h2
      simp only [ZZ, YY, Ze, ite_true, ite_false, forall_const, reduceCtorEq, Nat.reduceAdd, Nat.reduceMul, Nat.reduceLeDiff, Nat.reduceLT, Nat.reduceEqDiff]
      ((repeat' (with_reducible apply And.intro)) <;> try ((first | first | assumption | trivial | exact (fun hq => by rw [hq]; rfl) | exact i64_of (by omega) (by omega) | omega | (simp; done) | (simp; omega) | (intro hsc; have hs0 := hsc; (try have hsd := of_decide_eq_true hsc); (try simp only [Bool.not_eq_true', Bool.or_eq_false_iff, Bool.and_eq_true, Bool.or_eq_true, decide_eq_true_eq, decide_eq_false_iff_not] at hsc); (repeat' (with_reducible apply And.intro)) <;> (first | assumption | trivial | exact (fun hq => by rw [hq]; rfl) | exact i64_of (by omega) (by omega) | omega | (simp; done) | (simp; omega) | (intro hse; simp [hse, hs0]; done) | (intro hse; simp only [hse, hs0, Bool.true_and, Bool.and_true, Bool.not_false, Bool.not_true, Bool.and_self]; done))))))
      refine end_round (l.length - (k + 1)) [.p (.sl 1 es), .p (.sl 1 fs), .any, .any, .any, .any, .any, .any, .any, .any, .any, .any, .p (int (l.length : Nat)), .p (int ((k + 1) : Nat)), .any, .any, .any, .any, .any, .any, .any, .any, .any, .any, .any, .any] [] (by omega) (by (simp only [ZZ, YY, Ze, ite_true, ite_false, forall_const, reduceCtorEq, Nat.reduceAdd, Nat.reduceMul, Nat.reduceLeDiff, Nat.reduceLT, Nat.reduceEqDiff]; try trivial)) (by (simp only [ZZ, YY, Ze, ite_true, ite_false, forall_const, reduceCtorEq, Nat.reduceAdd, Nat.reduceMul, Nat.reduceLeDiff, Nat.reduceLT, Nat.reduceEqDiff]; try trivial)) ⟨k + 1, by omega, rfl, by rw [List.take_add_one, List.take_add_one, hf, hx, hy, hxy], rfl, rfl⟩
  · intro h
    have hge : l.length ≤ k := by have := of_decide_eq_false h; omega
    simp only [ZZ, YY, Ze, ite_true, ite_false, forall_const, reduceCtorEq, Nat.reduceAdd, Nat.reduceMul, Nat.reduceLeDiff, Nat.reduceLT, Nat.reduceEqDiff]
    rw [List.take_of_length_le hge, List.take_of_length_le (by omega)] at hf
    simp [hf]
end
end Go.Proofs.YthfpehmbellmcaaDoor

/- The same tables: told of equal ones. -/
namespace Go.Proofs.YthfpehmbellmcaaDoor
open Go.RowKit
set_option linter.unusedVariables false
set_option linter.unusedSimpArgs false
set_option linter.defProp false

/- slices.EqualFunc[[][]string,[][]string,[]string,[]string] -/
def ir_slices_EqualFunc_string_string_string_string_L0 : IC :=
  (.seq (.reg [⟨some 18, .bin .lss (.t 17) (.t 16), none⟩])
    (.seq (.cond (.t 18) .skip (.exit 0))
    (.seq (.block 1 (.seq (.reg [⟨some 19, .mov (.t 17), none⟩,
      ⟨some 20, .ixa 1 (.t 15) (.t 17), none⟩,
      ⟨some 21, .ld 1 false (.t 20), none⟩,
      ⟨some 7, .mov (.t 19), none⟩,
      ⟨some 8, .mov (.t 21), none⟩])
    (.seq (.reg [⟨some 22, .mov (.t 1), none⟩,
      ⟨some 23, .mov (.t 7), none⟩,
      ⟨some 24, .ixa 1 (.t 22) (.t 23), none⟩,
      ⟨some 25, .ld 1 false (.t 24), none⟩,
      ⟨some 9, .mov (.t 25), none⟩])
    (.seq (.reg [⟨some 26, .mov (.t 2), none⟩,
      ⟨some 27, .mov (.t 8), none⟩,
      ⟨some 28, .mov (.t 9), none⟩,
      ⟨some 29, .callv (.t 26) [.t 27, .t 28], none⟩,
      ⟨some 30, .not (.t 29), none⟩])
    (.cond (.t 30) (.seq (.reg [⟨some 6, .mov (.c (.bool false)), none⟩])
    .ret) .skip)))))
    (.reg [⟨some 31, .bin .add (.t 17) (.c (.int .i64 1)), none⟩,
      ⟨some 17, .mov (.t 31), none⟩]))))
def ir_slices_EqualFunc_string_string_string_string : IC :=
  (.seq (.reg [⟨some 6, .mov (.c (.bool false)), none⟩])
    (.seq (.seq (.reg [⟨some 10, .mov (.t 0), none⟩,
      ⟨some 11, .len (.t 10), none⟩,
      ⟨some 12, .mov (.t 1), none⟩,
      ⟨some 13, .len (.t 12), none⟩,
      ⟨some 14, .bin .neq (.t 11) (.t 13), none⟩])
    (.cond (.t 14) (.seq (.reg [⟨some 6, .mov (.c (.bool false)), none⟩])
    .ret) .skip))
    (.seq (.seq (.reg [⟨some 15, .mov (.t 0), none⟩,
      ⟨some 16, .len (.t 15), none⟩,
      ⟨some 17, .mov (.c (.int .i64 0)), none⟩])
    (.block 0 (.loop ir_slices_EqualFunc_string_string_string_string_L0)))
    (.seq (.reg [⟨some 6, .mov (.c (.bool true)), none⟩])
    .ret))))
def rs_slices_EqualFunc_string_string_string_string : List IRes := [.t 6]
theorem ck_slices_EqualFunc_string_string_string_string : chkF Tryd.prog Tryd.f22 ir_slices_EqualFunc_string_string_string_string rs_slices_EqualFunc_string_string_string_string 32 = true := by kernel_rfl
/- paperchase/chaseref1.SameTable -/
def ir_chaseref1_SameTable : IC :=
  (.seq (.reg [⟨some 4, .mov (.c (.bool false)), none⟩])
    (.seq (.reg [⟨some 5, .mov (.t 0), none⟩,
      ⟨some 6, .mov (.t 1), none⟩,
      ⟨some 7, .call 22 [.t 5, .t 6, .f 23], none⟩,
      ⟨some 4, .mov (.t 7), none⟩])
    .ret))
def rs_chaseref1_SameTable : List IRes := [.t 4]
theorem ck_chaseref1_SameTable : chkF Tryd.prog Tryd.f9 ir_chaseref1_SameTable rs_chaseref1_SameTable 8 = true := by kernel_rfl

set_option maxRecDepth 100000 in
theorem EqualFuncT_ok {E : Envt} (t : Tab) (f : FuncId) (hl : t.length ≤ 1000000000) (hfn : fnB Tryd.prog f = true) (hf : ∀ r ∈ t, PCall Tryd.prog E f [.sl 1 (strE r), .sl 1 (strE r)] (· = .bool true)) : PCall Tryd.prog E 22 [.sl 1 (tbE t), .sl 1 (tbE t), .clo f []] (· = .bool true) := by
  refine pcallF mixed Tryd.func22 ck_slices_EqualFunc_string_string_string_string ?_
  simp only [a0, l0, OS.ao, List.map_cons, List.map_nil, List.length_cons, List.length_nil, List.cons_append, List.nil_append, Nat.reduceSub, Nat.reduceAdd, List.replicate_succ, List.replicate_zero, ir_slices_EqualFunc_string_string_string_string, rs_slices_EqualFunc_string_string_string_string, ZZ, YY, Ze, ite_true, ite_false, forall_const, reduceCtorEq, Nat.reduceAdd, Nat.reduceMul, Nat.reduceLeDiff, Nat.reduceLT, Nat.reduceEqDiff]
  simp only [ZZ, YY, Ze, ite_true, ite_false, forall_const, reduceCtorEq, Nat.reduceAdd, Nat.reduceMul, Nat.reduceLeDiff, Nat.reduceLT, Nat.reduceEqDiff, tbE_len, decide_true, Bool.not_true]
  refine loop_intro (fun n fr L => ∃ (k : Nat), k ≤ t.length ∧ n = t.length - k ∧ fr = [.p (.sl 1 (tbE t)), .p (.sl 1 (tbE t)), .p (.clo f []), .any, .any, .any, .any, .any, .any, .any, .any, .any, .any, .any, .any, .p (.sl 1 (tbE t)), .p (int (t.length : Nat)), .p (int (k : Nat)), .any, .any, .any, .any, .any, .any, .any, .any, .any, .any, .any, .any, .any, .any] ∧ L = []) (t.length) [.p (.sl 1 (tbE t)), .p (.sl 1 (tbE t)), .p (.clo f []), .any, .any, .any, .any, .any, .any, .any, .any, .any, .any, .any, .any, .p (.sl 1 (tbE t)), .p (int (t.length : Nat)), .p (int (0 : Nat)), .any, .any, .any, .any, .any, .any, .any, .any, .any, .any, .any, .any, .any, .any] [] (by simp only [ZZ, YY, Ze, ite_true, ite_false, forall_const, reduceCtorEq, Nat.reduceAdd, Nat.reduceMul, Nat.reduceLeDiff, Nat.reduceLT, Nat.reduceEqDiff, tbE_len]; try trivial) (by (simp only [ZZ, YY, Ze, ite_true, ite_false, forall_const, reduceCtorEq, Nat.reduceAdd, Nat.reduceMul, Nat.reduceLeDiff, Nat.reduceLT, Nat.reduceEqDiff]; try trivial)) ⟨0, by omega, by omega, rfl, rfl⟩ ?_
  rintro n fr L ⟨k, hk, rfl, rfl, rfl⟩
  simp only [ir_slices_EqualFunc_string_string_string_string_L0, ZZ, YY, Ze, ite_true, ite_false, forall_const, reduceCtorEq, Nat.reduceAdd, Nat.reduceMul, Nat.reduceLeDiff, Nat.reduceLT, Nat.reduceEqDiff]
  refine br ?_ ?_
  · intro h
    have hlt : k < t.length := by have := of_decide_eq_true h; omega
    obtain ⟨r, hr⟩ : ∃ r, t[k]? = some r := ⟨_, List.getElem?_eq_getElem hlt⟩
    have hg := tbE_get hr
    simp only [ZZ, YY, Ze, ite_true, ite_false, forall_const, reduceCtorEq, Nat.reduceAdd, Nat.reduceMul, Nat.reduceLeDiff, Nat.reduceLT, Nat.reduceEqDiff, hg, tbE_len, hfn]
    ((repeat' (with_reducible apply And.intro)) <;> try ((first | first | assumption | trivial | exact (fun hq => by rw [hq]; rfl) | exact i64_of (by omega) (by omega) | omega | (simp; done) | (simp; omega) | (intro hsc; have hs0 := hsc; (try have hsd := of_decide_eq_true hsc); (try simp only [Bool.not_eq_true', Bool.or_eq_false_iff, Bool.and_eq_true, Bool.or_eq_true, decide_eq_true_eq, decide_eq_false_iff_not] at hsc); (repeat' (with_reducible apply And.intro)) <;> (first | assumption | trivial | exact (fun hq => by rw [hq]; rfl) | exact i64_of (by omega) (by omega) | omega | (simp; done) | (simp; omega) | (intro hse; simp [hse, hs0]; done) | (intro hse; simp only [hse, hs0, Bool.true_and, Bool.and_true, Bool.not_false, Bool.not_true, Bool.and_self]; done))))))
    refine use1 (hf r (List.mem_of_getElem? hr)) rfl (.inl rfl) ?_
    simp only [ZZ, YY, Ze, ite_true, ite_false, forall_const, reduceCtorEq, Nat.reduceAdd, Nat.reduceMul, Nat.reduceLeDiff, Nat.reduceLT, Nat.reduceEqDiff]
    ((repeat' (with_reducible apply And.intro)) <;> try ((first | first | assumption | trivial | exact (fun hq => by rw [hq]; rfl) | exact i64_of (by omega) (by omega) | omega | (simp; done) | (simp; omega) | (intro hsc; have hs0 := hsc; (try have hsd := of_decide_eq_true hsc); (try simp only [Bool.not_eq_true', Bool.or_eq_false_iff, Bool.and_eq_true, Bool.or_eq_true, decide_eq_true_eq, decide_eq_false_iff_not] at hsc); (repeat' (with_reducible apply And.intro)) <;> (first | assumption | trivial | exact (fun hq => by rw [hq]; rfl) | exact i64_of (by omega) (by omega) | omega | (simp; done) | (simp; omega) | (intro hse; simp [hse, hs0]; done) | (intro hse; simp only [hse, hs0, Bool.true_and, Bool.and_true, Bool.not_false, Bool.not_true, Bool.and_self]; done))))))
    refine end_round (t.length - (k + 1)) [.p (.sl 1 (tbE t)), .p (.sl 1 (tbE t)), .p (.clo f []), .any, .any, .any, .any, .any, .any, .any, .any, .any, .any, .any, .any, .p (.sl 1 (tbE t)), .p (int (t.length : Nat)), .p (int ((k + 1) : Nat)), .any, .any, .any, .any, .any, .any, .any, .any, .any, .any, .any, .any, .any, .any] [] (by omega) (by (simp only [ZZ, YY, Ze, ite_true, ite_false, forall_const, reduceCtorEq, Nat.reduceAdd, Nat.reduceMul, Nat.reduceLeDiff, Nat.reduceLT, Nat.reduceEqDiff]; try trivial)) (by (simp only [ZZ, YY, Ze, ite_true, ite_false, forall_const, reduceCtorEq, Nat.reduceAdd, Nat.reduceMul, Nat.reduceLeDiff, Nat.reduceLT, Nat.reduceEqDiff]; try trivial)) ⟨k + 1, by omega, rfl, rfl, rfl⟩
  · intro h
    have hge : t.length ≤ k := by have := of_decide_eq_false h; omega
    simp only [ZZ, YY, Ze, ite_true, ite_false, forall_const, reduceCtorEq, Nat.reduceAdd, Nat.reduceMul, Nat.reduceLeDiff, Nat.reduceLT, Nat.reduceEqDiff]
theorem SameTable_ok {E : Envt} (t : Tab) (hl : t.length ≤ 1000000000) (hb : ∀ r ∈ t, r.length ≤ 1000000000) : PCall Tryd.prog E 9 [.sl 1 (tbE t), .sl 1 (tbE t)] (· = .bool true) := by
  refine pcallF mixed Tryd.func9 ck_chaseref1_SameTable ?_
  simp only [a0, l0, OS.ao, List.map_cons, List.map_nil, List.length_cons, List.length_nil, List.cons_append, List.nil_append, Nat.reduceSub, Nat.reduceAdd, List.replicate_succ, List.replicate_zero, ir_chaseref1_SameTable, rs_chaseref1_SameTable, ZZ, YY, Ze, ite_true, ite_false, forall_const, reduceCtorEq, Nat.reduceAdd, Nat.reduceMul, Nat.reduceLeDiff, Nat.reduceLT, Nat.reduceEqDiff]
  refine use1 (EqualFuncT_ok t _ hl (by kernel_rfl) (fun r hr => by have h := EqualT_ok (E := E) r r (hb r hr); rwa [decide_eq_true rfl] at h)) rfl (.inl rfl) ?_
  simp only [ZZ, YY, Ze, ite_true, ite_false, forall_const, reduceCtorEq, Nat.reduceAdd, Nat.reduceMul, Nat.reduceLeDiff, Nat.reduceLT, Nat.reduceEqDiff]
end Go.Proofs.YthfpehmbellmcaaDoor

/- Numbers of pages, at a seat without strconv.Atoi (written by wip/genp7.py out of XF1, XF2). -/
namespace Go.Proofs.YthfpehmbellmcaaDoor
open Go.RowKit
set_option linter.unusedVariables false
set_option linter.unusedSimpArgs false
set_option linter.defProp false

/- paperchase/produce.power -/
def ir_produce_power_L0 : IC :=
  (.seq (.reg [⟨some 6, .bin .lss (.t 5) (.t 4), none⟩])
    (.seq (.cond (.t 6) .skip (.exit 0))
    (.seq (.block 1 (.reg [⟨some 7, .mov (.t 3), none⟩,
      ⟨some 8, .bin .mul (.t 7) (.c (.int .i64 10)), none⟩,
      ⟨some 3, .mov (.t 8), none⟩]))
    (.reg [⟨some 9, .bin .add (.t 5) (.c (.int .i64 1)), none⟩,
      ⟨some 5, .mov (.t 9), none⟩]))))
def ir_produce_power : IC :=
  (.seq (.reg [⟨some 2, .mov (.c (.int .i64 0)), none⟩])
    (.seq (.reg [⟨some 3, .mov (.c (.int .i64 1)), none⟩])
    (.seq (.seq (.reg [⟨some 4, .mov (.t 0), none⟩,
      ⟨some 5, .mov (.c (.int .i64 0)), none⟩])
    (.block 0 (.loop ir_produce_power_L0)))
    (.seq (.reg [⟨some 10, .mov (.t 3), none⟩,
      ⟨some 2, .mov (.t 10), none⟩])
    .ret))))
def rs_produce_power : List IRes := [.t 2]
theorem ck_produce_power : chkF Tryd.prog Tryd.f35 ir_produce_power rs_produce_power 11 = true := by kernel_rfl
/- paperchase/produce.isPrefix -/
def ir_produce_isPrefix_L0 : IC :=
  (.seq (.reg [⟨some 7, .bin .lss (.t 6) (.t 5), none⟩])
    (.seq (.cond (.t 7) .skip (.exit 0))
    (.seq (.block 1 (.seq (.reg [⟨some 8, .mov (.t 6), none⟩,
      ⟨some 3, .mov (.t 8), none⟩])
    (.seq (.reg [⟨some 9, .mov (.t 0), none⟩,
      ⟨some 10, .mov (.t 3), none⟩,
      ⟨some 11, .idx (.t 9) (.t 10), none⟩,
      ⟨some 12, .bin .lss (.t 11) (.c (.int .u8 65)), none⟩,
      ⟨some 13, .mov (.t 12), none⟩,
      ⟨some 14, .mov (.t 0), (some (13, false))⟩,
      ⟨some 15, .mov (.t 3), (some (13, false))⟩,
      ⟨some 16, .idx (.t 14) (.t 15), (some (13, false))⟩,
      ⟨some 17, .bin .gtr (.t 16) (.c (.int .u8 90)), (some (13, false))⟩,
      ⟨some 18, .pick (.t 13) (.c (.bool true)) (.t 17), none⟩])
    (.cond (.t 18) (.seq (.reg [⟨some 2, .mov (.c (.bool false)), none⟩])
    .ret) .skip))))
    (.reg [⟨some 19, .bin .add (.t 6) (.c (.int .i64 1)), none⟩,
      ⟨some 6, .mov (.t 19), none⟩]))))
def ir_produce_isPrefix : IC :=
  (.seq (.reg [⟨some 2, .mov (.c (.bool false)), none⟩])
    (.seq (.seq (.reg [⟨some 4, .mov (.t 0), none⟩,
      ⟨some 5, .sln (.t 4), none⟩,
      ⟨some 6, .mov (.c (.int .i64 0)), none⟩])
    (.block 0 (.loop ir_produce_isPrefix_L0)))
    (.seq (.reg [⟨some 20, .mov (.t 0), none⟩,
      ⟨some 21, .sln (.t 20), none⟩,
      ⟨some 22, .call 34 [.t 21, .c (.int .i64 1), .c (.int .i64 8)], none⟩,
      ⟨some 2, .mov (.t 22), none⟩])
    .ret)))
def rs_produce_isPrefix : List IRes := [.t 2]
theorem ck_produce_isPrefix : chkF Tryd.prog Tryd.f43 ir_produce_isPrefix rs_produce_isPrefix 23 = true := by kernel_rfl
/- paperchase/produce.headError -/
def ir_produce_headError : IC :=
  (.seq (.reg [⟨some 4, .mov (.c (.int .i64 0)), none⟩])
    (.seq (.reg [⟨some 5, .mov (.t 0), none⟩,
      ⟨some 6, .call 43 [.t 5], none⟩,
      ⟨some 7, .not (.t 6), none⟩,
      ⟨some 8, .call 27 [.t 7, .c (.int .i64 3)], none⟩,
      ⟨some 9, .mov (.t 1), none⟩,
      ⟨some 10, .call 34 [.t 9, .c (.int .i64 4), .c (.int .i64 9)], none⟩,
      ⟨some 11, .not (.t 10), none⟩,
      ⟨some 12, .call 27 [.t 11, .c (.int .i64 1)], none⟩,
      ⟨some 13, .bsl 1 [.t 8, .t 12], none⟩,
      ⟨some 14, .call 25 [.t 13], none⟩,
      ⟨some 4, .mov (.t 14), none⟩])
    .ret))
def rs_produce_headError : List IRes := [.t 4]
theorem ck_produce_headError : chkF Tryd.prog Tryd.f33 ir_produce_headError rs_produce_headError 15 = true := by kernel_rfl
/- paperchase/produce.written -/
def ir_produce_written : IC :=
  (.seq (.reg [⟨some 6, .mov (.c (.str [])), none⟩])
    (.seq (.reg [⟨some 8, .mov (.t 2), none⟩,
      ⟨some 9, .call 44 [.t 8], none⟩,
      ⟨some 7, .mov (.t 9), none⟩])
    (.seq (.reg [⟨some 10, .mov (.t 0), none⟩,
      ⟨some 11, .mov (.t 1), none⟩,
      ⟨some 12, .mov (.t 7), none⟩,
      ⟨some 13, .sln (.t 12), none⟩,
      ⟨some 14, .bin .sub (.t 11) (.t 13), none⟩,
      ⟨some 15, .mx (.c (.int .i64 0)) (.t 14), none⟩,
      ⟨some 16, .call 45 [.c (.str [48]), .t 15], none⟩,
      ⟨some 17, .bin .add (.t 10) (.t 16), none⟩,
      ⟨some 18, .mov (.t 7), none⟩,
      ⟨some 19, .bin .add (.t 17) (.t 18), none⟩,
      ⟨some 6, .mov (.t 19), none⟩])
    .ret)))
def rs_produce_written : List IRes := [.t 6]
theorem ck_produce_written : chkF Tryd.prog Tryd.f36 ir_produce_written rs_produce_written 20 = true := by kernel_rfl
/- paperchase/produce.Number -/
def ir_produce_Number : IC :=
  (.seq (.reg [⟨some 6, .mov (.c (.str [])), none⟩,
      ⟨some 7, .mov (.c (.int .i64 0)), none⟩])
    (.seq (.seq (.reg [⟨some 9, .mov (.t 0), none⟩,
      ⟨some 10, .mov (.t 1), none⟩,
      ⟨some 11, .call 33 [.t 9, .t 10], none⟩,
      ⟨some 8, .mov (.t 11), none⟩])
    (.seq (.reg [⟨some 12, .mov (.t 8), none⟩,
      ⟨some 13, .bin .neq (.t 12) (.c (.int .i64 0)), none⟩])
    (.cond (.t 13) (.seq (.reg [⟨some 14, .mov (.t 8), none⟩,
      ⟨some 6, .mov (.c (.str [])), none⟩,
      ⟨some 7, .mov (.t 14), none⟩])
    .ret) .skip)))
    (.seq (.seq (.reg [⟨some 15, .mov (.t 2), none⟩,
      ⟨some 16, .mov (.t 1), none⟩,
      ⟨some 17, .call 35 [.t 16], none⟩,
      ⟨some 18, .bin .sub (.t 17) (.c (.int .i64 1)), none⟩,
      ⟨some 19, .call 34 [.t 15, .c (.int .i64 1), .t 18], none⟩,
      ⟨some 20, .not (.t 19), none⟩])
    (.cond (.t 20) (.seq (.reg [⟨some 6, .mov (.c (.str [])), none⟩,
      ⟨some 7, .mov (.c (.int .i64 1)), none⟩])
    .ret) .skip))
    (.seq (.reg [⟨some 21, .mov (.t 0), none⟩,
      ⟨some 22, .mov (.t 1), none⟩,
      ⟨some 23, .mov (.t 2), none⟩,
      ⟨some 24, .call 36 [.t 21, .t 22, .t 23], none⟩,
      ⟨some 6, .mov (.t 24), none⟩,
      ⟨some 7, .mov (.c (.int .i64 0)), none⟩])
    .ret))))
def rs_produce_Number : List IRes := [.t 6, .t 7]
theorem ck_produce_Number : chkF Tryd.prog Tryd.f21 ir_produce_Number rs_produce_Number 25 = true := by kernel_rfl
/- paperchase/chaselaw1.produces -/
def ir_chaselaw1_produces : IC :=
  (.seq (.reg [⟨some 0, .mov (.c (.bool false)), none⟩])
    (.seq (.reg [⟨some 4, .call 21 [.c (.str [65, 66]), .c (.int .i64 4), .c (.int .i64 7)], none⟩,
      ⟨some 3, .mov (.t 4), none⟩,
      ⟨some 5, .ext 0 (.t 3), none⟩,
      ⟨some 6, .ext 1 (.t 3), none⟩,
      ⟨some 1, .mov (.t 5), none⟩,
      ⟨some 2, .mov (.t 6), none⟩])
    (.seq (.reg [⟨some 7, .mov (.t 2), none⟩,
      ⟨some 8, .bin .eql (.t 7) (.c (.int .i64 0)), none⟩,
      ⟨some 9, .mov (.t 8), none⟩,
      ⟨some 10, .mov (.t 1), (some (9, true))⟩,
      ⟨some 11, .bin .eql (.t 10) (.c (.str [65, 66, 48, 48, 48, 55])), (some (9, true))⟩,
      ⟨some 12, .pick (.t 9) (.t 11) (.c (.bool false)), none⟩,
      ⟨some 0, .mov (.t 12), none⟩])
    .ret)))
def rs_chaselaw1_produces : List IRes := [.t 0]
theorem ck_chaselaw1_produces : chkF Tryd.prog Tryd.f8 ir_chaselaw1_produces rs_chaselaw1_produces 13 = true := by kernel_rfl

set_option linter.unusedVariables false

theorem var_blockP {P : Program} {w w' : World} {n : String} {g : Nat} (hg : P.globalNamed n = some g) (hb : w'.heap[g]? = w.heap[g]?) : w'.var? P n = w.var? P n := by
  simp only [World.var?, hg, Option.bind_some, hb]
theorem grow_seqP (w : World) (k : Nat) (os : Array Obj) : Grow w (Sort.grow (w.drewN k) os) (fun _ => False) := ⟨rfl, rfl, rfl, by simp [Sort.grow, World.drewN], fun b hb _ => by simp [Sort.grow, World.drewN, Array.getElem?_append_left hb]⟩
/-- E0, and the table that numerals read. -/
def E4 : Envt where
  ok w := E0.ok w ∧ Lib.TabIs Tryd.prog w "internal/strconv.uint64pow10" .u64 Lib.pow10Tab
  bl b := E0.bl b ∨ b = 2
  mono w w' hb h := ⟨E0.mono w w' (fun b hbb => hb b (.inl hbb)) h.1, (var_blockP (by kernel_rfl) (hb _ (.inr rfl))).trans h.2⟩
theorem up4 {f : FuncId} {args : List PV} {φ : PV → Prop} (h : PCall Tryd.prog E0 f args φ) : PCall Tryd.prog E4 f args φ := fun w U vs hU hE hEb hA => h w U vs hU hE.1 (fun c hc => hEb c (.inl hc)) hA
theorem Itoa_okP (n : Int) (h0 : -9223372036854775808 ≤ n) (h1 : n ≤ 9223372036854775807) : PCall Tryd.prog E4 44 [int n] (· = .str (Lib.itoa n)) :=
  pcall_flat rfl rfl fun w hE => (Any.strconv_Itoa Tryd.layItoa n h0 h1 w hE.2).mono fun e w' h => ⟨h.1, by obtain ⟨k, os, rfl⟩ := h.2; exact grow_seqP w k os⟩
def notCapP (c : UInt8) : Bool := decide ((c.toNat : Int) < 65) || decide ((90 : Int) < (c.toNat : Int))
def isPreFP (s : List UInt8) : Bool := (s.all fun c => !notCapP c) && inE s.length 1 8
def headFP (p : List UInt8) (d : Int) : Int := firstE [whenE (!isPreFP p) 3, whenE (!inE d 4 9) 1]
def powFP (d : Int) : Int := (10 : Int) ^ d.toNat
def writGP (it : Int → List UInt8) (p : List UInt8) (d n : Int) : List UInt8 := p ++ Lib.repeatL [48] (max 0 (d - (it n).length)).toNat ++ it n
def numGP (it : Int → List UInt8) (p : List UInt8) (d n : Int) : List UInt8 × Int := if headFP p d = 0 then (if inE n 1 (powFP d - 1) = true then (writGP it p d n, 0) else ([], 1)) else ([], headFP p d)
/-- Digits by recursion on a bound: for the kernel. -/
def ddP : Nat → Nat → List UInt8
  | 0, _ => []
  | f + 1, u => if u < 10 then [UInt8.ofNat (48 + u)] else ddP f (u / 10) ++ [UInt8.ofNat (48 + u % 10)]
theorem dd_eqP : ∀ (f u : Nat), u < 10 ^ f → 0 < f → Lib.decDigits u = ddP f u
  | 0, u, _, h => absurd h (by decide)
  | f + 1, u, h, _ => by
    rw [Lib.decDigits, ddP]
    by_cases hu : u < 10
    · rw [dif_pos hu, if_pos hu]
    · rw [dif_neg hu, if_neg hu]
      have hf : 0 < f := by
        rcases Nat.eq_zero_or_pos f with rfl | h'
        · simp at h; omega
        · exact h'
      rw [dd_eqP f (u / 10) (by rw [Nat.pow_succ] at h; omega) hf]
def itDP (n : Int) : List UInt8 := if n < 0 then 45 :: ddP 12 n.natAbs else ddP 12 n.toNat
theorem itD_eqP {n : Int} (h0 : -100000000000 ≤ n) (h1 : n ≤ 100000000000) : Lib.itoa n = itDP n := by
  unfold Lib.itoa itDP
  split
  · rw [dd_eqP 12 _ (by omega) (by decide)]
  · rw [dd_eqP 12 _ (by omega) (by decide)]
theorem powF_bdP {d : Int} (h : d ≤ 9) : 1 ≤ powFP d ∧ powFP d ≤ 1000000000 := by
  unfold powFP
  have h1 : (10 : Nat) ^ d.toNat ≤ 10 ^ 9 := Nat.pow_le_pow_right (by decide) (by omega)
  have h2 : 1 ≤ (10 : Nat) ^ d.toNat := Nat.one_le_pow _ _ (by decide)
  have h3 : ((10 : Int) ^ d.toNat) = (((10 : Nat) ^ d.toNat : Nat) : Int) := by simp
  rw [h3]
  omega
theorem headF_zeroP {p : List UInt8} {d : Int} (h : headFP p d = 0) : 4 ≤ d ∧ d ≤ 9 ∧ p.length ≤ 8 := by
  have hm := firstE_mem h
  have h1 := hm (whenE (!isPreFP p) 3) (by simp)
  have h2 := hm (whenE (!inE d 4 9) 1) (by simp)
  unfold whenE at h1 h2
  split at h1
  · cases h1
  split at h2
  · cases h2
  rename_i a1 a2
  simp only [Bool.not_eq_true', Bool.not_eq_false] at a1 a2
  simp only [isPreFP, inE, Bool.and_eq_true, decide_eq_true_eq] at a1 a2
  omega
theorem numG_itP {p : List UInt8} {d n : Int} (h0 : -100 ≤ n) (h1 : n ≤ 1000000000) : numGP Lib.itoa p d n = numGP itDP p d n := by
  unfold numGP writGP
  rw [itD_eqP (by omega) (by omega)]
section
variable {E : Envt}
theorem pow_atP {i : Nat} (h : i ≤ 9) : 1 ≤ (10 : Int) ^ i ∧ (10 : Int) ^ i ≤ 1000000000 := by
  have := powF_bdP (d := (i : Int)) (by omega)
  simpa [powFP] using this
theorem power_okP (d : Int) (h0 : 0 ≤ d) (h : d ≤ 9) : PCall Tryd.prog E 35 [int d] (· = int (powFP d)) := by
  obtain ⟨m, rfl⟩ := Int.eq_ofNat_of_zero_le h0
  refine pcallF mixed Tryd.func35 ck_produce_power ?_
  simp only [a0, l0, OS.ao, List.map_cons, List.map_nil, List.length_cons, List.length_nil, List.cons_append, List.nil_append, Nat.reduceSub, Nat.reduceAdd, List.replicate_succ, List.replicate_zero, ir_produce_power, rs_produce_power, ZZ, YY, Ze, ite_true, ite_false, forall_const, reduceCtorEq, Nat.reduceAdd, Nat.reduceMul, Nat.reduceLeDiff, Nat.reduceLT, Nat.reduceEqDiff]
  refine loop_intro (fun n fr L => ∃ (k : Nat), k ≤ m ∧ n = m - k ∧ fr = [.any, .any, .any, .p (int ((10 : Int) ^ k)), .p (int (m : Nat)), .p (int (k : Nat)), .any, .any, .any, .any, .any] ∧ L = []) (m) [.any, .any, .any, .p (int ((10 : Int) ^ 0)), .p (int (m : Nat)), .p (int (0 : Nat)), .any, .any, .any, .any, .any] [] (by (simp only [ZZ, YY, Ze, ite_true, ite_false, forall_const, reduceCtorEq, Nat.reduceAdd, Nat.reduceMul, Nat.reduceLeDiff, Nat.reduceLT, Nat.reduceEqDiff]; try trivial)) (by (simp only [ZZ, YY, Ze, ite_true, ite_false, forall_const, reduceCtorEq, Nat.reduceAdd, Nat.reduceMul, Nat.reduceLeDiff, Nat.reduceLT, Nat.reduceEqDiff]; try trivial)) ⟨0, by omega, by omega, rfl, rfl⟩ ?_
  rintro n fr L ⟨k, hk, rfl, rfl, rfl⟩
  simp only [ir_produce_power_L0, ZZ, YY, Ze, ite_true, ite_false, forall_const, reduceCtorEq, Nat.reduceAdd, Nat.reduceMul, Nat.reduceLeDiff, Nat.reduceLT, Nat.reduceEqDiff]
  refine br ?_ ?_
  · intro h2
    have hlt : k < m := by have := of_decide_eq_true h2; omega
    have hb := pow_atP (i := k) (by omega)
    have hp : (10 : Int) ^ (k + 1) = (10 : Int) ^ k * 10 := by rw [Int.pow_succ]
    simp only [ZZ, YY, Ze, ite_true, ite_false, forall_const, reduceCtorEq, Nat.reduceAdd, Nat.reduceMul, Nat.reduceLeDiff, Nat.reduceLT, Nat.reduceEqDiff]
    ((repeat' (with_reducible apply And.intro)) <;> try ((first | first | assumption | trivial | exact (fun hq => by rw [hq]; rfl) | exact i64_of (by omega) (by omega) | omega | (simp; done) | (simp; omega) | (intro hsc; have hs0 := hsc; (try have hsd := of_decide_eq_true hsc); (try simp only [Bool.not_eq_true', Bool.or_eq_false_iff, Bool.and_eq_true, Bool.or_eq_true, decide_eq_true_eq, decide_eq_false_iff_not] at hsc); (repeat' (with_reducible apply And.intro)) <;> (first | assumption | trivial | exact (fun hq => by rw [hq]; rfl) | exact i64_of (by omega) (by omega) | omega | (simp; done) | (simp; omega) | (intro hse; simp [hse, hs0]; done) | (intro hse; simp only [hse, hs0, Bool.true_and, Bool.and_true, Bool.not_false, Bool.not_true, Bool.and_self]; done))))))
    refine end_round (m - (k + 1)) [.any, .any, .any, .p (int ((10 : Int) ^ (k + 1))), .p (int (m : Nat)), .p (int ((k + 1) : Nat)), .any, .any, .any, .any, .any] [] (by omega) (by (simp only [ZZ, YY, Ze, ite_true, ite_false, forall_const, reduceCtorEq, Nat.reduceAdd, Nat.reduceMul, Nat.reduceLeDiff, Nat.reduceLT, Nat.reduceEqDiff]; try trivial)) (by simp only [ZZ, YY, Ze, ite_true, ite_false, forall_const, reduceCtorEq, Nat.reduceAdd, Nat.reduceMul, Nat.reduceLeDiff, Nat.reduceLT, Nat.reduceEqDiff]) ⟨k + 1, by omega, rfl, rfl, rfl⟩
  · intro h2
    have hge : k = m := by have := of_decide_eq_false h2; omega
    subst hge
    simp only [ZZ, YY, Ze, ite_true, ite_false, forall_const, reduceCtorEq, Nat.reduceAdd, Nat.reduceMul, Nat.reduceLeDiff, Nat.reduceLT, Nat.reduceEqDiff]
    rfl
theorem isPrefix_okP (s : List UInt8) (hs : s.length ≤ 1000000000) : PCall Tryd.prog E 43 [.str s] (· = .bool (isPreFP s)) := by
  refine pcallF mixed Tryd.func43 ck_produce_isPrefix ?_
  simp only [a0, l0, OS.ao, List.map_cons, List.map_nil, List.length_cons, List.length_nil, List.cons_append, List.nil_append, Nat.reduceSub, Nat.reduceAdd, List.replicate_succ, List.replicate_zero, ir_produce_isPrefix, rs_produce_isPrefix, ZZ, YY, Ze, ite_true, ite_false, forall_const, reduceCtorEq, Nat.reduceAdd, Nat.reduceMul, Nat.reduceLeDiff, Nat.reduceLT, Nat.reduceEqDiff]
  refine loop_intro (fun n fr L => ∃ (k : Nat), k ≤ s.length ∧ n = s.length - k ∧ ((s.take k).all (fun c => !notCapP c) = true) ∧ fr = [.p (.str s), .any, .any, .any, .any, .p (int (s.length : Nat)), .p (int (k : Nat)), .any, .any, .any, .any, .any, .any, .any, .any, .any, .any, .any, .any, .any, .any, .any, .any] ∧ L = []) (s.length) [.p (.str s), .any, .any, .any, .any, .p (int (s.length : Nat)), .p (int (0 : Nat)), .any, .any, .any, .any, .any, .any, .any, .any, .any, .any, .any, .any, .any, .any, .any, .any] [] (by (simp only [ZZ, YY, Ze, ite_true, ite_false, forall_const, reduceCtorEq, Nat.reduceAdd, Nat.reduceMul, Nat.reduceLeDiff, Nat.reduceLT, Nat.reduceEqDiff]; try trivial)) (by (simp only [ZZ, YY, Ze, ite_true, ite_false, forall_const, reduceCtorEq, Nat.reduceAdd, Nat.reduceMul, Nat.reduceLeDiff, Nat.reduceLT, Nat.reduceEqDiff]; try trivial)) ⟨0, by omega, by omega, by simp, rfl, rfl⟩ ?_
  rintro n fr L ⟨k, hk, rfl, hall, rfl, rfl⟩
  simp only [ir_produce_isPrefix_L0, ZZ, YY, Ze, ite_true, ite_false, forall_const, reduceCtorEq, Nat.reduceAdd, Nat.reduceMul, Nat.reduceLeDiff, Nat.reduceLT, Nat.reduceEqDiff]
  refine br ?_ ?_
  · intro h2
    have hlt : k < s.length := by have := of_decide_eq_true h2; omega
    have hx : s[k]? = some (s.getD k 0) := by rw [List.getElem?_eq_getElem hlt]; simp [List.getD, hlt]
    have hnx := all_take (p := fun c => !notCapP c) hx
    simp only [ZZ, YY, Ze, ite_true, ite_false, forall_const, reduceCtorEq, Nat.reduceAdd, Nat.reduceMul, Nat.reduceLeDiff, Nat.reduceLT, Nat.reduceEqDiff]
    ((repeat' (with_reducible apply And.intro)) <;> try ((first | first | assumption | trivial | exact (fun hq => by rw [hq]; rfl) | exact i64_of (by omega) (by omega) | omega | (simp; done) | (simp; omega) | (intro hsc; have hs0 := hsc; (try have hsd := of_decide_eq_true hsc); (try simp only [Bool.not_eq_true', Bool.or_eq_false_iff, Bool.and_eq_true, Bool.or_eq_true, decide_eq_true_eq, decide_eq_false_iff_not] at hsc); (repeat' (with_reducible apply And.intro)) <;> (first | assumption | trivial | exact (fun hq => by rw [hq]; rfl) | exact i64_of (by omega) (by omega) | omega | (simp; done) | (simp; omega) | (intro hse; simp [hse, hs0]; done) | (intro hse; simp only [hse, hs0, Bool.true_and, Bool.and_true, Bool.not_false, Bool.not_true, Bool.and_self]; done))))))
    refine br ?_ ?_
    · intro hb
      have hf : s.all (fun c => !notCapP c) = false := by
        rw [List.all_eq_false]
        refine ⟨s.getD k 0, List.mem_of_getElem? hx, ?_⟩
        rw [show notCapP (s.getD k 0) = true from hb]
        simp
      simp only [ZZ, YY, Ze, ite_true, ite_false, forall_const, reduceCtorEq, Nat.reduceAdd, Nat.reduceMul, Nat.reduceLeDiff, Nat.reduceLT, Nat.reduceEqDiff]
      rw [isPreFP, hf, Bool.false_and]
    · intro hb
      simp only [ZZ, YY, Ze, ite_true, ite_false, forall_const, reduceCtorEq, Nat.reduceAdd, Nat.reduceMul, Nat.reduceLeDiff, Nat.reduceLT, Nat.reduceEqDiff]
      ((repeat' (with_reducible apply And.intro)) <;> try ((first | first | assumption | trivial | exact (fun hq => by rw [hq]; rfl) | exact i64_of (by omega) (by omega) | omega | (simp; done) | (simp; omega) | (intro hsc; have hs0 := hsc; (try have hsd := of_decide_eq_true hsc); (try simp only [Bool.not_eq_true', Bool.or_eq_false_iff, Bool.and_eq_true, Bool.or_eq_true, decide_eq_true_eq, decide_eq_false_iff_not] at hsc); (repeat' (with_reducible apply And.intro)) <;> (first | assumption | trivial | exact (fun hq => by rw [hq]; rfl) | exact i64_of (by omega) (by omega) | omega | (simp; done) | (simp; omega) | (intro hse; simp [hse, hs0]; done) | (intro hse; simp only [hse, hs0, Bool.true_and, Bool.and_true, Bool.not_false, Bool.not_true, Bool.and_self]; done))))))
      refine end_round (s.length - (k + 1)) [.p (.str s), .any, .any, .any, .any, .p (int (s.length : Nat)), .p (int ((k + 1) : Nat)), .any, .any, .any, .any, .any, .any, .any, .any, .any, .any, .any, .any, .any, .any, .any, .any] [] (by omega) (by (simp only [ZZ, YY, Ze, ite_true, ite_false, forall_const, reduceCtorEq, Nat.reduceAdd, Nat.reduceMul, Nat.reduceLeDiff, Nat.reduceLT, Nat.reduceEqDiff]; try trivial)) (by (simp only [ZZ, YY, Ze, ite_true, ite_false, forall_const, reduceCtorEq, Nat.reduceAdd, Nat.reduceMul, Nat.reduceLeDiff, Nat.reduceLT, Nat.reduceEqDiff]; try trivial)) ⟨k + 1, by omega, rfl, by rw [hnx, hall, show notCapP (s.getD k 0) = false from hb]; rfl, rfl, rfl⟩
  · intro h2
    have hge : k = s.length := by have := of_decide_eq_false h2; omega
    subst hge
    rw [List.take_length] at hall
    simp only [ZZ, YY, Ze, ite_true, ite_false, forall_const, reduceCtorEq, Nat.reduceAdd, Nat.reduceMul, Nat.reduceLeDiff, Nat.reduceLT, Nat.reduceEqDiff]
    refine use1 (In_ok s.length 1 8) rfl (.inl rfl) ?_
    simp only [ZZ, YY, Ze, ite_true, ite_false, forall_const, reduceCtorEq, Nat.reduceAdd, Nat.reduceMul, Nat.reduceLeDiff, Nat.reduceLT, Nat.reduceEqDiff]
    rw [isPreFP, hall, Bool.true_and]
theorem headError_okP (p : List UInt8) (d : Int) (hs : p.length ≤ 1000000000) : PCall Tryd.prog E 33 [.str p, int d] (· = int (headFP p d)) := by
  refine pcallF mixed Tryd.func33 ck_produce_headError ?_
  simp only [a0, l0, OS.ao, List.map_cons, List.map_nil, List.length_cons, List.length_nil, List.cons_append, List.nil_append, Nat.reduceSub, Nat.reduceAdd, List.replicate_succ, List.replicate_zero, ir_produce_headError, rs_produce_headError, ZZ, YY, Ze, ite_true, ite_false, forall_const, reduceCtorEq, Nat.reduceAdd, Nat.reduceMul, Nat.reduceLeDiff, Nat.reduceLT, Nat.reduceEqDiff]
  refine use1 (isPrefix_okP p hs) rfl (.inl rfl) ?_
  simp only [ZZ, YY, Ze, ite_true, ite_false, forall_const, reduceCtorEq, Nat.reduceAdd, Nat.reduceMul, Nat.reduceLeDiff, Nat.reduceLT, Nat.reduceEqDiff]
  refine use1 (When_ok _ 3) rfl (.inl rfl) ?_
  simp only [ZZ, YY, Ze, ite_true, ite_false, forall_const, reduceCtorEq, Nat.reduceAdd, Nat.reduceMul, Nat.reduceLeDiff, Nat.reduceLT, Nat.reduceEqDiff]
  refine use1 (In_ok d 4 9) rfl (.inl rfl) ?_
  simp only [ZZ, YY, Ze, ite_true, ite_false, forall_const, reduceCtorEq, Nat.reduceAdd, Nat.reduceMul, Nat.reduceLeDiff, Nat.reduceLT, Nat.reduceEqDiff]
  refine use1 (When_ok _ 1) rfl (.inl rfl) ?_
  simp only [ZZ, YY, Ze, ite_true, ite_false, forall_const, reduceCtorEq, Nat.reduceAdd, Nat.reduceMul, Nat.reduceLeDiff, Nat.reduceLT, Nat.reduceEqDiff]
  refine use1 (First_ok [whenE (!isPreFP p) 3, whenE (!inE d 4 9) 1] (by simp)) rfl (.inl rfl) ?_
  simp only [ZZ, YY, Ze, ite_true, ite_false, forall_const, reduceCtorEq, Nat.reduceAdd, Nat.reduceMul, Nat.reduceLeDiff, Nat.reduceLT, Nat.reduceEqDiff]
  rfl
theorem itoa_lenP {n : Int} (h0 : 0 ≤ n) (h1 : n ≤ 100000000000) : (Lib.itoa n).length ≤ 20 := by
  rw [itD_eqP (by omega) h1]
  have : ∀ f u, (ddP f u).length ≤ f := by
    intro f
    induction f with
    | zero => intro u; simp [ddP]
    | succ f ih =>
      intro u
      rw [ddP]
      split
      · simp
      · have := ih (u / 10); simp; omega
  unfold itDP
  split
  · omega
  · have := this 12 n.toNat; omega
theorem written_okP (p : List UInt8) (d n : Int) (hp : p.length ≤ 8) (hd0 : 4 ≤ d) (hd : d ≤ 9) (h0 : 0 ≤ n) (h1 : n ≤ 1000000000) : PCall Tryd.prog E4 36 [.str p, int d, int n] (· = .str (writGP Lib.itoa p d n)) := by
  refine pcallF mixed Tryd.func36 ck_produce_written ?_
  simp only [a0, l0, OS.ao, List.map_cons, List.map_nil, List.length_cons, List.length_nil, List.cons_append, List.nil_append, Nat.reduceSub, Nat.reduceAdd, List.replicate_succ, List.replicate_zero, ir_produce_written, rs_produce_written, ZZ, YY, Ze, ite_true, ite_false, forall_const, reduceCtorEq, Nat.reduceAdd, Nat.reduceMul, Nat.reduceLeDiff, Nat.reduceLT, Nat.reduceEqDiff]
  refine use1 (Itoa_okP n (by omega) (by omega)) rfl (.inl rfl) ?_
  have hil := itoa_lenP h0 (by omega)
  unfold writGP
  generalize Lib.itoa n = it at *
  obtain ⟨m, hm⟩ := Int.eq_ofNat_of_zero_le (show 0 ≤ max 0 (d - (it.length : Int)) by omega)
  have hm9 : m ≤ 9 := by omega
  rw [hm, Int.toNat_natCast]
  simp only [ZZ, YY, Ze, ite_true, ite_false, forall_const, reduceCtorEq, Nat.reduceAdd, Nat.reduceMul, Nat.reduceLeDiff, Nat.reduceLT, Nat.reduceEqDiff, hm]
  ((repeat' (with_reducible apply And.intro)) <;> try ((first | first | assumption | trivial | exact (fun hq => by rw [hq]; rfl) | exact i64_of (by omega) (by omega) | omega | (simp; done) | (simp; omega) | (intro hsc; have hs0 := hsc; (try have hsd := of_decide_eq_true hsc); (try simp only [Bool.not_eq_true', Bool.or_eq_false_iff, Bool.and_eq_true, Bool.or_eq_true, decide_eq_true_eq, decide_eq_false_iff_not] at hsc); (repeat' (with_reducible apply And.intro)) <;> (first | assumption | trivial | exact (fun hq => by rw [hq]; rfl) | exact i64_of (by omega) (by omega) | omega | (simp; done) | (simp; omega) | (intro hse; simp [hse, hs0]; done) | (intro hse; simp only [hse, hs0, Bool.true_and, Bool.and_true, Bool.not_false, Bool.not_true, Bool.and_self]; done))))))
  refine use1 (Repeat_ok [48] m (by omega) (by simp)) rfl (.inl rfl) ?_
  have hrl : (Lib.repeatL [48] m).length ≤ 9 := by rw [Lib.repeatL_length]; simp; omega
  simp only [ZZ, YY, Ze, ite_true, ite_false, forall_const, reduceCtorEq, Nat.reduceAdd, Nat.reduceMul, Nat.reduceLeDiff, Nat.reduceLT, Nat.reduceEqDiff]
  ((repeat' (with_reducible apply And.intro)) <;> try ((first | first | assumption | trivial | exact (fun hq => by rw [hq]; rfl) | exact i64_of (by omega) (by omega) | omega | (simp; done) | (simp; omega) | (intro hsc; have hs0 := hsc; (try have hsd := of_decide_eq_true hsc); (try simp only [Bool.not_eq_true', Bool.or_eq_false_iff, Bool.and_eq_true, Bool.or_eq_true, decide_eq_true_eq, decide_eq_false_iff_not] at hsc); (repeat' (with_reducible apply And.intro)) <;> (first | assumption | trivial | exact (fun hq => by rw [hq]; rfl) | exact i64_of (by omega) (by omega) | omega | (simp; done) | (simp; omega) | (intro hse; simp [hse, hs0]; done) | (intro hse; simp only [hse, hs0, Bool.true_and, Bool.and_true, Bool.not_false, Bool.not_true, Bool.and_self]; done))))))
theorem Number_okP (p : List UInt8) (d n : Int) (hp : p.length ≤ 1000) : PCall Tryd.prog E4 21 [.str p, int d, int n] (· = .tup [.str (numGP Lib.itoa p d n).1, int (numGP Lib.itoa p d n).2]) := by
  refine pcallF mixed Tryd.func21 ck_produce_Number ?_
  simp only [a0, l0, OS.ao, List.map_cons, List.map_nil, List.length_cons, List.length_nil, List.cons_append, List.nil_append, Nat.reduceSub, Nat.reduceAdd, List.replicate_succ, List.replicate_zero, ir_produce_Number, rs_produce_Number, ZZ, YY, Ze, ite_true, ite_false, forall_const, reduceCtorEq, Nat.reduceAdd, Nat.reduceMul, Nat.reduceLeDiff, Nat.reduceLT, Nat.reduceEqDiff]
  refine use1 (headError_okP p d (by omega)) rfl (.inl rfl) ?_
  simp only [ZZ, YY, Ze, ite_true, ite_false, forall_const, reduceCtorEq, Nat.reduceAdd, Nat.reduceMul, Nat.reduceLeDiff, Nat.reduceLT, Nat.reduceEqDiff]
  unfold numGP
  refine br ?_ ?_
  · intro h
    have h : ¬ headFP p d = 0 := by simpa using h
    simp only [ZZ, YY, Ze, ite_true, ite_false, forall_const, reduceCtorEq, Nat.reduceAdd, Nat.reduceMul, Nat.reduceLeDiff, Nat.reduceLT, Nat.reduceEqDiff]
    rw [if_neg h]
  · intro h
    have h : headFP p d = 0 := by simpa using h
    obtain ⟨g1, g2, g3⟩ := headF_zeroP h
    have hb := powF_bdP g2
    rw [if_pos h]
    simp only [ZZ, YY, Ze, ite_true, ite_false, forall_const, reduceCtorEq, Nat.reduceAdd, Nat.reduceMul, Nat.reduceLeDiff, Nat.reduceLT, Nat.reduceEqDiff]
    refine use1 (power_okP d (by omega) g2) rfl (.inl rfl) ?_
    simp only [ZZ, YY, Ze, ite_true, ite_false, forall_const, reduceCtorEq, Nat.reduceAdd, Nat.reduceMul, Nat.reduceLeDiff, Nat.reduceLT, Nat.reduceEqDiff]
    ((repeat' (with_reducible apply And.intro)) <;> try ((first | first | assumption | trivial | exact (fun hq => by rw [hq]; rfl) | exact i64_of (by omega) (by omega) | omega | (simp; done) | (simp; omega) | (intro hsc; have hs0 := hsc; (try have hsd := of_decide_eq_true hsc); (try simp only [Bool.not_eq_true', Bool.or_eq_false_iff, Bool.and_eq_true, Bool.or_eq_true, decide_eq_true_eq, decide_eq_false_iff_not] at hsc); (repeat' (with_reducible apply And.intro)) <;> (first | assumption | trivial | exact (fun hq => by rw [hq]; rfl) | exact i64_of (by omega) (by omega) | omega | (simp; done) | (simp; omega) | (intro hse; simp [hse, hs0]; done) | (intro hse; simp only [hse, hs0, Bool.true_and, Bool.and_true, Bool.not_false, Bool.not_true, Bool.and_self]; done))))))
    refine use1 (In_ok n 1 (powFP d - 1)) rfl (.inl rfl) ?_
    simp only [ZZ, YY, Ze, ite_true, ite_false, forall_const, reduceCtorEq, Nat.reduceAdd, Nat.reduceMul, Nat.reduceLeDiff, Nat.reduceLT, Nat.reduceEqDiff]
    refine br ?_ ?_
    · intro h2
      have h2 : inE n 1 (powFP d - 1) = false := by simpa using h2
      simp only [ZZ, YY, Ze, ite_true, ite_false, forall_const, reduceCtorEq, Nat.reduceAdd, Nat.reduceMul, Nat.reduceLeDiff, Nat.reduceLT, Nat.reduceEqDiff]
      rw [if_neg (by rw [h2]; simp)]
    · intro h2
      have h2 : inE n 1 (powFP d - 1) = true := by simpa using h2
      have h3 := h2
      simp only [inE, Bool.and_eq_true, decide_eq_true_eq] at h3
      simp only [ZZ, YY, Ze, ite_true, ite_false, forall_const, reduceCtorEq, Nat.reduceAdd, Nat.reduceMul, Nat.reduceLeDiff, Nat.reduceLT, Nat.reduceEqDiff]
      refine use1 (written_okP p d n g3 g1 g2 (by omega) (by omega)) rfl (.inl rfl) ?_
      simp only [ZZ, YY, Ze, ite_true, ite_false, forall_const, reduceCtorEq, Nat.reduceAdd, Nat.reduceMul, Nat.reduceLeDiff, Nat.reduceLT, Nat.reduceEqDiff]
      rw [if_pos h2]
theorem produces_okP : PCall Tryd.prog E4 8 [] (· = .bool true) := by
  refine pcallF mixed Tryd.func8 ck_chaselaw1_produces ?_
  simp only [a0, l0, OS.ao, List.map_cons, List.map_nil, List.length_cons, List.length_nil, List.cons_append, List.nil_append, Nat.reduceSub, Nat.reduceAdd, List.replicate_succ, List.replicate_zero, ir_chaselaw1_produces, rs_chaselaw1_produces, ZZ, YY, Ze, ite_true, ite_false, forall_const, reduceCtorEq, Nat.reduceAdd, Nat.reduceMul, Nat.reduceLeDiff, Nat.reduceLT, Nat.reduceEqDiff]
  refine use1 (Number_okP [65, 66] 4 7 (by simp)) rfl (.inl rfl) ?_
  rw [numG_itP (by omega) (by omega), show numGP itDP [65, 66] 4 7 = ([65, 66, 48, 48, 48, 55], 0) from by decide +kernel]
  simp only [ZZ, YY, Ze, ite_true, ite_false, forall_const, reduceCtorEq, Nat.reduceAdd, Nat.reduceMul, Nat.reduceLeDiff, Nat.reduceLT, Nat.reduceEqDiff]
  rfl
end
end Go.Proofs.YthfpehmbellmcaaDoor

/- Tables that are put over others: their maker, given the maker of tables. -/
namespace Go.Proofs.YthfpehmbellmcaaDoor
open Go.RowKit
set_option linter.unusedVariables false
set_option linter.unusedSimpArgs false
set_option linter.defProp false

/- (*paperchase/chasemake.Stream).OverRows -/
def ir_chasemake_Stream_OverRows_L2 : IC :=
  (.seq (.reg [⟨some 54, .bin .lss (.t 53) (.t 52), none⟩])
    (.seq (.cond (.t 54) .skip (.exit 4))
    (.seq (.block 5 (.reg [⟨some 55, .mov (.t 11), none⟩,
      ⟨some 56, .mov (.t 0), none⟩,
      ⟨some 57, .bsl 1 [.c (.str [110]), .c (.str []), .c (.str [108, 10, 109])], none⟩,
      ⟨some 58, .call 13 [.t 56, .t 57], none⟩,
      ⟨none, .fz (.t 58), none⟩,
      ⟨some 59, .bsl 1 [.t 58], none⟩,
      ⟨some 60, .app 9 1 16 (.t 55) (.t 59), none⟩,
      ⟨some 11, .mov (.t 60), none⟩]))
    (.reg [⟨some 61, .bin .add (.t 53) (.c (.int .i64 1)), none⟩,
      ⟨some 53, .mov (.t 61), none⟩]))))
def ir_chasemake_Stream_OverRows_L1 : IC :=
  (.seq (.reg [⟨some 35, .bin .lss (.t 34) (.t 33), none⟩])
    (.seq (.cond (.t 35) .skip (.exit 2))
    (.seq (.block 3 (.seq (.reg [⟨some 36, .ixa 1 (.t 32) (.t 34), none⟩,
      ⟨some 37, .ld 1 false (.t 36), none⟩,
      ⟨some 10, .mov (.t 37), none⟩])
    (.seq (.reg [⟨some 38, .mov (.t 10), none⟩,
      ⟨some 39, .len (.t 38), none⟩,
      ⟨some 40, .bin .gtr (.t 39) (.c (.int .i64 0)), none⟩,
      ⟨some 41, .mov (.t 40), none⟩,
      ⟨some 42, .mov (.t 0), (some (41, true))⟩,
      ⟨some 43, .call 15 [.t 42, .c (.int .i64 3)], (some (41, true))⟩,
      ⟨some 44, .not (.t 43), (some (41, true))⟩,
      ⟨some 45, .pick (.t 41) (.t 44) (.c (.bool false)), none⟩])
    (.cond (.t 45) (.seq (.reg [⟨some 46, .mov (.t 10), none⟩,
      ⟨some 47, .ixa 1 (.t 46) (.c (.int .i64 0)), none⟩,
      ⟨some 48, .ld 1 false (.t 47), none⟩,
      ⟨some 49, .bsr 9 1 [.t 48], none⟩,
      ⟨some 11, .mov (.t 49), none⟩])
    (.seq (.seq (.reg [⟨some 50, .mov (.t 5), none⟩,
      ⟨some 51, .len (.t 50), none⟩,
      ⟨some 52, .bin .sub (.t 51) (.c (.int .i64 1)), none⟩,
      ⟨some 53, .mov (.c (.int .i64 0)), none⟩])
    (.block 4 (.loop ir_chasemake_Stream_OverRows_L2)))
    (.reg [⟨some 62, .mov (.t 8), none⟩,
      ⟨some 63, .mov (.t 11), none⟩,
      ⟨none, .fz (.t 63), none⟩,
      ⟨some 64, .bsl 1 [.t 63], none⟩,
      ⟨some 65, .app 36 1 24 (.t 62) (.t 64), none⟩,
      ⟨some 8, .mov (.t 65), none⟩]))) .skip))))
    (.cut (.reg [⟨some 66, .bin .add (.t 34) (.c (.int .i64 1)), none⟩,
      ⟨some 34, .mov (.t 66), none⟩])))))
def ir_chasemake_Stream_OverRows_L0 : IC :=
  (.seq (.reg [⟨some 16, .bin .lss (.t 15) (.t 14), none⟩])
    (.seq (.cond (.t 16) .skip (.exit 0))
    (.seq (.block 1 (.seq (.reg [⟨some 17, .ixa 1 (.t 13) (.t 15), none⟩,
      ⟨some 18, .ld 1 false (.t 17), none⟩,
      ⟨some 7, .mov (.t 18), none⟩])
    (.seq (.reg [⟨some 19, .mov (.t 0), none⟩,
      ⟨some 20, .call 15 [.t 19, .c (.int .i64 2)], none⟩])
    (.cond (.t 20) (.reg [⟨some 21, .mov (.t 5), none⟩,
      ⟨some 22, .mov (.t 7), none⟩,
      ⟨some 23, .bsl 1 [.t 22], none⟩,
      ⟨some 24, .app 9 1 16 (.t 21) (.t 23), none⟩,
      ⟨some 5, .mov (.t 24), none⟩]) .skip))))
    (.cut (.reg [⟨some 25, .bin .add (.t 15) (.c (.int .i64 1)), none⟩,
      ⟨some 15, .mov (.t 25), none⟩])))))
def ir_chasemake_Stream_OverRows : IC :=
  (.seq (.reg [⟨some 4, .mov (.c (.nl 1)), none⟩])
    (.seq (.reg [⟨some 12, .bsr 9 1 [.c (.str [105, 100])], none⟩,
      ⟨some 5, .mov (.t 12), none⟩])
    (.seq (.seq (.reg [⟨some 13, .bsl 1 [.c (.str [98]), .c (.str [110, 101, 119]), .c (.str [97]), .c (.str [109, 111, 114, 101])], none⟩,
      ⟨some 14, .len (.t 13), none⟩,
      ⟨some 15, .mov (.c (.int .i64 0)), none⟩])
    (.block 0 (.loop ir_chasemake_Stream_OverRows_L0)))
    (.seq (.reg [⟨some 26, .mov (.t 5), none⟩,
      ⟨none, .fz (.t 26), none⟩,
      ⟨some 27, .bsr 36 1 [.t 26], none⟩,
      ⟨some 8, .mov (.t 27), none⟩])
    (.seq (.seq (.reg [⟨some 28, .mov (.t 1), none⟩,
      ⟨some 29, .mov (.t 1), none⟩,
      ⟨some 30, .len (.t 29), none⟩,
      ⟨some 31, .mn (.c (.int .i64 1)) (.t 30), none⟩,
      ⟨some 32, .vsl 1 (.t 28) (some (.t 31)) none, none⟩,
      ⟨some 33, .len (.t 32), none⟩,
      ⟨some 34, .mov (.c (.int .i64 0)), none⟩])
    (.block 2 (.loop ir_chasemake_Stream_OverRows_L1)))
    (.seq (.seq (.reg [⟨some 67, .mov (.t 0), none⟩,
      ⟨some 68, .call 15 [.t 67, .c (.int .i64 12)], none⟩])
    (.cond (.t 68) (.reg [⟨some 69, .mov (.t 0), none⟩,
      ⟨some 70, .call 4 [.t 69], none⟩,
      ⟨some 8, .mov (.t 70), none⟩]) .skip))
    (.cut (.seq (.reg [⟨some 71, .mov (.t 8), none⟩,
      ⟨some 4, .mov (.t 71), none⟩])
    .ret))))))))
def rs_chasemake_Stream_OverRows : List IRes := [.t 4]
theorem ck_chasemake_Stream_OverRows : chkF Tryd.prog Tryd.f5 ir_chasemake_Stream_OverRows rs_chasemake_Stream_OverRows 72 = true := by kernel_rfl

def TabS (n : Nat) (t : Tab) : Prop := t.length ≤ n ∧ ∀ r ∈ t, r.length ≤ n ∧ ∀ s ∈ r, s.length ≤ n
/-- What LoadRows is to be. -/
def LrOk (E : Envt) : Prop := ∀ (l : List Int) (k : Nat), k ≤ 900000 → l.length ≤ 9223372036854775807 → SCall Tryd.prog E 4 T (stm l k) [] (fun x cs' => ∃ t k', x = .sl 1 (tbE t) ∧ TabS 100 t ∧ cs' = stm l k' ∧ k' ≤ k + 1000)
def hd4 : SRow := [[98], [110, 101, 119], [97], [109, 111, 114, 101]]
set_option maxHeartbeats 4000000 in
theorem OverRows_ok {E : Envt} (hLR : LrOk E) (l : List Int) (k : Nat) (t : Tab) (ht : TabS 100 t) (hk : k ≤ 800000) (hl : l.length ≤ 9223372036854775807) :
    SCall Tryd.prog E 5 T (stm l k) [.sl 1 (tbE t)] (fun x cs' => ∃ t' k', x = .sl 1 (tbE t') ∧ TabS 200 t' ∧ cs' = stm l k' ∧ k' ≤ k + 20000) := by
  obtain ⟨t1, t2⟩ := ht
  unfold SCall
  refine gcallP mixed Tryd.func5 ck_chasemake_Stream_OverRows ?_
  simp only [a0, l0, OS.ao, List.map_cons, List.map_nil, List.length_cons, List.length_nil, List.cons_append, List.nil_append, Nat.reduceSub, Nat.reduceAdd, List.replicate_succ, List.replicate_zero, ir_chasemake_Stream_OverRows, rs_chasemake_Stream_OverRows, ZZ, YY, Ze, ite_true, ite_false, forall_const, reduceCtorEq, Nat.reduceAdd, Nat.reduceMul, Nat.reduceLeDiff, Nat.reduceLT, Nat.reduceEqDiff]
  have hq : ([[PV.str [98]], [PV.str [110, 101, 119]], [PV.str [97]], [PV.str [109, 111, 114, 101]]] : List (List PV)) = strE hd4 := rfl
  have hh : ([[PV.str [105, 100]]] : List (List PV)) = strE [[105, 100]] := rfl
  rw [hq, hh]
  refine loop_intro (fun n fr L => ∃ (j : Nat) (k' : Nat) (hs : SRow), j ≤ 4 ∧ n = 4 - j ∧ (k' ≤ k + j) ∧ (1 ≤ hs.length ∧ hs.length ≤ 1 + j) ∧ (∀ s ∈ hs, s.length ≤ 4) ∧ fr = [.adr (.b 0) 0, .p (.sl 1 (tbE t)), .any, .any, .any, .row (.l 12), .any, .any, .any, .any, .any, .any, .any, .p (.sl 1 (strE hd4)), .p (int (4 : Nat)), .p (int (j : Nat)), .any, .any, .any, .any, .any, .any, .any, .any, .any, .any, .any, .any, .any, .any, .any, .any, .any, .any, .any, .any, .any, .any, .any, .any, .any, .any, .any, .any, .any, .any, .any, .any, .any, .any, .any, .any, .any, .any, .any, .any, .any, .any, .any, .any, .any, .any, .any, .any, .any, .any, .any, .any, .any, .any, .any, .any] ∧ L = [(.b 0, .box ((stm l k').map .p) T), (.l 12, .row (strE hs) tStr 1 true)]) (4) [.adr (.b 0) 0, .p (.sl 1 (tbE t)), .any, .any, .any, .row (.l 12), .any, .any, .any, .any, .any, .any, .any, .p (.sl 1 (strE hd4)), .p (int (4 : Nat)), .p (int (0 : Nat)), .any, .any, .any, .any, .any, .any, .any, .any, .any, .any, .any, .any, .any, .any, .any, .any, .any, .any, .any, .any, .any, .any, .any, .any, .any, .any, .any, .any, .any, .any, .any, .any, .any, .any, .any, .any, .any, .any, .any, .any, .any, .any, .any, .any, .any, .any, .any, .any, .any, .any, .any, .any, .any, .any, .any, .any] [(.b 0, .box ((stm l k).map .p) T), (.l 12, .row (strE ([[105, 100]])) tStr 1 true)] (by simp only [ZZ, YY, Ze, ite_true, ite_false, forall_const, reduceCtorEq, Nat.reduceAdd, Nat.reduceMul, Nat.reduceLeDiff, Nat.reduceLT, Nat.reduceEqDiff, strE_len]; try trivial) (by (simp only [ZZ, YY, Ze, ite_true, ite_false, forall_const, reduceCtorEq, Nat.reduceAdd, Nat.reduceMul, Nat.reduceLeDiff, Nat.reduceLT, Nat.reduceEqDiff]; try trivial)) ⟨0, k, [[105, 100]], by omega, by omega, by omega, by simp, by simp, rfl, rfl⟩ ?_
  rintro n fr L ⟨j, k', hs, hj, rfl, hk', hsl, hsb, rfl, rfl⟩
  simp only [ir_chasemake_Stream_OverRows_L0, ZZ, YY, Ze, ite_true, ite_false, forall_const, reduceCtorEq, Nat.reduceAdd, Nat.reduceMul, Nat.reduceLeDiff, Nat.reduceLT, Nat.reduceEqDiff]
  refine br ?_ ?_
  · intro h
    have hlt : j < hd4.length := by have := of_decide_eq_true h; show j < 4; omega
    have hj4 : j < 4 := hlt
    obtain ⟨x, hx⟩ : ∃ x, hd4[j]? = some x := ⟨_, List.getElem?_eq_getElem hlt⟩
    have hg : (strE hd4).getD j [] = [.str x] := strE_get hx
    have hx4 : x.length ≤ 4 := (show ∀ s ∈ hd4, s.length ≤ 4 by decide) x (List.mem_of_getElem? hx)
    have e3 : ∀ (l : List (List UInt8)) (s : List UInt8), strE l ++ [[PV.str s]] = strE (l ++ [s]) := by intro l s; simp [strE]
    simp only [ZZ, YY, Ze, ite_true, ite_false, forall_const, reduceCtorEq, Nat.reduceAdd, Nat.reduceMul, Nat.reduceLeDiff, Nat.reduceLT, Nat.reduceEqDiff, hg, strE_len]
    ((repeat' (with_reducible apply And.intro)) <;> try ((first | first | assumption | trivial | exact (fun hq => by rw [hq]; rfl) | exact i64_of (by omega) (by omega) | omega | (simp; done) | (simp; omega) | (intro hsc; have hs0 := hsc; (try have hsd := of_decide_eq_true hsc); (try simp only [Bool.not_eq_true', Bool.or_eq_false_iff, Bool.and_eq_true, Bool.or_eq_true, decide_eq_true_eq, decide_eq_false_iff_not] at hsc); (repeat' (with_reducible apply And.intro)) <;> (first | assumption | trivial | exact (fun hq => by rw [hq]; rfl) | exact i64_of (by omega) (by omega) | omega | (simp; done) | (simp; omega) | (intro hse; simp [hse, hs0]; done) | (intro hse; simp only [hse, hs0, Bool.true_and, Bool.and_true, Bool.not_false, Bool.not_true, Bool.and_self]; done))))))
    refine useS (Flip_ok l k' 2 (by omega) hl (by omega)) rfl rfl rfl (by simp only [ZZ, YY, Ze, ite_true, ite_false, forall_const, reduceCtorEq, Nat.reduceAdd, Nat.reduceMul, Nat.reduceLeDiff, Nat.reduceLT, Nat.reduceEqDiff]) ?_
    rintro y cs' ⟨f, rfl, rfl⟩
    simp only [ZZ, YY, Ze, ite_true, ite_false, forall_const, reduceCtorEq, Nat.reduceAdd, Nat.reduceMul, Nat.reduceLeDiff, Nat.reduceLT, Nat.reduceEqDiff]
    refine br ?_ ?_
    · intro hf
      simp only [ZZ, YY, Ze, ite_true, ite_false, forall_const, reduceCtorEq, Nat.reduceAdd, Nat.reduceMul, Nat.reduceLeDiff, Nat.reduceLT, Nat.reduceEqDiff, e3, strE_len]
      ((repeat' (with_reducible apply And.intro)) <;> try ((first | first | assumption | trivial | exact (fun hq => by rw [hq]; rfl) | exact i64_of (by omega) (by omega) | omega | (simp; done) | (simp; omega) | (intro hsc; have hs0 := hsc; (try have hsd := of_decide_eq_true hsc); (try simp only [Bool.not_eq_true', Bool.or_eq_false_iff, Bool.and_eq_true, Bool.or_eq_true, decide_eq_true_eq, decide_eq_false_iff_not] at hsc); (repeat' (with_reducible apply And.intro)) <;> (first | assumption | trivial | exact (fun hq => by rw [hq]; rfl) | exact i64_of (by omega) (by omega) | omega | (simp; done) | (simp; omega) | (intro hse; simp [hse, hs0]; done) | (intro hse; simp only [hse, hs0, Bool.true_and, Bool.and_true, Bool.not_false, Bool.not_true, Bool.and_self]; done))))))
      refine cut_same (by simp only [ZZ, YY, Ze, ite_true, ite_false, forall_const, reduceCtorEq, Nat.reduceAdd, Nat.reduceMul, Nat.reduceLeDiff, Nat.reduceLT, Nat.reduceEqDiff]) ?_
      simp only [ZZ, YY, Ze, ite_true, ite_false, forall_const, reduceCtorEq, Nat.reduceAdd, Nat.reduceMul, Nat.reduceLeDiff, Nat.reduceLT, Nat.reduceEqDiff]
      ((repeat' (with_reducible apply And.intro)) <;> try ((first | first | assumption | trivial | exact (fun hq => by rw [hq]; rfl) | exact i64_of (by omega) (by omega) | omega | (simp; done) | (simp; omega) | (intro hsc; have hs0 := hsc; (try have hsd := of_decide_eq_true hsc); (try simp only [Bool.not_eq_true', Bool.or_eq_false_iff, Bool.and_eq_true, Bool.or_eq_true, decide_eq_true_eq, decide_eq_false_iff_not] at hsc); (repeat' (with_reducible apply And.intro)) <;> (first | assumption | trivial | exact (fun hq => by rw [hq]; rfl) | exact i64_of (by omega) (by omega) | omega | (simp; done) | (simp; omega) | (intro hse; simp [hse, hs0]; done) | (intro hse; simp only [hse, hs0, Bool.true_and, Bool.and_true, Bool.not_false, Bool.not_true, Bool.and_self]; done))))))
      refine end_round (4 - (j + 1)) [.adr (.b 0) 0, .p (.sl 1 (tbE t)), .any, .any, .any, .row (.l 12), .any, .any, .any, .any, .any, .any, .any, .p (.sl 1 (strE hd4)), .p (int (4 : Nat)), .p (int ((j + 1) : Nat)), .any, .any, .any, .any, .any, .any, .any, .any, .any, .any, .any, .any, .any, .any, .any, .any, .any, .any, .any, .any, .any, .any, .any, .any, .any, .any, .any, .any, .any, .any, .any, .any, .any, .any, .any, .any, .any, .any, .any, .any, .any, .any, .any, .any, .any, .any, .any, .any, .any, .any, .any, .any, .any, .any, .any, .any] [(.b 0, .box ((stm l (k' + 1)).map .p) T), (.l 12, .row (strE (hs ++ [x])) tStr 1 true)] (by omega) (by (simp only [ZZ, YY, Ze, ite_true, ite_false, forall_const, reduceCtorEq, Nat.reduceAdd, Nat.reduceMul, Nat.reduceLeDiff, Nat.reduceLT, Nat.reduceEqDiff]; try trivial)) (by (simp only [ZZ, YY, Ze, ite_true, ite_false, forall_const, reduceCtorEq, Nat.reduceAdd, Nat.reduceMul, Nat.reduceLeDiff, Nat.reduceLT, Nat.reduceEqDiff]; try trivial)) ⟨j + 1, k' + 1, hs ++ [x], by omega, rfl, by omega, by simp; omega, by intro s hs'; rcases List.mem_append.1 hs' with h | h; exact hsb s h; rw [List.mem_singleton] at h; subst h; exact hx4, rfl, rfl⟩
    · intro hf
      simp only [ZZ, YY, Ze, ite_true, ite_false, forall_const, reduceCtorEq, Nat.reduceAdd, Nat.reduceMul, Nat.reduceLeDiff, Nat.reduceLT, Nat.reduceEqDiff]
      refine cut_same (by simp only [ZZ, YY, Ze, ite_true, ite_false, forall_const, reduceCtorEq, Nat.reduceAdd, Nat.reduceMul, Nat.reduceLeDiff, Nat.reduceLT, Nat.reduceEqDiff]) ?_
      simp only [ZZ, YY, Ze, ite_true, ite_false, forall_const, reduceCtorEq, Nat.reduceAdd, Nat.reduceMul, Nat.reduceLeDiff, Nat.reduceLT, Nat.reduceEqDiff]
      ((repeat' (with_reducible apply And.intro)) <;> try ((first | first | assumption | trivial | exact (fun hq => by rw [hq]; rfl) | exact i64_of (by omega) (by omega) | omega | (simp; done) | (simp; omega) | (intro hsc; have hs0 := hsc; (try have hsd := of_decide_eq_true hsc); (try simp only [Bool.not_eq_true', Bool.or_eq_false_iff, Bool.and_eq_true, Bool.or_eq_true, decide_eq_true_eq, decide_eq_false_iff_not] at hsc); (repeat' (with_reducible apply And.intro)) <;> (first | assumption | trivial | exact (fun hq => by rw [hq]; rfl) | exact i64_of (by omega) (by omega) | omega | (simp; done) | (simp; omega) | (intro hse; simp [hse, hs0]; done) | (intro hse; simp only [hse, hs0, Bool.true_and, Bool.and_true, Bool.not_false, Bool.not_true, Bool.and_self]; done))))))
      refine end_round (4 - (j + 1)) [.adr (.b 0) 0, .p (.sl 1 (tbE t)), .any, .any, .any, .row (.l 12), .any, .any, .any, .any, .any, .any, .any, .p (.sl 1 (strE hd4)), .p (int (4 : Nat)), .p (int ((j + 1) : Nat)), .any, .any, .any, .any, .any, .any, .any, .any, .any, .any, .any, .any, .any, .any, .any, .any, .any, .any, .any, .any, .any, .any, .any, .any, .any, .any, .any, .any, .any, .any, .any, .any, .any, .any, .any, .any, .any, .any, .any, .any, .any, .any, .any, .any, .any, .any, .any, .any, .any, .any, .any, .any, .any, .any, .any, .any] [(.b 0, .box ((stm l (k' + 1)).map .p) T), (.l 12, .row (strE hs) tStr 1 true)] (by omega) (by (simp only [ZZ, YY, Ze, ite_true, ite_false, forall_const, reduceCtorEq, Nat.reduceAdd, Nat.reduceMul, Nat.reduceLeDiff, Nat.reduceLT, Nat.reduceEqDiff]; try trivial)) (by (simp only [ZZ, YY, Ze, ite_true, ite_false, forall_const, reduceCtorEq, Nat.reduceAdd, Nat.reduceMul, Nat.reduceLeDiff, Nat.reduceLT, Nat.reduceEqDiff]; try trivial)) ⟨j + 1, k' + 1, hs, by omega, rfl, by omega, by omega, hsb, rfl, rfl⟩
  · intro h
    have hge : j = 4 := by have := of_decide_eq_false h; omega
    have hsing : ([[PV.sl 1 (strE hs)]] : List (List PV)) = tbE [hs] := rfl
    obtain ⟨st, hst⟩ : ∃ st, st = min 1 t.length := ⟨_, rfl⟩
    have hmn : min (1 : Int) (t.length : Nat) = (st : Nat) := by omega
    have htt : (tbE t).take t.length = tbE t := List.take_of_length_le (by rw [tbE_len]; exact Nat.le_refl _)
    simp only [ZZ, YY, Ze, ite_true, ite_false, forall_const, reduceCtorEq, Nat.reduceAdd, Nat.reduceMul, Nat.reduceLeDiff, Nat.reduceLT, Nat.reduceEqDiff, tbE_len, hmn, htt, tbE_drop, hsing]
    ((repeat' (with_reducible apply And.intro)) <;> try ((first | first | assumption | trivial | exact (fun hq => by rw [hq]; rfl) | exact i64_of (by omega) (by omega) | omega | (simp; done) | (simp; omega) | (intro hsc; have hs0 := hsc; (try have hsd := of_decide_eq_true hsc); (try simp only [Bool.not_eq_true', Bool.or_eq_false_iff, Bool.and_eq_true, Bool.or_eq_true, decide_eq_true_eq, decide_eq_false_iff_not] at hsc); (repeat' (with_reducible apply And.intro)) <;> (first | assumption | trivial | exact (fun hq => by rw [hq]; rfl) | exact i64_of (by omega) (by omega) | omega | (simp; done) | (simp; omega) | (intro hse; simp [hse, hs0]; done) | (intro hse; simp only [hse, hs0, Bool.true_and, Bool.and_true, Bool.not_false, Bool.not_true, Bool.and_self]; done))))))
    have u1 : (t.drop st).length ≤ 100 := by simp; omega
    have u2 : ∀ r ∈ t.drop st, r.length ≤ 100 ∧ ∀ s ∈ r, s.length ≤ 100 := fun r hr => t2 r (List.mem_of_mem_drop hr)
    have o1 : ∀ r ∈ [hs], r.length ≤ 200 ∧ ∀ s ∈ r, s.length ≤ 200 := by
      intro r hr
      rw [List.mem_singleton] at hr
      subst hr
      exact ⟨by omega, fun s hs' => by have := hsb s hs'; omega⟩
    generalize t.drop st = u at *
    obtain ⟨hn, hnl⟩ : ∃ hn, hs.length = hn + 1 := ⟨hs.length - 1, by omega⟩
    refine loop_intro (fun n fr L => ∃ (q : Nat) (k2 : Nat) (out : Tab), q ≤ u.length ∧ n = u.length - q ∧ (k2 ≤ k + 4 + 6 * q) ∧ (out.length ≤ 1 + q) ∧ (∀ r ∈ out, r.length ≤ 200 ∧ ∀ s ∈ r, s.length ≤ 200) ∧ fr = [.adr (.b 0) 0, .p (.sl 1 (tbE t)), .any, .any, .any, .p (.sl 1 (strE hs)), .any, .any, .row (.l 27), .any, .any, .any, .any, .any, .any, .any, .any, .any, .any, .any, .any, .any, .any, .any, .any, .any, .any, .any, .any, .any, .any, .any, .p (.sl 1 (tbE u)), .p (int (u.length : Nat)), .p (int (q : Nat)), .any, .any, .any, .any, .any, .any, .any, .any, .any, .any, .any, .any, .any, .any, .any, .any, .any, .any, .any, .any, .any, .any, .any, .any, .any, .any, .any, .any, .any, .any, .any, .any, .any, .any, .any, .any, .any] ∧ L = [(.b 0, .box ((stm l k2).map .p) T), (.l 27, .row (tbE out) 36 1 true)]) (u.length) [.adr (.b 0) 0, .p (.sl 1 (tbE t)), .any, .any, .any, .p (.sl 1 (strE hs)), .any, .any, .row (.l 27), .any, .any, .any, .any, .any, .any, .any, .any, .any, .any, .any, .any, .any, .any, .any, .any, .any, .any, .any, .any, .any, .any, .any, .p (.sl 1 (tbE u)), .p (int (u.length : Nat)), .p (int (0 : Nat)), .any, .any, .any, .any, .any, .any, .any, .any, .any, .any, .any, .any, .any, .any, .any, .any, .any, .any, .any, .any, .any, .any, .any, .any, .any, .any, .any, .any, .any, .any, .any, .any, .any, .any, .any, .any, .any] [(.b 0, .box ((stm l (k')).map .p) T), (.l 27, .row (tbE [hs]) 36 1 true)] (by simp only [ZZ, YY, Ze, ite_true, ite_false, forall_const, reduceCtorEq, Nat.reduceAdd, Nat.reduceMul, Nat.reduceLeDiff, Nat.reduceLT, Nat.reduceEqDiff, tbE_len]; try trivial) (by (simp only [ZZ, YY, Ze, ite_true, ite_false, forall_const, reduceCtorEq, Nat.reduceAdd, Nat.reduceMul, Nat.reduceLeDiff, Nat.reduceLT, Nat.reduceEqDiff]; try trivial)) ⟨0, k', [hs], by omega, by omega, by omega, by simp, o1, rfl, rfl⟩ ?_
    rintro n fr L ⟨q, k2, out, hq, rfl, hk2, hol, hob, rfl, rfl⟩
    simp only [ir_chasemake_Stream_OverRows_L1, ZZ, YY, Ze, ite_true, ite_false, forall_const, reduceCtorEq, Nat.reduceAdd, Nat.reduceMul, Nat.reduceLeDiff, Nat.reduceLT, Nat.reduceEqDiff]
    refine br ?_ ?_
    · intro h2
      have hlt : q < u.length := by have := of_decide_eq_true h2; omega
      obtain ⟨r, hr⟩ : ∃ r, u[q]? = some r := ⟨_, List.getElem?_eq_getElem hlt⟩
      have hg := tbE_get hr
      have hrb := u2 r (List.mem_of_getElem? hr)
      have hap : tbE out ++ [[PV.sl 1 (strE r)]] = tbE (out ++ [r]) := by simp [tbE]
      by_cases hr0 : r.length = 0
      · have hd : decide ((0 : Int) < (r.length : Nat)) = false := decide_eq_false (by omega)
        simp only [ZZ, YY, Ze, ite_true, ite_false, forall_const, reduceCtorEq, Nat.reduceAdd, Nat.reduceMul, Nat.reduceLeDiff, Nat.reduceLT, Nat.reduceEqDiff, hg, tbE_len, strE_len, hd]
        ((repeat' (with_reducible apply And.intro)) <;> try ((first | first | assumption | trivial | exact (fun hq => by rw [hq]; rfl) | exact i64_of (by omega) (by omega) | omega | (simp; done) | (simp; omega) | (intro hsc; have hs0 := hsc; (try have hsd := of_decide_eq_true hsc); (try simp only [Bool.not_eq_true', Bool.or_eq_false_iff, Bool.and_eq_true, Bool.or_eq_true, decide_eq_true_eq, decide_eq_false_iff_not] at hsc); (repeat' (with_reducible apply And.intro)) <;> (first | assumption | trivial | exact (fun hq => by rw [hq]; rfl) | exact i64_of (by omega) (by omega) | omega | (simp; done) | (simp; omega) | (intro hse; simp [hse, hs0]; done) | (intro hse; simp only [hse, hs0, Bool.true_and, Bool.and_true, Bool.not_false, Bool.not_true, Bool.and_self]; done))))))
        refine useGC (fun h => by cases h) (fun _ => ?_)
        simp only [ZZ, YY, Ze, ite_true, ite_false, forall_const, reduceCtorEq, Nat.reduceAdd, Nat.reduceMul, Nat.reduceLeDiff, Nat.reduceLT, Nat.reduceEqDiff]
        refine cut_same (by simp only [ZZ, YY, Ze, ite_true, ite_false, forall_const, reduceCtorEq, Nat.reduceAdd, Nat.reduceMul, Nat.reduceLeDiff, Nat.reduceLT, Nat.reduceEqDiff]) ?_
        simp only [ZZ, YY, Ze, ite_true, ite_false, forall_const, reduceCtorEq, Nat.reduceAdd, Nat.reduceMul, Nat.reduceLeDiff, Nat.reduceLT, Nat.reduceEqDiff]
        ((repeat' (with_reducible apply And.intro)) <;> try ((first | first | assumption | trivial | exact (fun hq => by rw [hq]; rfl) | exact i64_of (by omega) (by omega) | omega | (simp; done) | (simp; omega) | (intro hsc; have hs0 := hsc; (try have hsd := of_decide_eq_true hsc); (try simp only [Bool.not_eq_true', Bool.or_eq_false_iff, Bool.and_eq_true, Bool.or_eq_true, decide_eq_true_eq, decide_eq_false_iff_not] at hsc); (repeat' (with_reducible apply And.intro)) <;> (first | assumption | trivial | exact (fun hq => by rw [hq]; rfl) | exact i64_of (by omega) (by omega) | omega | (simp; done) | (simp; omega) | (intro hse; simp [hse, hs0]; done) | (intro hse; simp only [hse, hs0, Bool.true_and, Bool.and_true, Bool.not_false, Bool.not_true, Bool.and_self]; done))))))
        refine end_round (u.length - (q + 1)) [.adr (.b 0) 0, .p (.sl 1 (tbE t)), .any, .any, .any, .p (.sl 1 (strE hs)), .any, .any, .row (.l 27), .any, .any, .any, .any, .any, .any, .any, .any, .any, .any, .any, .any, .any, .any, .any, .any, .any, .any, .any, .any, .any, .any, .any, .p (.sl 1 (tbE u)), .p (int (u.length : Nat)), .p (int ((q + 1) : Nat)), .any, .any, .any, .any, .any, .any, .any, .any, .any, .any, .any, .any, .any, .any, .any, .any, .any, .any, .any, .any, .any, .any, .any, .any, .any, .any, .any, .any, .any, .any, .any, .any, .any, .any, .any, .any, .any] [(.b 0, .box ((stm l k2).map .p) T), (.l 27, .row (tbE out) 36 1 true)] (by omega) (by (simp only [ZZ, YY, Ze, ite_true, ite_false, forall_const, reduceCtorEq, Nat.reduceAdd, Nat.reduceMul, Nat.reduceLeDiff, Nat.reduceLT, Nat.reduceEqDiff]; try trivial)) (by (simp only [ZZ, YY, Ze, ite_true, ite_false, forall_const, reduceCtorEq, Nat.reduceAdd, Nat.reduceMul, Nat.reduceLeDiff, Nat.reduceLT, Nat.reduceEqDiff]; try trivial)) ⟨q + 1, k2, out, by omega, rfl, by omega, by omega, hob, rfl, rfl⟩
      · have hd : decide ((0 : Int) < (r.length : Nat)) = true := decide_eq_true (by omega)
        obtain ⟨s, hs0⟩ : ∃ s, r[0]? = some s := ⟨_, List.getElem?_eq_getElem (by omega)⟩
        have hg0 : (strE r).getD (Int.toNat 0) [] = [.str s] := strE_get hs0
        simp only [ZZ, YY, Ze, ite_true, ite_false, forall_const, reduceCtorEq, Nat.reduceAdd, Nat.reduceMul, Nat.reduceLeDiff, Nat.reduceLT, Nat.reduceEqDiff, hg, tbE_len, strE_len, hd]
        ((repeat' (with_reducible apply And.intro)) <;> try ((first | first | assumption | trivial | exact (fun hq => by rw [hq]; rfl) | exact i64_of (by omega) (by omega) | omega | (simp; done) | (simp; omega) | (intro hsc; have hs0 := hsc; (try have hsd := of_decide_eq_true hsc); (try simp only [Bool.not_eq_true', Bool.or_eq_false_iff, Bool.and_eq_true, Bool.or_eq_true, decide_eq_true_eq, decide_eq_false_iff_not] at hsc); (repeat' (with_reducible apply And.intro)) <;> (first | assumption | trivial | exact (fun hq => by rw [hq]; rfl) | exact i64_of (by omega) (by omega) | omega | (simp; done) | (simp; omega) | (intro hse; simp [hse, hs0]; done) | (intro hse; simp only [hse, hs0, Bool.true_and, Bool.and_true, Bool.not_false, Bool.not_true, Bool.and_self]; done))))))
        refine useGC (fun _ => ?_) (fun h => by cases h)
        refine useS (Flip_ok l k2 3 (by omega) hl (by omega)) rfl rfl rfl (by simp only [ZZ, YY, Ze, ite_true, ite_false, forall_const, reduceCtorEq, Nat.reduceAdd, Nat.reduceMul, Nat.reduceLeDiff, Nat.reduceLT, Nat.reduceEqDiff]) ?_
        rintro y cs' ⟨f, rfl, rfl⟩
        cases f
        rotate_left
        · simp only [ZZ, YY, Ze, ite_true, ite_false, forall_const, reduceCtorEq, Nat.reduceAdd, Nat.reduceMul, Nat.reduceLeDiff, Nat.reduceLT, Nat.reduceEqDiff]
          refine cut_same (by simp only [ZZ, YY, Ze, ite_true, ite_false, forall_const, reduceCtorEq, Nat.reduceAdd, Nat.reduceMul, Nat.reduceLeDiff, Nat.reduceLT, Nat.reduceEqDiff]) ?_
          simp only [ZZ, YY, Ze, ite_true, ite_false, forall_const, reduceCtorEq, Nat.reduceAdd, Nat.reduceMul, Nat.reduceLeDiff, Nat.reduceLT, Nat.reduceEqDiff]
          ((repeat' (with_reducible apply And.intro)) <;> try ((first | first | assumption | trivial | exact (fun hq => by rw [hq]; rfl) | exact i64_of (by omega) (by omega) | omega | (simp; done) | (simp; omega) | (intro hsc; have hs0 := hsc; (try have hsd := of_decide_eq_true hsc); (try simp only [Bool.not_eq_true', Bool.or_eq_false_iff, Bool.and_eq_true, Bool.or_eq_true, decide_eq_true_eq, decide_eq_false_iff_not] at hsc); (repeat' (with_reducible apply And.intro)) <;> (first | assumption | trivial | exact (fun hq => by rw [hq]; rfl) | exact i64_of (by omega) (by omega) | omega | (simp; done) | (simp; omega) | (intro hse; simp [hse, hs0]; done) | (intro hse; simp only [hse, hs0, Bool.true_and, Bool.and_true, Bool.not_false, Bool.not_true, Bool.and_self]; done))))))
          refine end_round (u.length - (q + 1)) [.adr (.b 0) 0, .p (.sl 1 (tbE t)), .any, .any, .any, .p (.sl 1 (strE hs)), .any, .any, .row (.l 27), .any, .any, .any, .any, .any, .any, .any, .any, .any, .any, .any, .any, .any, .any, .any, .any, .any, .any, .any, .any, .any, .any, .any, .p (.sl 1 (tbE u)), .p (int (u.length : Nat)), .p (int ((q + 1) : Nat)), .any, .any, .any, .any, .any, .any, .any, .any, .any, .any, .any, .any, .any, .any, .any, .any, .any, .any, .any, .any, .any, .any, .any, .any, .any, .any, .any, .any, .any, .any, .any, .any, .any, .any, .any, .any, .any] [(.b 0, .box ((stm l (k2 + 1)).map .p) T), (.l 27, .row (tbE out) 36 1 true)] (by omega) (by (simp only [ZZ, YY, Ze, ite_true, ite_false, forall_const, reduceCtorEq, Nat.reduceAdd, Nat.reduceMul, Nat.reduceLeDiff, Nat.reduceLT, Nat.reduceEqDiff]; try trivial)) (by (simp only [ZZ, YY, Ze, ite_true, ite_false, forall_const, reduceCtorEq, Nat.reduceAdd, Nat.reduceMul, Nat.reduceLeDiff, Nat.reduceLT, Nat.reduceEqDiff]; try trivial)) ⟨q + 1, k2 + 1, out, by omega, rfl, by omega, by omega, hob, rfl, rfl⟩
        · have hn2 : ((hs.length : Nat) : Int) - 1 = (hn : Nat) := by omega
          have hs1 : ([[PV.str s]] : List (List PV)) = strE [s] := rfl
          have hsl200 : s.length ≤ 200 := by have := hrb.2 s (List.mem_of_getElem? hs0); omega
          simp only [ZZ, YY, Ze, ite_true, ite_false, forall_const, reduceCtorEq, Nat.reduceAdd, Nat.reduceMul, Nat.reduceLeDiff, Nat.reduceLT, Nat.reduceEqDiff, hg0, strE_len, hn2, hs1]
          ((repeat' (with_reducible apply And.intro)) <;> try ((first | first | assumption | trivial | exact (fun hq => by rw [hq]; rfl) | exact i64_of (by omega) (by omega) | omega | (simp; done) | (simp; omega) | (intro hsc; have hs0 := hsc; (try have hsd := of_decide_eq_true hsc); (try simp only [Bool.not_eq_true', Bool.or_eq_false_iff, Bool.and_eq_true, Bool.or_eq_true, decide_eq_true_eq, decide_eq_false_iff_not] at hsc); (repeat' (with_reducible apply And.intro)) <;> (first | assumption | trivial | exact (fun hq => by rw [hq]; rfl) | exact i64_of (by omega) (by omega) | omega | (simp; done) | (simp; omega) | (intro hse; simp [hse, hs0]; done) | (intro hse; simp only [hse, hs0, Bool.true_and, Bool.and_true, Bool.not_false, Bool.not_true, Bool.and_self]; done))))))
          refine loop_intro (fun n fr L => ∃ (i : Nat) (k3 : Nat) (v : SRow), i ≤ hn ∧ n = hn - i ∧ (k3 ≤ k2 + 1 + i) ∧ (v.length ≤ 1 + i) ∧ (∀ x ∈ v, x.length ≤ 200) ∧ fr = [.adr (.b 0) 0, .p (.sl 1 (tbE t)), .any, .any, .any, .p (.sl 1 (strE hs)), .any, .any, .row (.l 27), .any, .p (.sl 1 (strE r)), .row (.l 49), .any, .any, .any, .any, .any, .any, .any, .any, .any, .any, .any, .any, .any, .any, .any, .any, .any, .any, .any, .any, .p (.sl 1 (tbE u)), .p (int (u.length : Nat)), .p (int (q : Nat)), .any, .any, .any, .any, .any, .any, .any, .any, .any, .any, .any, .any, .any, .any, .any, .any, .any, .p (int (hn : Nat)), .p (int (i : Nat)), .any, .any, .any, .any, .any, .any, .any, .any, .any, .any, .any, .any, .any, .any, .any, .any, .any, .any] ∧ L = [(.b 0, .box ((stm l k3).map .p) T), (.l 27, .row (tbE out) 36 1 true), (.l 49, .row (strE v) tStr 1 true)]) (hn) [.adr (.b 0) 0, .p (.sl 1 (tbE t)), .any, .any, .any, .p (.sl 1 (strE hs)), .any, .any, .row (.l 27), .any, .p (.sl 1 (strE r)), .row (.l 49), .any, .any, .any, .any, .any, .any, .any, .any, .any, .any, .any, .any, .any, .any, .any, .any, .any, .any, .any, .any, .p (.sl 1 (tbE u)), .p (int (u.length : Nat)), .p (int (q : Nat)), .any, .any, .any, .any, .any, .any, .any, .any, .any, .any, .any, .any, .any, .any, .any, .any, .any, .p (int (hn : Nat)), .p (int (0 : Nat)), .any, .any, .any, .any, .any, .any, .any, .any, .any, .any, .any, .any, .any, .any, .any, .any, .any, .any] [(.b 0, .box ((stm l (k2 + 1)).map .p) T), (.l 27, .row (tbE out) 36 1 true), (.l 49, .row (strE [s]) tStr 1 true)] (by simp only [ZZ, YY, Ze, ite_true, ite_false, forall_const, reduceCtorEq, Nat.reduceAdd, Nat.reduceMul, Nat.reduceLeDiff, Nat.reduceLT, Nat.reduceEqDiff, strE_len]; try trivial) (by (simp only [ZZ, YY, Ze, ite_true, ite_false, forall_const, reduceCtorEq, Nat.reduceAdd, Nat.reduceMul, Nat.reduceLeDiff, Nat.reduceLT, Nat.reduceEqDiff]; try trivial)) ⟨0, k2 + 1, [s], by omega, by omega, by omega, by simp, by intro x hx; rw [List.mem_singleton] at hx; subst hx; exact hsl200, rfl, rfl⟩ ?_
          rintro n fr L ⟨i, k3, v, hi, rfl, hk3, hvl, hvb, rfl, rfl⟩
          simp only [ir_chasemake_Stream_OverRows_L2, ZZ, YY, Ze, ite_true, ite_false, forall_const, reduceCtorEq, Nat.reduceAdd, Nat.reduceMul, Nat.reduceLeDiff, Nat.reduceLT, Nat.reduceEqDiff]
          refine br ?_ ?_
          · intro h3
            have hlt3 : i < hn := by have := of_decide_eq_true h3; omega
            have e3 : ∀ (l : List (List UInt8)) (s : List UInt8), strE l ++ [[PV.str s]] = strE (l ++ [s]) := by intro l s; simp [strE]
            simp only [ZZ, YY, Ze, ite_true, ite_false, forall_const, reduceCtorEq, Nat.reduceAdd, Nat.reduceMul, Nat.reduceLeDiff, Nat.reduceLT, Nat.reduceEqDiff]
            refine useS (one_ok l k3 [[110], [], [108, 10, 109]] (by omega) hl (by simp) (by simp)) rfl rfl rfl (by simp only [ZZ, YY, Ze, ite_true, ite_false, forall_const, reduceCtorEq, Nat.reduceAdd, Nat.reduceMul, Nat.reduceLeDiff, Nat.reduceLT, Nat.reduceEqDiff]) ?_
            rintro y cs' ⟨x, rfl, hx, rfl⟩
            have hxl : x.length ≤ 200 := by simp at hx; rcases hx with rfl | rfl | rfl <;> simp
            simp only [ZZ, YY, Ze, ite_true, ite_false, forall_const, reduceCtorEq, Nat.reduceAdd, Nat.reduceMul, Nat.reduceLeDiff, Nat.reduceLT, Nat.reduceEqDiff, e3, strE_len]
            ((repeat' (with_reducible apply And.intro)) <;> try ((first | first | assumption | trivial | exact (fun hq => by rw [hq]; rfl) | exact i64_of (by omega) (by omega) | omega | (simp; done) | (simp; omega) | (intro hsc; have hs0 := hsc; (try have hsd := of_decide_eq_true hsc); (try simp only [Bool.not_eq_true', Bool.or_eq_false_iff, Bool.and_eq_true, Bool.or_eq_true, decide_eq_true_eq, decide_eq_false_iff_not] at hsc); (repeat' (with_reducible apply And.intro)) <;> (first | assumption | trivial | exact (fun hq => by rw [hq]; rfl) | exact i64_of (by omega) (by omega) | omega | (simp; done) | (simp; omega) | (intro hse; simp [hse, hs0]; done) | (intro hse; simp only [hse, hs0, Bool.true_and, Bool.and_true, Bool.not_false, Bool.not_true, Bool.and_self]; done))))))
            refine end_round (hn - (i + 1)) [.adr (.b 0) 0, .p (.sl 1 (tbE t)), .any, .any, .any, .p (.sl 1 (strE hs)), .any, .any, .row (.l 27), .any, .p (.sl 1 (strE r)), .row (.l 49), .any, .any, .any, .any, .any, .any, .any, .any, .any, .any, .any, .any, .any, .any, .any, .any, .any, .any, .any, .any, .p (.sl 1 (tbE u)), .p (int (u.length : Nat)), .p (int (q : Nat)), .any, .any, .any, .any, .any, .any, .any, .any, .any, .any, .any, .any, .any, .any, .any, .any, .any, .p (int (hn : Nat)), .p (int ((i + 1) : Nat)), .any, .any, .any, .any, .any, .any, .any, .any, .any, .any, .any, .any, .any, .any, .any, .any, .any, .any] [(.b 0, .box ((stm l (k3 + 1)).map .p) T), (.l 27, .row (tbE out) 36 1 true), (.l 49, .row (strE (v ++ [x])) tStr 1 true)] (by omega) (by (simp only [ZZ, YY, Ze, ite_true, ite_false, forall_const, reduceCtorEq, Nat.reduceAdd, Nat.reduceMul, Nat.reduceLeDiff, Nat.reduceLT, Nat.reduceEqDiff]; try trivial)) (by (simp only [ZZ, YY, Ze, ite_true, ite_false, forall_const, reduceCtorEq, Nat.reduceAdd, Nat.reduceMul, Nat.reduceLeDiff, Nat.reduceLT, Nat.reduceEqDiff]; try trivial)) ⟨i + 1, k3 + 1, v ++ [x], by omega, rfl, by omega, by simp; omega, by intro y hy; rcases List.mem_append.1 hy with h | h; exact hvb y h; rw [List.mem_singleton] at h; subst h; exact hxl, rfl, rfl⟩
          · intro h3
            have hge3 : i = hn := by have := of_decide_eq_false h3; omega
            have hap2 : tbE out ++ [[PV.sl 1 (strE v)]] = tbE (out ++ [v]) := by simp [tbE]
            simp only [ZZ, YY, Ze, ite_true, ite_false, forall_const, reduceCtorEq, Nat.reduceAdd, Nat.reduceMul, Nat.reduceLeDiff, Nat.reduceLT, Nat.reduceEqDiff, tbE_len, hap2]
            ((repeat' (with_reducible apply And.intro)) <;> try ((first | first | assumption | trivial | exact (fun hq => by rw [hq]; rfl) | exact i64_of (by omega) (by omega) | omega | (simp; done) | (simp; omega) | (intro hsc; have hs0 := hsc; (try have hsd := of_decide_eq_true hsc); (try simp only [Bool.not_eq_true', Bool.or_eq_false_iff, Bool.and_eq_true, Bool.or_eq_true, decide_eq_true_eq, decide_eq_false_iff_not] at hsc); (repeat' (with_reducible apply And.intro)) <;> (first | assumption | trivial | exact (fun hq => by rw [hq]; rfl) | exact i64_of (by omega) (by omega) | omega | (simp; done) | (simp; omega) | (intro hse; simp [hse, hs0]; done) | (intro hse; simp only [hse, hs0, Bool.true_and, Bool.and_true, Bool.not_false, Bool.not_true, Bool.and_self]; done))))))
            refine cut_same (by simp only [ZZ, YY, Ze, ite_true, ite_false, forall_const, reduceCtorEq, Nat.reduceAdd, Nat.reduceMul, Nat.reduceLeDiff, Nat.reduceLT, Nat.reduceEqDiff]) ?_
            simp only [ZZ, YY, Ze, ite_true, ite_false, forall_const, reduceCtorEq, Nat.reduceAdd, Nat.reduceMul, Nat.reduceLeDiff, Nat.reduceLT, Nat.reduceEqDiff]
            ((repeat' (with_reducible apply And.intro)) <;> try ((first | first | assumption | trivial | exact (fun hq => by rw [hq]; rfl) | exact i64_of (by omega) (by omega) | omega | (simp; done) | (simp; omega) | (intro hsc; have hs0 := hsc; (try have hsd := of_decide_eq_true hsc); (try simp only [Bool.not_eq_true', Bool.or_eq_false_iff, Bool.and_eq_true, Bool.or_eq_true, decide_eq_true_eq, decide_eq_false_iff_not] at hsc); (repeat' (with_reducible apply And.intro)) <;> (first | assumption | trivial | exact (fun hq => by rw [hq]; rfl) | exact i64_of (by omega) (by omega) | omega | (simp; done) | (simp; omega) | (intro hse; simp [hse, hs0]; done) | (intro hse; simp only [hse, hs0, Bool.true_and, Bool.and_true, Bool.not_false, Bool.not_true, Bool.and_self]; done))))))
            refine end_round (u.length - (q + 1)) [.adr (.b 0) 0, .p (.sl 1 (tbE t)), .any, .any, .any, .p (.sl 1 (strE hs)), .any, .any, .row (.l 27), .any, .any, .any, .any, .any, .any, .any, .any, .any, .any, .any, .any, .any, .any, .any, .any, .any, .any, .any, .any, .any, .any, .any, .p (.sl 1 (tbE u)), .p (int (u.length : Nat)), .p (int ((q + 1) : Nat)), .any, .any, .any, .any, .any, .any, .any, .any, .any, .any, .any, .any, .any, .any, .any, .any, .any, .any, .any, .any, .any, .any, .any, .any, .any, .any, .any, .any, .any, .any, .any, .any, .any, .any, .any, .any, .any] [(.b 0, .box ((stm l (k3)).map .p) T), (.l 27, .row (tbE (out ++ [v])) 36 1 true)] (by omega) (by (simp only [ZZ, YY, Ze, ite_true, ite_false, forall_const, reduceCtorEq, Nat.reduceAdd, Nat.reduceMul, Nat.reduceLeDiff, Nat.reduceLT, Nat.reduceEqDiff]; try trivial)) (by (simp only [ZZ, YY, Ze, ite_true, ite_false, forall_const, reduceCtorEq, Nat.reduceAdd, Nat.reduceMul, Nat.reduceLeDiff, Nat.reduceLT, Nat.reduceEqDiff]; try trivial)) ⟨q + 1, k3, out ++ [v], by omega, rfl, by omega, by simp; omega, by intro y hy; rcases List.mem_append.1 hy with h | h; exact hob y h; rw [List.mem_singleton] at h; subst h; exact ⟨by omega, hvb⟩, rfl, rfl⟩
    · intro h2
      have hge2 : q = u.length := by have := of_decide_eq_false h2; omega
      simp only [ZZ, YY, Ze, ite_true, ite_false, forall_const, reduceCtorEq, Nat.reduceAdd, Nat.reduceMul, Nat.reduceLeDiff, Nat.reduceLT, Nat.reduceEqDiff]
      refine useS (Flip_ok l k2 12 (by omega) hl (by omega)) rfl rfl rfl (by simp only [ZZ, YY, Ze, ite_true, ite_false, forall_const, reduceCtorEq, Nat.reduceAdd, Nat.reduceMul, Nat.reduceLeDiff, Nat.reduceLT, Nat.reduceEqDiff]) ?_
      rintro y cs' ⟨f, rfl, rfl⟩
      simp only [ZZ, YY, Ze, ite_true, ite_false, forall_const, reduceCtorEq, Nat.reduceAdd, Nat.reduceMul, Nat.reduceLeDiff, Nat.reduceLT, Nat.reduceEqDiff]
      refine br ?_ ?_
      · intro hf
        simp only [ZZ, YY, Ze, ite_true, ite_false, forall_const, reduceCtorEq, Nat.reduceAdd, Nat.reduceMul, Nat.reduceLeDiff, Nat.reduceLT, Nat.reduceEqDiff]
        refine useS (hLR l (k2 + 1) (by omega) hl) rfl rfl rfl (by simp only [ZZ, YY, Ze, ite_true, ite_false, forall_const, reduceCtorEq, Nat.reduceAdd, Nat.reduceMul, Nat.reduceLeDiff, Nat.reduceLT, Nat.reduceEqDiff]) ?_
        rintro y cs' ⟨t', k3, rfl, ht', rfl, hk3⟩
        simp only [ZZ, YY, Ze, ite_true, ite_false, forall_const, reduceCtorEq, Nat.reduceAdd, Nat.reduceMul, Nat.reduceLeDiff, Nat.reduceLT, Nat.reduceEqDiff]
        refine cut_same (by simp only [ZZ, YY, Ze, ite_true, ite_false, forall_const, reduceCtorEq, Nat.reduceAdd, Nat.reduceMul, Nat.reduceLeDiff, Nat.reduceLT, Nat.reduceEqDiff]) ?_
        simp only [ZZ, YY, Ze, ite_true, ite_false, forall_const, reduceCtorEq, Nat.reduceAdd, Nat.reduceMul, Nat.reduceLeDiff, Nat.reduceLT, Nat.reduceEqDiff]
        exact fin_S (stm l k3) rfl ⟨t', k3, rfl, ⟨by have := ht'.1; omega, fun r hr => ⟨by have := (ht'.2 r hr).1; omega, fun s hs => by have := (ht'.2 r hr).2 s hs; omega⟩⟩, rfl, by omega⟩
      · intro hf
        refine cut_same (by simp only [ZZ, YY, Ze, ite_true, ite_false, forall_const, reduceCtorEq, Nat.reduceAdd, Nat.reduceMul, Nat.reduceLeDiff, Nat.reduceLT, Nat.reduceEqDiff]) ?_
        simp only [ZZ, YY, Ze, ite_true, ite_false, forall_const, reduceCtorEq, Nat.reduceAdd, Nat.reduceMul, Nat.reduceLeDiff, Nat.reduceLT, Nat.reduceEqDiff]
        exact fin_S (stm l (k2 + 1)) rfl ⟨out, k2 + 1, rfl, ⟨by omega, hob⟩, rfl, by omega⟩
end Go.Proofs.YthfpehmbellmcaaDoor
