
/- Own texts, put together: R12. -/
import Derived.Test.YthfpehmbellmcaaGreatDoorZ10
import Derived.Test.YthfpehmbellmcaaGreatDoorZ11
import Derived.Test.YthfpehmbellmcaaGreatDoorZ7
/- Texts without what documents have in common: both sides. -/
namespace Go.Proofs.YthfpehmbellmcaaGreatDoor
open Go.RowKit
set_option linter.unusedVariables false
set_option linter.unusedSimpArgs false
set_option linter.defProp false

/- paperchase/near.Strip -/
def ir_near_Strip_L1 : IC :=
  (.seq (.reg [⟨some 67, .bin .lss (.t 66) (.t 65), none⟩])
    (.seq (.cond (.t 67) .skip (.exit 2))
    (.seq (.block 3 (.seq (.reg [⟨some 68, .ixa 1 (.t 64) (.t 66), none⟩,
      ⟨some 69, .ld 1 false (.t 68), none⟩,
      ⟨some 12, .mov (.t 69), none⟩])
    (.seq (.reg [⟨some 70, .mov (.t 12), none⟩,
      ⟨some 71, .call 60 [.t 70], none⟩,
      ⟨some 13, .mov (.t 71), none⟩])
    (.seq (.reg [⟨some 73, .mov (.t 1), none⟩,
      ⟨some 74, .mov (.t 13), none⟩,
      ⟨some 75, .call 68 [.t 73, .t 74], none⟩,
      ⟨some 72, .mov (.t 75), none⟩,
      ⟨some 76, .ext 0 (.t 72), none⟩,
      ⟨some 77, .ext 1 (.t 72), none⟩,
      ⟨some 14, .mov (.t 76), none⟩,
      ⟨some 15, .mov (.t 77), none⟩])
    (.seq (.reg [⟨some 78, .mov (.t 13), none⟩,
      ⟨some 79, .bin .eql (.t 78) (.c (.str [])), none⟩,
      ⟨some 80, .mov (.t 79), none⟩,
      ⟨some 81, .mov (.t 15), (some (80, false))⟩,
      ⟨some 82, .not (.t 81), (some (80, false))⟩,
      ⟨some 83, .pick (.t 80) (.c (.bool true)) (.t 82), none⟩])
    (.cond (.t 83) (.reg [⟨some 84, .mov (.t 10), none⟩,
      ⟨some 85, .mov (.t 12), none⟩,
      ⟨some 86, .call 69 [.t 85, .c (.str [10])], none⟩,
      ⟨some 87, .bin .add (.t 86) (.c (.str [10])), none⟩,
      ⟨some 88, .bsl 1 [.t 87], none⟩,
      ⟨some 89, .app 9 1 16 (.t 84) (.t 88), none⟩,
      ⟨some 10, .mov (.t 89), none⟩]) .skip))))))
    (.cut (.reg [⟨some 90, .bin .add (.t 66) (.c (.int .i64 1)), none⟩,
      ⟨some 66, .mov (.t 90), none⟩])))))
def ir_near_Strip_L0 : IC :=
  (.seq (.reg [⟨some 30, .bin .lss (.t 29) (.t 28), none⟩])
    (.seq (.cond (.t 30) .skip (.exit 0))
    (.seq (.block 1 (.seq (.reg [⟨some 31, .mov (.t 29), none⟩,
      ⟨some 32, .ixa 1 (.t 27) (.t 29), none⟩,
      ⟨some 33, .ld 1 false (.t 32), none⟩,
      ⟨some 7, .mov (.t 31), none⟩,
      ⟨some 8, .mov (.t 33), none⟩])
    (.seq (.reg [⟨some 34, .mov (.t 8), none⟩,
      ⟨some 35, .bin .eql (.t 34) (.c (.str [])), none⟩,
      ⟨some 36, .mov (.t 35), none⟩,
      ⟨some 37, .mov (.t 8), (some (36, false))⟩,
      ⟨some 38, .bsl 1 [.t 37], (some (36, false))⟩,
      ⟨some 39, .call 60 [.t 38], (some (36, false))⟩,
      ⟨some 40, .mov (.t 8), (some (36, false))⟩,
      ⟨some 41, .bin .neq (.t 39) (.t 40), (some (36, false))⟩,
      ⟨some 42, .pick (.t 36) (.c (.bool true)) (.t 41), none⟩,
      ⟨some 43, .call 57 [.t 42, .c (.int .i64 3)], none⟩,
      ⟨some 44, .mov (.t 7), none⟩,
      ⟨some 45, .bin .gtr (.t 44) (.c (.int .i64 0)), none⟩,
      ⟨some 46, .mov (.t 45), none⟩,
      ⟨some 47, .mov (.t 8), (some (46, true))⟩,
      ⟨some 48, .mov (.t 1), (some (46, true))⟩,
      ⟨some 49, .mov (.t 7), (some (46, true))⟩,
      ⟨some 50, .mx (.t 49) (.c (.int .i64 1)), (some (46, true))⟩,
      ⟨some 51, .bin .sub (.t 50) (.c (.int .i64 1)), (some (46, true))⟩,
      ⟨some 52, .ixa 1 (.t 48) (.t 51), (some (46, true))⟩,
      ⟨some 53, .ld 1 false (.t 52), (some (46, true))⟩,
      ⟨some 54, .bin .leq (.t 47) (.t 53), (some (46, true))⟩,
      ⟨some 55, .pick (.t 46) (.t 54) (.c (.bool false)), none⟩,
      ⟨some 56, .call 57 [.t 55, .c (.int .i64 7)], none⟩,
      ⟨some 57, .bsl 1 [.t 43, .t 56], none⟩,
      ⟨some 58, .call 55 [.t 57], none⟩,
      ⟨some 9, .mov (.t 58), none⟩])
    (.seq (.reg [⟨some 59, .mov (.t 9), none⟩,
      ⟨some 60, .bin .neq (.t 59) (.c (.int .i64 0)), none⟩])
    (.cond (.t 60) (.seq (.reg [⟨some 61, .mov (.t 9), none⟩,
      ⟨some 4, .mov (.c (.str [])), none⟩,
      ⟨some 5, .mov (.t 61), none⟩])
    .ret) .skip)))))
    (.reg [⟨some 62, .bin .add (.t 29) (.c (.int .i64 1)), none⟩,
      ⟨some 29, .mov (.t 62), none⟩]))))
def ir_near_Strip : IC :=
  (.seq (.reg [⟨some 4, .mov (.c (.str [])), none⟩,
      ⟨some 5, .mov (.c (.int .i64 0)), none⟩])
    (.seq (.seq (.reg [⟨some 16, .mov (.t 0), none⟩,
      ⟨some 17, .call 67 [.t 16], none⟩,
      ⟨some 18, .mov (.t 1), none⟩,
      ⟨some 19, .len (.t 18), none⟩,
      ⟨some 20, .bin .gtr (.t 19) (.c (.int .i64 1000)), none⟩,
      ⟨some 21, .call 57 [.t 20, .c (.int .i64 2)], none⟩,
      ⟨some 22, .bsl 1 [.t 17, .t 21], none⟩,
      ⟨some 23, .call 55 [.t 22], none⟩,
      ⟨some 6, .mov (.t 23), none⟩])
    (.seq (.reg [⟨some 24, .mov (.t 6), none⟩,
      ⟨some 25, .bin .neq (.t 24) (.c (.int .i64 0)), none⟩])
    (.cond (.t 25) (.seq (.reg [⟨some 26, .mov (.t 6), none⟩,
      ⟨some 4, .mov (.c (.str [])), none⟩,
      ⟨some 5, .mov (.t 26), none⟩])
    .ret) .skip)))
    (.seq (.seq (.reg [⟨some 27, .mov (.t 1), none⟩,
      ⟨some 28, .len (.t 27), none⟩,
      ⟨some 29, .mov (.c (.int .i64 0)), none⟩])
    (.block 0 (.loop ir_near_Strip_L0)))
    (.seq (.reg [⟨some 10, .nilr 9 1, none⟩])
    (.seq (.seq (.reg [⟨some 63, .mov (.t 0), none⟩,
      ⟨some 64, .call 59 [.t 63], none⟩,
      ⟨some 65, .len (.t 64), none⟩,
      ⟨some 66, .mov (.c (.int .i64 0)), none⟩])
    (.block 2 (.loop ir_near_Strip_L1)))
    (.seq (.reg [⟨some 91, .mov (.t 10), none⟩,
      ⟨some 92, .call 69 [.t 91, .c (.str [10])], none⟩,
      ⟨some 4, .mov (.t 92), none⟩,
      ⟨some 5, .mov (.c (.int .i64 0)), none⟩])
    .ret))))))
def rs_near_Strip : List IRes := [.t 4, .t 5]
theorem ck_near_Strip : chkF Tryz.prog Tryz.f29 ir_near_Strip rs_near_Strip 93 = true := by kernel_rfl
/- paperchase/chaseref1.StripOf -/
def ir_chaseref1_StripOf_L1 : IC :=
  (.seq (.reg [⟨some 51, .bin .lss (.t 50) (.t 49), none⟩])
    (.seq (.cond (.t 51) .skip (.exit 2))
    (.seq (.block 3 (.seq (.reg [⟨some 52, .ixa 1 (.t 48) (.t 50), none⟩,
      ⟨some 53, .ld 1 false (.t 52), none⟩,
      ⟨some 10, .mov (.t 53), none⟩])
    (.seq (.reg [⟨some 54, .mov (.t 1), none⟩,
      ⟨some 55, .mov (.t 10), none⟩,
      ⟨some 56, .call 65 [.t 55], none⟩,
      ⟨some 57, .call 71 [.t 54, .t 56], none⟩,
      ⟨some 58, .not (.t 57), none⟩])
    (.cond (.t 58) (.reg [⟨some 59, .mov (.t 8), none⟩,
      ⟨some 60, .mov (.t 10), none⟩,
      ⟨some 61, .call 69 [.t 60, .c (.str [10])], none⟩,
      ⟨some 62, .bin .add (.t 61) (.c (.str [10])), none⟩,
      ⟨some 63, .bsl 1 [.t 62], none⟩,
      ⟨some 64, .app 9 1 16 (.t 59) (.t 63), none⟩,
      ⟨some 8, .mov (.t 64), none⟩]) .skip))))
    (.cut (.reg [⟨some 65, .bin .add (.t 50) (.c (.int .i64 1)), none⟩,
      ⟨some 50, .mov (.t 65), none⟩])))))
def ir_chaseref1_StripOf_L0 : IC :=
  (.seq (.reg [⟨some 22, .bin .lss (.t 21) (.t 20), none⟩])
    (.seq (.cond (.t 22) .skip (.exit 0))
    (.seq (.block 1 (.seq (.reg [⟨some 23, .mov (.t 21), none⟩,
      ⟨some 24, .ixa 1 (.t 19) (.t 21), none⟩,
      ⟨some 25, .ld 1 false (.t 24), none⟩,
      ⟨some 6, .mov (.t 23), none⟩,
      ⟨some 7, .mov (.t 25), none⟩])
    (.seq (.seq (.reg [⟨some 26, .mov (.t 7), none⟩,
      ⟨some 27, .bin .eql (.t 26) (.c (.str [])), none⟩,
      ⟨some 28, .mov (.t 27), none⟩,
      ⟨some 29, .mov (.t 7), (some (28, false))⟩,
      ⟨some 30, .call 70 [.t 29], (some (28, false))⟩,
      ⟨some 31, .call 69 [.t 30, .c (.str [32])], (some (28, false))⟩,
      ⟨some 32, .mov (.t 7), (some (28, false))⟩,
      ⟨some 33, .bin .neq (.t 31) (.t 32), (some (28, false))⟩,
      ⟨some 34, .pick (.t 28) (.c (.bool true)) (.t 33), none⟩])
    (.cond (.t 34) (.seq (.reg [⟨some 4, .mov (.c (.str [])), none⟩,
      ⟨some 5, .mov (.c (.int .i64 3)), none⟩])
    .ret) .skip))
    (.seq (.reg [⟨some 35, .mov (.t 6), none⟩,
      ⟨some 36, .bin .gtr (.t 35) (.c (.int .i64 0)), none⟩,
      ⟨some 37, .mov (.t 36), none⟩,
      ⟨some 38, .mov (.t 7), (some (37, true))⟩,
      ⟨some 39, .mov (.t 1), (some (37, true))⟩,
      ⟨some 40, .mov (.t 6), (some (37, true))⟩,
      ⟨some 41, .bin .sub (.t 40) (.c (.int .i64 1)), (some (37, true))⟩,
      ⟨some 42, .ixa 1 (.t 39) (.t 41), (some (37, true))⟩,
      ⟨some 43, .ld 1 false (.t 42), (some (37, true))⟩,
      ⟨some 44, .bin .leq (.t 38) (.t 43), (some (37, true))⟩,
      ⟨some 45, .pick (.t 37) (.t 44) (.c (.bool false)), none⟩])
    (.cond (.t 45) (.seq (.reg [⟨some 4, .mov (.c (.str [])), none⟩,
      ⟨some 5, .mov (.c (.int .i64 7)), none⟩])
    .ret) .skip)))))
    (.reg [⟨some 46, .bin .add (.t 21) (.c (.int .i64 1)), none⟩,
      ⟨some 21, .mov (.t 46), none⟩]))))
def ir_chaseref1_StripOf : IC :=
  (.seq (.reg [⟨some 4, .mov (.c (.str [])), none⟩,
      ⟨some 5, .mov (.c (.int .i64 0)), none⟩])
    (.seq (.seq (.reg [⟨some 11, .mov (.t 0), none⟩,
      ⟨some 12, .sln (.t 11), none⟩,
      ⟨some 13, .bin .gtr (.t 12) (.c (.int .i64 20000)), none⟩,
      ⟨some 14, .mov (.t 13), none⟩,
      ⟨some 15, .mov (.t 1), (some (14, false))⟩,
      ⟨some 16, .len (.t 15), (some (14, false))⟩,
      ⟨some 17, .bin .gtr (.t 16) (.c (.int .i64 1000)), (some (14, false))⟩,
      ⟨some 18, .pick (.t 14) (.c (.bool true)) (.t 17), none⟩])
    (.cond (.t 18) (.seq (.reg [⟨some 4, .mov (.c (.str [])), none⟩,
      ⟨some 5, .mov (.c (.int .i64 2)), none⟩])
    .ret) .skip))
    (.seq (.seq (.reg [⟨some 19, .mov (.t 1), none⟩,
      ⟨some 20, .len (.t 19), none⟩,
      ⟨some 21, .mov (.c (.int .i64 0)), none⟩])
    (.block 0 (.loop ir_chaseref1_StripOf_L0)))
    (.seq (.reg [⟨some 8, .nilr 9 1, none⟩])
    (.seq (.seq (.reg [⟨some 47, .mov (.t 0), none⟩,
      ⟨some 48, .call 64 [.t 47], none⟩,
      ⟨some 49, .len (.t 48), none⟩,
      ⟨some 50, .mov (.c (.int .i64 0)), none⟩])
    (.block 2 (.loop ir_chaseref1_StripOf_L1)))
    (.seq (.reg [⟨some 66, .mov (.t 8), none⟩,
      ⟨some 67, .call 69 [.t 66, .c (.str [10])], none⟩,
      ⟨some 4, .mov (.t 67), none⟩,
      ⟨some 5, .mov (.c (.int .i64 0)), none⟩])
    .ret))))))
def rs_chaseref1_StripOf : List IRes := [.t 4, .t 5]
theorem ck_chaseref1_StripOf : chkF Tryz.prog Tryz.f30 ir_chaseref1_StripOf rs_chaseref1_StripOf 68 = true := by kernel_rfl

theorem tbE_getS {t : Tab} {k : Nat} {r : SRow} (h : t[k]? = some r) : (tbE t).getD k [] = [.sl 1 (strE r)] := getD_map h
theorem tbE_lenS (t : Tab) : (tbE t).length = t.length := by simp [tbE]
theorem parF_lenS (t : List UInt8) : (parF t).length ≤ t.length + 1 := Nat.le_trans (paK_len (splF t 10) (splF t 10).length).1 (splF_len t 10)
/-- What is wrong with a form. -/
def fmB (f : List UInt8) : Bool := decide (f = []) || !decide (formF [f] = f)
def fmP (fs : SRow) (k : Nat) : List UInt8 := fs.getD (k - 1) []
def fmO (fs : SRow) (k : Nat) (f : List UInt8) : Bool := decide (0 < (k : Int)) && (bytesLess f (fmP fs k) || decide (f = fmP fs k))
def fmS (fs : SRow) (k : Nat) : Int := if fmB (fs.getD k []) = true then 3 else if fmO fs k (fs.getD k []) = true then 7 else 0
def fmR (fs : SRow) : Nat → Nat → Int
  | _, 0 => 0
  | k, n + 1 => if fmS fs k = 0 then fmR fs (k + 1) n else fmS fs k
theorem fmR_zero (fs : SRow) : ∀ (n k : Nat), fmR fs k n = 0 → ∀ a, k ≤ a → a < k + n → fmS fs a = 0
  | 0, k, _, a, h1, h2 => absurd h2 (by omega)
  | n + 1, k, h, a, h1, h2 => by
    rw [fmR] at h
    split at h
    · rename_i h0
      rcases Nat.lt_or_ge k a with h3 | h3
      · exact fmR_zero fs n (k + 1) h a (by omega) (by omega)
      · have : a = k := by omega
        subst this; exact h0
    · rename_i h0; exact absurd h h0
/-- What is wrong with the arguments of Strip. -/
def stE (t : List UInt8) (fs : SRow) : Int := if 20000 < t.length then 2 else if 1000 < fs.length then 2 else fmR fs 0 fs.length
/-- What is kept. -/
def stQ (fs : SRow) (p : SRow) : Bool := !decide (formF p ∈ fs)
def stX (p : SRow) : List UInt8 := Lib.join p [10] ++ [10]
def stO (fs : SRow) (T : Tab) : SRow := (T.filter (stQ fs)).map stX
def stF (t : List UInt8) (fs : SRow) : List UInt8 := Lib.join (stO fs (parF t)) [10]
theorem fmS_fine {fs : SRow} {k : Nat} {f : List UInt8} (hf : fs[k]? = some f) (h : fmS fs k = 0) : f ≠ [] ∧ ∀ q, k ≠ 0 → fs[k - 1]? = some q → q < f := by
  have hgd : fs.getD k [] = f := by simp [List.getD, hf]
  unfold fmS at h
  rw [hgd] at h
  split at h
  · cases h
  rename_i h1
  split at h
  · cases h
  rename_i h2
  refine ⟨fun e => h1 (by simp [fmB, e]), fun q hk hq => ?_⟩
  have hp : fmP fs k = q := by simp [fmP, List.getD, hq]
  unfold fmO at h2
  rw [hp, decide_eq_true (show (0 : Int) < k by omega), Bool.true_and] at h2
  simp only [bytesLess, bytesLess_eq, Bool.or_eq_true, decide_eq_true_eq, not_or] at h2
  rcases List.le_iff_lt_or_eq.1 (List.not_lt.1 h2.1) with h | h
  · exact h
  · exact absurd h.symm h2.2
theorem fm_sorted {fs : SRow} (h : fmR fs 0 fs.length = 0) : SrtS fs := srtS_adj fun a p q hp hq => by
  have hl := (List.getElem?_eq_some_iff.1 hq).1
  have h1 := fmR_zero fs fs.length 0 h (a + 1) (by omega) (by omega)
  exact (fmS_fine hq h1).2 p (by omega) hp
theorem fm_nil {fs : SRow} (h : fmR fs 0 fs.length = 0) : [] ∉ fs := fun hm => by
  obtain ⟨a, ha⟩ := List.getElem?_of_mem hm
  have hl := (List.getElem?_eq_some_iff.1 ha).1
  exact (fmS_fine ha (fmR_zero fs fs.length 0 h a (by omega) (by omega))).1 rfl
theorem stX_len (p : SRow) : (stX p).length ≤ wgt p + 1 := by
  have := join1_wgt p 10
  simp only [stX, List.length_append, List.length_cons, List.length_nil]
  omega
theorem stO_wgt (fs : SRow) (T : Tab) : wgt (stO fs T) ≤ wgtT T + 2 * T.length := by
  induction T with
  | nil => simp [stO, wgt, wgtT]
  | cons p r ih =>
    have h1 := stX_len p
    have h2 : stO fs (p :: r) = (if stQ fs p then [stX p] else []) ++ stO fs r := by
      unfold stO
      rw [List.filter_cons]
      split <;> simp
    rw [h2, wgt_app]
    have h3 : wgt (if stQ fs p then [stX p] else []) ≤ wgt p + 2 := by
      split
      · simp only [wgt]; omega
      · simp [wgt]
    simp only [wgtT, List.map_cons, List.sum_cons, List.length_cons] at ih ⊢
    omega
theorem stO_take {fs : SRow} {T : Tab} {j : Nat} {p : SRow} (h : T[j]? = some p) : stO fs (T.take (j + 1)) = stO fs (T.take j) ++ if stQ fs p then [stX p] else [] := by
  rw [List.take_add_one, h]
  unfold stO
  rw [List.filter_append, List.map_append]
  simp only [Option.toList_some, List.filter_cons, List.filter_nil]
  congr 1
  split <;> rfl
theorem stO_len (fs : SRow) (T : Tab) : (stO fs T).length ≤ T.length := by
  rw [stO, List.length_map]
  exact List.length_filter_le _ _
/-- What forms may be. -/
def FsB (fs : SRow) : Prop := fs.length ≤ 10000000 ∧ ∀ f ∈ fs, f.length ≤ 1000000
theorem form1 (f : List UInt8) : formF [f] = jS (wordsF f) := by simp [formF, Lib.join]
set_option maxHeartbeats 8000000 in
set_option maxRecDepth 100000 in
theorem Strip_ok (t : List UInt8) (fs : SRow) (ht : t.length ≤ 1000000) (hfs : FsB fs) : PCall Tryz.prog E0 29 [.str t, .sl 1 (strE fs)] (· = if stE t fs = 0 then .tup [.str (stF t fs), int 0] else .tup [.str [], int (stE t fs)]) := by
  obtain ⟨f1, f2⟩ := hfs
  refine pcallF mixed Tryz.func29 ck_near_Strip ?_
  simp only [a0, l0, OS.ao, List.map_cons, List.map_nil, List.length_cons, List.length_nil, List.cons_append, List.nil_append, Nat.reduceSub, Nat.reduceAdd, List.replicate_succ, List.replicate_zero, ir_near_Strip, rs_near_Strip, ZZ, YY, Ze, ite_true, ite_false, forall_const, reduceCtorEq, Nat.reduceAdd, Nat.reduceMul, Nat.reduceLeDiff, Nat.reduceLT, Nat.reduceEqDiff]
  refine use1 (nlarge_ok t (by omega)) rfl (.inl rfl) ?_
  simp only [ZZ, YY, Ze, ite_true, ite_false, forall_const, reduceCtorEq, Nat.reduceAdd, Nat.reduceMul, Nat.reduceLeDiff, Nat.reduceLT, Nat.reduceEqDiff, strE_len]
  ((repeat' (with_reducible apply And.intro)) <;> try ((first | first | assumption | trivial | exact (fun hq => by rw [hq]; rfl) | exact i64_of (by omega) (by omega) | omega | (simp; done) | (simp; omega) | (intro hsc; have hs0 := hsc; (try have hsd := of_decide_eq_true hsc); (try simp only [Bool.not_eq_true', Bool.or_eq_false_iff, Bool.and_eq_true, Bool.or_eq_true, decide_eq_true_eq, decide_eq_false_iff_not] at hsc); (repeat' (with_reducible apply And.intro)) <;> (first | assumption | trivial | exact (fun hq => by rw [hq]; rfl) | exact i64_of (by omega) (by omega) | omega | (simp; done) | (simp; omega) | (intro hse; simp [hse, hs0]; done) | (intro hse; simp only [hse, hs0, Bool.true_and, Bool.and_true, Bool.not_false, Bool.not_true, Bool.and_self]; done))))))
  refine use1 (When_ok _ 2) rfl (.inl rfl) ?_
  simp only [ZZ, YY, Ze, ite_true, ite_false, forall_const, reduceCtorEq, Nat.reduceAdd, Nat.reduceMul, Nat.reduceLeDiff, Nat.reduceLT, Nat.reduceEqDiff]
  have hw : whenE (decide ((1000 : Int) < fs.length)) 2 = if 1000 < fs.length then 2 else 0 := by
    unfold whenE
    by_cases h : 1000 < fs.length
    · rw [if_pos h, decide_eq_true (by omega)]; rfl
    · rw [if_neg h, decide_eq_false (by omega)]; rfl
  refine use1 (First_ok [if 20000 < t.length then 2 else 0, whenE (decide ((1000 : Int) < fs.length)) 2] (by simp)) rfl (.inl rfl) ?_
  have hfe : firstE [if 20000 < t.length then 2 else 0, whenE (decide ((1000 : Int) < fs.length)) 2] = if 20000 < t.length then 2 else if 1000 < fs.length then 2 else 0 := by
    rw [hw]
    by_cases h1 : 20000 < t.length <;> by_cases h2 : 1000 < fs.length <;> simp [firstE, h1, h2]
  rw [hfe]
  generalize hee : (if 20000 < t.length then (2 : Int) else if 1000 < fs.length then 2 else 0) = ee at *
  by_cases he : ee = 0
  rotate_left
  · have hd : decide (ee = 0) = false := decide_eq_false he
    have hse : stE t fs = ee := by
      unfold stE
      rw [← hee]
      split
      · rfl
      · split
        · rfl
        · rename_i h1 h2; rw [if_neg h1, if_neg h2] at hee; exact absurd hee.symm he
    rw [hse, if_neg he]
    simp only [ZZ, YY, Ze, ite_true, ite_false, forall_const, reduceCtorEq, Nat.reduceAdd, Nat.reduceMul, Nat.reduceLeDiff, Nat.reduceLT, Nat.reduceEqDiff, hd]
  have hd : decide (ee = 0) = true := decide_eq_true he
  have ht2 : ¬ 20000 < t.length := fun h => by rw [if_pos h] at hee; omega
  have hf2 : ¬ 1000 < fs.length := fun h => by rw [if_neg ht2, if_pos h] at hee; omega
  have hse : stE t fs = fmR fs 0 fs.length := by unfold stE; rw [if_neg ht2, if_neg hf2]
  rw [hse]
  clear hee hfe hw
  simp only [ZZ, YY, Ze, ite_true, ite_false, forall_const, reduceCtorEq, Nat.reduceAdd, Nat.reduceMul, Nat.reduceLeDiff, Nat.reduceLT, Nat.reduceEqDiff, hd, strE_len]
  refine loop_intro (fun n fr L => ∃ (k : Nat), k ≤ fs.length ∧ n = fs.length - k ∧ (fmR fs 0 fs.length = fmR fs k (fs.length - k)) ∧ fr = [.p (.str t), .p (.sl 1 (strE fs)), .any, .any, .any, .any, .any, .any, .any, .any, .any, .any, .any, .any, .any, .any, .any, .any, .any, .any, .any, .any, .any, .any, .any, .any, .any, .p (.sl 1 (strE fs)), .p (int (fs.length : Nat)), .p (int (k : Nat)), .any, .any, .any, .any, .any, .any, .any, .any, .any, .any, .any, .any, .any, .any, .any, .any, .any, .any, .any, .any, .any, .any, .any, .any, .any, .any, .any, .any, .any, .any, .any, .any, .any, .any, .any, .any, .any, .any, .any, .any, .any, .any, .any, .any, .any, .any, .any, .any, .any, .any, .any, .any, .any, .any, .any, .any, .any, .any, .any, .any, .any, .any, .any] ∧ L = []) (fs.length) [.p (.str t), .p (.sl 1 (strE fs)), .any, .any, .any, .any, .any, .any, .any, .any, .any, .any, .any, .any, .any, .any, .any, .any, .any, .any, .any, .any, .any, .any, .any, .any, .any, .p (.sl 1 (strE fs)), .p (int (fs.length : Nat)), .p (int (0 : Nat)), .any, .any, .any, .any, .any, .any, .any, .any, .any, .any, .any, .any, .any, .any, .any, .any, .any, .any, .any, .any, .any, .any, .any, .any, .any, .any, .any, .any, .any, .any, .any, .any, .any, .any, .any, .any, .any, .any, .any, .any, .any, .any, .any, .any, .any, .any, .any, .any, .any, .any, .any, .any, .any, .any, .any, .any, .any, .any, .any, .any, .any, .any, .any] [] (by simp only [ZZ, YY, Ze, ite_true, ite_false, forall_const, reduceCtorEq, Nat.reduceAdd, Nat.reduceMul, Nat.reduceLeDiff, Nat.reduceLT, Nat.reduceEqDiff, strE_len]; try trivial) (trivial) ⟨0, by omega, by omega, rfl, rfl, rfl⟩ ?_
  rintro n fr L ⟨k, hk, rfl, hr, rfl, rfl⟩
  simp only [ir_near_Strip_L0, ZZ, YY, Ze, ite_true, ite_false, forall_const, reduceCtorEq, Nat.reduceAdd, Nat.reduceMul, Nat.reduceLeDiff, Nat.reduceLT, Nat.reduceEqDiff]
  refine br ?_ ?_
  · intro h
    have hlt : k < fs.length := by have := of_decide_eq_true h; omega
    obtain ⟨f, hf⟩ : ∃ f, fs[k]? = some f := ⟨_, List.getElem?_eq_getElem hlt⟩
    have hg := strE_get hf
    have hfl := f2 f (List.mem_of_getElem? hf)
    obtain ⟨q, hq⟩ : ∃ q, fs[k - 1]? = some q := ⟨_, List.getElem?_eq_getElem (by omega)⟩
    have hgq := strE_get hq
    have hfp : fmP fs k = q := by simp [fmP, List.getD, hq]
    have hgd : fs.getD k [] = f := by simp [List.getD, hf]
    have hmx : (max (k : Int) 1 - 1) = ((k - 1 : Nat) : Int) := by omega
    obtain ⟨n, hn⟩ : ∃ n, fs.length - k = n + 1 := ⟨fs.length - k - 1, by omega⟩
    have hn2 : fs.length - (k + 1) = n := by omega
    rw [hn, fmR] at hr
    simp only [ZZ, YY, Ze, ite_true, ite_false, forall_const, reduceCtorEq, Nat.reduceAdd, Nat.reduceMul, Nat.reduceLeDiff, Nat.reduceLT, Nat.reduceEqDiff, hg, strE_len]
    ((repeat' (with_reducible apply And.intro)) <;> try ((first | first | assumption | trivial | exact (fun hq => by rw [hq]; rfl) | exact i64_of (by omega) (by omega) | omega | (simp; done) | (simp; omega) | (intro hsc; have hs0 := hsc; (try have hsd := of_decide_eq_true hsc); (try simp only [Bool.not_eq_true', Bool.or_eq_false_iff, Bool.and_eq_true, Bool.or_eq_true, decide_eq_true_eq, decide_eq_false_iff_not] at hsc); (repeat' (with_reducible apply And.intro)) <;> (first | assumption | trivial | exact (fun hq => by rw [hq]; rfl) | exact i64_of (by omega) (by omega) | omega | (simp; done) | (simp; omega) | (intro hse; simp [hse, hs0]; done) | (intro hse; simp only [hse, hs0, Bool.true_and, Bool.and_true, Bool.not_false, Bool.not_true, Bool.and_self]; done))))))
    refine useG (fun _ => form_ok [f] (by simp only [wgt]; omega)) rfl (.inl rfl) ?_
    simp only [ZZ, YY, Ze, ite_true, ite_false, forall_const, reduceCtorEq, Nat.reduceAdd, Nat.reduceMul, Nat.reduceLeDiff, Nat.reduceLT, Nat.reduceEqDiff]
    ((repeat' (with_reducible apply And.intro)) <;> try ((first | first | assumption | trivial | exact (fun hq => by rw [hq]; rfl) | exact i64_of (by omega) (by omega) | omega | (simp; done) | (simp; omega) | (intro hsc; have hs0 := hsc; (try have hsd := of_decide_eq_true hsc); (try simp only [Bool.not_eq_true', Bool.or_eq_false_iff, Bool.and_eq_true, Bool.or_eq_true, decide_eq_true_eq, decide_eq_false_iff_not] at hsc); (repeat' (with_reducible apply And.intro)) <;> (first | assumption | trivial | exact (fun hq => by rw [hq]; rfl) | exact i64_of (by omega) (by omega) | omega | (simp; done) | (simp; omega) | (intro hse; simp [hse, hs0]; done) | (intro hse; simp only [hse, hs0, Bool.true_and, Bool.and_true, Bool.not_false, Bool.not_true, Bool.and_self]; done))))))
    refine use1 (When_ok _ 3) rfl (.inl rfl) ?_
    simp only [ZZ, YY, Ze, ite_true, ite_false, forall_const, reduceCtorEq, Nat.reduceAdd, Nat.reduceMul, Nat.reduceLeDiff, Nat.reduceLT, Nat.reduceEqDiff, hmx, hgq, strE_len]
    ((repeat' (with_reducible apply And.intro)) <;> try ((first | first | assumption | trivial | exact (fun hq => by rw [hq]; rfl) | exact i64_of (by omega) (by omega) | omega | (simp; done) | (simp; omega) | (intro hsc; have hs0 := hsc; (try have hsd := of_decide_eq_true hsc); (try simp only [Bool.not_eq_true', Bool.or_eq_false_iff, Bool.and_eq_true, Bool.or_eq_true, decide_eq_true_eq, decide_eq_false_iff_not] at hsc); (repeat' (with_reducible apply And.intro)) <;> (first | assumption | trivial | exact (fun hq => by rw [hq]; rfl) | exact i64_of (by omega) (by omega) | omega | (simp; done) | (simp; omega) | (intro hse; simp [hse, hs0]; done) | (intro hse; simp only [hse, hs0, Bool.true_and, Bool.and_true, Bool.not_false, Bool.not_true, Bool.and_self]; done))))))
    refine use1 (When_ok _ 7) rfl (.inl rfl) ?_
    simp only [ZZ, YY, Ze, ite_true, ite_false, forall_const, reduceCtorEq, Nat.reduceAdd, Nat.reduceMul, Nat.reduceLeDiff, Nat.reduceLT, Nat.reduceEqDiff]
    refine use1 (First_ok [whenE (fmB f) 3, whenE (fmO fs k f) 7] (by simp)) (by rw [fmO, hfp]; rfl) (.inl rfl) ?_
    have hfi : firstE [whenE (fmB f) 3, whenE (fmO fs k f) 7] = fmS fs k := by
      unfold fmS
      rw [hgd]
      cases fmB f <;> cases fmO fs k f <;> rfl
    rw [hfi]
    by_cases h0 : fmS fs k = 0
    rotate_left
    · have hd : decide (fmS fs k = 0) = false := decide_eq_false h0
      rw [if_neg h0] at hr
      simp only [ZZ, YY, Ze, ite_true, ite_false, forall_const, reduceCtorEq, Nat.reduceAdd, Nat.reduceMul, Nat.reduceLeDiff, Nat.reduceLT, Nat.reduceEqDiff, hd]
      rw [hr, if_neg h0]
    have hd : decide (fmS fs k = 0) = true := decide_eq_true h0
    rw [if_pos h0, ← hn2] at hr
    simp only [ZZ, YY, Ze, ite_true, ite_false, forall_const, reduceCtorEq, Nat.reduceAdd, Nat.reduceMul, Nat.reduceLeDiff, Nat.reduceLT, Nat.reduceEqDiff, hd]
    ((repeat' (with_reducible apply And.intro)) <;> try ((first | first | assumption | trivial | exact (fun hq => by rw [hq]; rfl) | exact i64_of (by omega) (by omega) | omega | (simp; done) | (simp; omega) | (intro hsc; have hs0 := hsc; (try have hsd := of_decide_eq_true hsc); (try simp only [Bool.not_eq_true', Bool.or_eq_false_iff, Bool.and_eq_true, Bool.or_eq_true, decide_eq_true_eq, decide_eq_false_iff_not] at hsc); (repeat' (with_reducible apply And.intro)) <;> (first | assumption | trivial | exact (fun hq => by rw [hq]; rfl) | exact i64_of (by omega) (by omega) | omega | (simp; done) | (simp; omega) | (intro hse; simp [hse, hs0]; done) | (intro hse; simp only [hse, hs0, Bool.true_and, Bool.and_true, Bool.not_false, Bool.not_true, Bool.and_self]; done))))))
    refine end_round (fs.length - (k + 1)) [.p (.str t), .p (.sl 1 (strE fs)), .any, .any, .any, .any, .any, .any, .any, .any, .any, .any, .any, .any, .any, .any, .any, .any, .any, .any, .any, .any, .any, .any, .any, .any, .any, .p (.sl 1 (strE fs)), .p (int (fs.length : Nat)), .p (int ((k + 1) : Nat)), .any, .any, .any, .any, .any, .any, .any, .any, .any, .any, .any, .any, .any, .any, .any, .any, .any, .any, .any, .any, .any, .any, .any, .any, .any, .any, .any, .any, .any, .any, .any, .any, .any, .any, .any, .any, .any, .any, .any, .any, .any, .any, .any, .any, .any, .any, .any, .any, .any, .any, .any, .any, .any, .any, .any, .any, .any, .any, .any, .any, .any, .any, .any] [] (by omega) (by (simp only [ZZ, YY, Ze, ite_true, ite_false, forall_const, reduceCtorEq, Nat.reduceAdd, Nat.reduceMul, Nat.reduceLeDiff, Nat.reduceLT, Nat.reduceEqDiff]; try trivial)) (by (simp only [ZZ, YY, Ze, ite_true, ite_false, forall_const, reduceCtorEq, Nat.reduceAdd, Nat.reduceMul, Nat.reduceLeDiff, Nat.reduceLT, Nat.reduceEqDiff]; try trivial)) ⟨k + 1, by omega, rfl, hr, rfl, rfl⟩
  intro h
  have hge : k = fs.length := by have := of_decide_eq_false h; omega
  rw [hge, Nat.sub_self, fmR] at hr
  clear h hge hk
  have hS := fm_sorted hr
  have hN := fm_nil hr
  rw [if_pos hr]
  simp only [ZZ, YY, Ze, ite_true, ite_false, forall_const, reduceCtorEq, Nat.reduceAdd, Nat.reduceMul, Nat.reduceLeDiff, Nat.reduceLT, Nat.reduceEqDiff]
  refine use1 (plainR (paragraphs_ok t (by omega))) rfl (.inl rfl) ?_
  have hPl := parF_lenS t
  have hPw := parF_wgt t
  have hPm := parF_mem t
  simp only [ZZ, YY, Ze, ite_true, ite_false, forall_const, reduceCtorEq, Nat.reduceAdd, Nat.reduceMul, Nat.reduceLeDiff, Nat.reduceLT, Nat.reduceEqDiff, tbE_lenS]
  unfold stF
  generalize parF t = T at *
  have hR0 : ([] : List (List PV)) = strE (stO fs (T.take 0)) := by simp [stO, strE]
  rw [hR0]
  refine loop_intro (fun n fr L => ∃ (j : Nat), j ≤ T.length ∧ n = T.length - j ∧ fr = [.p (.str t), .p (.sl 1 (strE fs)), .any, .any, .any, .any, .any, .any, .any, .any, .row (.l 10), .any, .any, .any, .any, .any, .any, .any, .any, .any, .any, .any, .any, .any, .any, .any, .any, .any, .any, .any, .any, .any, .any, .any, .any, .any, .any, .any, .any, .any, .any, .any, .any, .any, .any, .any, .any, .any, .any, .any, .any, .any, .any, .any, .any, .any, .any, .any, .any, .any, .any, .any, .any, .any, .p (.sl 1 (tbE T)), .p (int (T.length : Nat)), .p (int (j : Nat)), .any, .any, .any, .any, .any, .any, .any, .any, .any, .any, .any, .any, .any, .any, .any, .any, .any, .any, .any, .any, .any, .any, .any, .any, .any, .any] ∧ L = [(.l 10, .row (strE (stO fs (T.take j))) tStr 1 true)]) (T.length) [.p (.str t), .p (.sl 1 (strE fs)), .any, .any, .any, .any, .any, .any, .any, .any, .row (.l 10), .any, .any, .any, .any, .any, .any, .any, .any, .any, .any, .any, .any, .any, .any, .any, .any, .any, .any, .any, .any, .any, .any, .any, .any, .any, .any, .any, .any, .any, .any, .any, .any, .any, .any, .any, .any, .any, .any, .any, .any, .any, .any, .any, .any, .any, .any, .any, .any, .any, .any, .any, .any, .any, .p (.sl 1 (tbE T)), .p (int (T.length : Nat)), .p (int (0 : Nat)), .any, .any, .any, .any, .any, .any, .any, .any, .any, .any, .any, .any, .any, .any, .any, .any, .any, .any, .any, .any, .any, .any, .any, .any, .any, .any] [(.l 10, .row (strE (stO fs (T.take 0))) tStr 1 true)] (by simp only [ZZ, YY, Ze, ite_true, ite_false, forall_const, reduceCtorEq, Nat.reduceAdd, Nat.reduceMul, Nat.reduceLeDiff, Nat.reduceLT, Nat.reduceEqDiff, tbE_lenS]; try trivial) (by (simp only [ZZ, YY, Ze, ite_true, ite_false, forall_const, reduceCtorEq, Nat.reduceAdd, Nat.reduceMul, Nat.reduceLeDiff, Nat.reduceLT, Nat.reduceEqDiff]; try trivial)) ⟨0, by omega, by omega, rfl, rfl⟩ ?_
  rintro n fr L ⟨j, hj, rfl, rfl, rfl⟩
  simp only [ir_near_Strip_L1, ZZ, YY, Ze, ite_true, ite_false, forall_const, reduceCtorEq, Nat.reduceAdd, Nat.reduceMul, Nat.reduceLeDiff, Nat.reduceLT, Nat.reduceEqDiff]
  refine br ?_ ?_
  · intro h2
    have hjl : j < T.length := by have := of_decide_eq_true h2; omega
    obtain ⟨p, hp⟩ : ∃ p, T[j]? = some p := ⟨_, List.getElem?_eq_getElem hjl⟩
    have hgp := tbE_getS hp
    have hpp := hPm p (List.mem_of_getElem? hp)
    have hpn := wgt_len p
    have htk := stO_take (fs := fs) hp
    have hXl := stX_len p
    have hjn := join1_wgt p 10
    have hsl : (stO fs (T.take j)).length ≤ 100000000 := by
      have := stO_len fs (T.take j)
      rw [List.length_take] at this
      omega
    simp only [ZZ, YY, Ze, ite_true, ite_false, forall_const, reduceCtorEq, Nat.reduceAdd, Nat.reduceMul, Nat.reduceLeDiff, Nat.reduceLT, Nat.reduceEqDiff, hgp, tbE_lenS]
    ((repeat' (with_reducible apply And.intro)) <;> try ((first | first | assumption | trivial | exact (fun hq => by rw [hq]; rfl) | exact i64_of (by omega) (by omega) | omega | (simp; done) | (simp; omega) | (intro hsc; have hs0 := hsc; (try have hsd := of_decide_eq_true hsc); (try simp only [Bool.not_eq_true', Bool.or_eq_false_iff, Bool.and_eq_true, Bool.or_eq_true, decide_eq_true_eq, decide_eq_false_iff_not] at hsc); (repeat' (with_reducible apply And.intro)) <;> (first | assumption | trivial | exact (fun hq => by rw [hq]; rfl) | exact i64_of (by omega) (by omega) | omega | (simp; done) | (simp; omega) | (intro hse; simp [hse, hs0]; done) | (intro hse; simp only [hse, hs0, Bool.true_and, Bool.and_true, Bool.not_false, Bool.not_true, Bool.and_self]; done))))))
    refine use1 (form_ok p (by omega)) rfl (.inl rfl) ?_
    simp only [ZZ, YY, Ze, ite_true, ite_false, forall_const, reduceCtorEq, Nat.reduceAdd, Nat.reduceMul, Nat.reduceLeDiff, Nat.reduceLT, Nat.reduceEqDiff]
    refine use (SearchS_ok fs (formF p) (by omega) hS) rfl (.inl rfl) ?_
    rintro y ⟨i, rfl⟩
    have hqq : (decide (formF p = []) || !decide (formF p ∈ fs)) = stQ fs p := by
      unfold stQ
      by_cases hz : formF p = []
      · rw [hz]
        simp [hN]
      · simp [hz]
    simp only [ZZ, YY, Ze, ite_true, ite_false, forall_const, reduceCtorEq, Nat.reduceAdd, Nat.reduceMul, Nat.reduceLeDiff, Nat.reduceLT, Nat.reduceEqDiff, hqq]
    ((repeat' (with_reducible apply And.intro)) <;> try ((first | first | assumption | trivial | exact (fun hq => by rw [hq]; rfl) | exact i64_of (by omega) (by omega) | omega | (simp; done) | (simp; omega) | (intro hsc; have hs0 := hsc; (try have hsd := of_decide_eq_true hsc); (try simp only [Bool.not_eq_true', Bool.or_eq_false_iff, Bool.and_eq_true, Bool.or_eq_true, decide_eq_true_eq, decide_eq_false_iff_not] at hsc); (repeat' (with_reducible apply And.intro)) <;> (first | assumption | trivial | exact (fun hq => by rw [hq]; rfl) | exact i64_of (by omega) (by omega) | omega | (simp; done) | (simp; omega) | (intro hse; simp [hse, hs0]; done) | (intro hse; simp only [hse, hs0, Bool.true_and, Bool.and_true, Bool.not_false, Bool.not_true, Bool.and_self]; done))))))
    refine br ?_ ?_
    · intro hq
      rw [hq, if_pos rfl] at htk
      have happ : strE (stO fs (T.take j)) ++ [[.str (Lib.join p [10] ++ [10])]] = strE (stO fs (T.take (j + 1))) := by rw [htk]; simp [strE, stX]
      simp only [ZZ, YY, Ze, ite_true, ite_false, forall_const, reduceCtorEq, Nat.reduceAdd, Nat.reduceMul, Nat.reduceLeDiff, Nat.reduceLT, Nat.reduceEqDiff]
      refine use1 (Join_ok p [10] (by omega) (by omega)) rfl (.inl rfl) ?_
      simp only [ZZ, YY, Ze, ite_true, ite_false, forall_const, reduceCtorEq, Nat.reduceAdd, Nat.reduceMul, Nat.reduceLeDiff, Nat.reduceLT, Nat.reduceEqDiff, strE_len]
      ((repeat' (with_reducible apply And.intro)) <;> try ((first | first | assumption | trivial | exact (fun hq => by rw [hq]; rfl) | exact i64_of (by omega) (by omega) | omega | (simp; done) | (simp; omega) | (intro hsc; have hs0 := hsc; (try have hsd := of_decide_eq_true hsc); (try simp only [Bool.not_eq_true', Bool.or_eq_false_iff, Bool.and_eq_true, Bool.or_eq_true, decide_eq_true_eq, decide_eq_false_iff_not] at hsc); (repeat' (with_reducible apply And.intro)) <;> (first | assumption | trivial | exact (fun hq => by rw [hq]; rfl) | exact i64_of (by omega) (by omega) | omega | (simp; done) | (simp; omega) | (intro hse; simp [hse, hs0]; done) | (intro hse; simp only [hse, hs0, Bool.true_and, Bool.and_true, Bool.not_false, Bool.not_true, Bool.and_self]; done))))))
      refine cut_same (by simp only [ZZ, YY, Ze, ite_true, ite_false, forall_const, reduceCtorEq, Nat.reduceAdd, Nat.reduceMul, Nat.reduceLeDiff, Nat.reduceLT, Nat.reduceEqDiff]) ?_
      simp only [ZZ, YY, Ze, ite_true, ite_false, forall_const, reduceCtorEq, Nat.reduceAdd, Nat.reduceMul, Nat.reduceLeDiff, Nat.reduceLT, Nat.reduceEqDiff]
      ((repeat' (with_reducible apply And.intro)) <;> try ((first | first | assumption | trivial | exact (fun hq => by rw [hq]; rfl) | exact i64_of (by omega) (by omega) | omega | (simp; done) | (simp; omega) | (intro hsc; have hs0 := hsc; (try have hsd := of_decide_eq_true hsc); (try simp only [Bool.not_eq_true', Bool.or_eq_false_iff, Bool.and_eq_true, Bool.or_eq_true, decide_eq_true_eq, decide_eq_false_iff_not] at hsc); (repeat' (with_reducible apply And.intro)) <;> (first | assumption | trivial | exact (fun hq => by rw [hq]; rfl) | exact i64_of (by omega) (by omega) | omega | (simp; done) | (simp; omega) | (intro hse; simp [hse, hs0]; done) | (intro hse; simp only [hse, hs0, Bool.true_and, Bool.and_true, Bool.not_false, Bool.not_true, Bool.and_self]; done))))))
      rw [happ]
      refine end_round (T.length - (j + 1)) [.p (.str t), .p (.sl 1 (strE fs)), .any, .any, .any, .any, .any, .any, .any, .any, .row (.l 10), .any, .any, .any, .any, .any, .any, .any, .any, .any, .any, .any, .any, .any, .any, .any, .any, .any, .any, .any, .any, .any, .any, .any, .any, .any, .any, .any, .any, .any, .any, .any, .any, .any, .any, .any, .any, .any, .any, .any, .any, .any, .any, .any, .any, .any, .any, .any, .any, .any, .any, .any, .any, .any, .p (.sl 1 (tbE T)), .p (int (T.length : Nat)), .p (int ((j + 1) : Nat)), .any, .any, .any, .any, .any, .any, .any, .any, .any, .any, .any, .any, .any, .any, .any, .any, .any, .any, .any, .any, .any, .any, .any, .any, .any, .any] [(.l 10, .row (strE (stO fs (T.take (j + 1)))) tStr 1 true)] (by omega) (by (simp only [ZZ, YY, Ze, ite_true, ite_false, forall_const, reduceCtorEq, Nat.reduceAdd, Nat.reduceMul, Nat.reduceLeDiff, Nat.reduceLT, Nat.reduceEqDiff]; try trivial)) (by (simp only [ZZ, YY, Ze, ite_true, ite_false, forall_const, reduceCtorEq, Nat.reduceAdd, Nat.reduceMul, Nat.reduceLeDiff, Nat.reduceLT, Nat.reduceEqDiff]; try trivial)) ⟨j + 1, by omega, rfl, rfl, rfl⟩
    · intro hq
      rw [hq, if_neg (by simp), List.append_nil] at htk
      simp only [ZZ, YY, Ze, ite_true, ite_false, forall_const, reduceCtorEq, Nat.reduceAdd, Nat.reduceMul, Nat.reduceLeDiff, Nat.reduceLT, Nat.reduceEqDiff]
      refine cut_same (by simp only [ZZ, YY, Ze, ite_true, ite_false, forall_const, reduceCtorEq, Nat.reduceAdd, Nat.reduceMul, Nat.reduceLeDiff, Nat.reduceLT, Nat.reduceEqDiff]) ?_
      simp only [ZZ, YY, Ze, ite_true, ite_false, forall_const, reduceCtorEq, Nat.reduceAdd, Nat.reduceMul, Nat.reduceLeDiff, Nat.reduceLT, Nat.reduceEqDiff]
      ((repeat' (with_reducible apply And.intro)) <;> try ((first | first | assumption | trivial | exact (fun hq => by rw [hq]; rfl) | exact i64_of (by omega) (by omega) | omega | (simp; done) | (simp; omega) | (intro hsc; have hs0 := hsc; (try have hsd := of_decide_eq_true hsc); (try simp only [Bool.not_eq_true', Bool.or_eq_false_iff, Bool.and_eq_true, Bool.or_eq_true, decide_eq_true_eq, decide_eq_false_iff_not] at hsc); (repeat' (with_reducible apply And.intro)) <;> (first | assumption | trivial | exact (fun hq => by rw [hq]; rfl) | exact i64_of (by omega) (by omega) | omega | (simp; done) | (simp; omega) | (intro hse; simp [hse, hs0]; done) | (intro hse; simp only [hse, hs0, Bool.true_and, Bool.and_true, Bool.not_false, Bool.not_true, Bool.and_self]; done))))))
      rw [← htk]
      refine end_round (T.length - (j + 1)) [.p (.str t), .p (.sl 1 (strE fs)), .any, .any, .any, .any, .any, .any, .any, .any, .row (.l 10), .any, .any, .any, .any, .any, .any, .any, .any, .any, .any, .any, .any, .any, .any, .any, .any, .any, .any, .any, .any, .any, .any, .any, .any, .any, .any, .any, .any, .any, .any, .any, .any, .any, .any, .any, .any, .any, .any, .any, .any, .any, .any, .any, .any, .any, .any, .any, .any, .any, .any, .any, .any, .any, .p (.sl 1 (tbE T)), .p (int (T.length : Nat)), .p (int ((j + 1) : Nat)), .any, .any, .any, .any, .any, .any, .any, .any, .any, .any, .any, .any, .any, .any, .any, .any, .any, .any, .any, .any, .any, .any, .any, .any, .any, .any] [(.l 10, .row (strE (stO fs (T.take (j + 1)))) tStr 1 true)] (by omega) (by (simp only [ZZ, YY, Ze, ite_true, ite_false, forall_const, reduceCtorEq, Nat.reduceAdd, Nat.reduceMul, Nat.reduceLeDiff, Nat.reduceLT, Nat.reduceEqDiff]; try trivial)) (by (simp only [ZZ, YY, Ze, ite_true, ite_false, forall_const, reduceCtorEq, Nat.reduceAdd, Nat.reduceMul, Nat.reduceLeDiff, Nat.reduceLT, Nat.reduceEqDiff]; try trivial)) ⟨j + 1, by omega, rfl, rfl, rfl⟩
  intro h2
  have hge : j = T.length := by have := of_decide_eq_false h2; omega
  rw [hge, List.take_length]
  clear h2 hge hj
  have hW := stO_wgt fs T
  have hWl := wgt_len (stO fs T)
  have hJl := join1_wgt (stO fs T) 10
  simp only [ZZ, YY, Ze, ite_true, ite_false, forall_const, reduceCtorEq, Nat.reduceAdd, Nat.reduceMul, Nat.reduceLeDiff, Nat.reduceLT, Nat.reduceEqDiff]
  refine use1 (Join_ok (stO fs T) [10] (by omega) (by omega)) rfl (.inr rfl) ?_
  simp only [ZZ, YY, Ze, ite_true, ite_false, forall_const, reduceCtorEq, Nat.reduceAdd, Nat.reduceMul, Nat.reduceLeDiff, Nat.reduceLT, Nat.reduceEqDiff]
set_option maxHeartbeats 8000000 in
set_option maxRecDepth 100000 in
theorem StripOf_ok (t : List UInt8) (fs : SRow) (ht : t.length ≤ 1000000) (hfs : FsB fs) : PCall Tryz.prog E0 30 [.str t, .sl 1 (strE fs)] (· = if stE t fs = 0 then .tup [.str (stF t fs), int 0] else .tup [.str [], int (stE t fs)]) := by
  obtain ⟨f1, f2⟩ := hfs
  refine pcallF mixed Tryz.func30 ck_chaseref1_StripOf ?_
  simp only [a0, l0, OS.ao, List.map_cons, List.map_nil, List.length_cons, List.length_nil, List.cons_append, List.nil_append, Nat.reduceSub, Nat.reduceAdd, List.replicate_succ, List.replicate_zero, ir_chaseref1_StripOf, rs_chaseref1_StripOf, ZZ, YY, Ze, ite_true, ite_false, forall_const, reduceCtorEq, Nat.reduceAdd, Nat.reduceMul, Nat.reduceLeDiff, Nat.reduceLT, Nat.reduceEqDiff]
  simp only [ZZ, YY, Ze, ite_true, ite_false, forall_const, reduceCtorEq, Nat.reduceAdd, Nat.reduceMul, Nat.reduceLeDiff, Nat.reduceLT, Nat.reduceEqDiff, strE_len]
  ((repeat' (with_reducible apply And.intro)) <;> try ((first | first | assumption | trivial | exact (fun hq => by rw [hq]; rfl) | exact i64_of (by omega) (by omega) | omega | (simp; done) | (simp; omega) | (intro hsc; have hs0 := hsc; (try have hsd := of_decide_eq_true hsc); (try simp only [Bool.not_eq_true', Bool.or_eq_false_iff, Bool.and_eq_true, Bool.or_eq_true, decide_eq_true_eq, decide_eq_false_iff_not] at hsc); (repeat' (with_reducible apply And.intro)) <;> (first | assumption | trivial | exact (fun hq => by rw [hq]; rfl) | exact i64_of (by omega) (by omega) | omega | (simp; done) | (simp; omega) | (intro hse; simp [hse, hs0]; done) | (intro hse; simp only [hse, hs0, Bool.true_and, Bool.and_true, Bool.not_false, Bool.not_true, Bool.and_self]; done))))))
  refine br ?_ ?_
  · intro h
    have hse : stE t fs = 2 := by
      simp only [Bool.or_eq_true, decide_eq_true_eq] at h
      unfold stE
      split
      · rfl
      · rw [if_pos (by omega)]
    rw [hse]
    simp only [ZZ, YY, Ze, ite_true, ite_false, forall_const, reduceCtorEq, Nat.reduceAdd, Nat.reduceMul, Nat.reduceLeDiff, Nat.reduceLT, Nat.reduceEqDiff]
    trivial
  intro h
  have ht2 : ¬ 20000 < t.length := by
    simp only [Bool.or_eq_false_iff, decide_eq_false_iff_not] at h
    omega
  have hf2 : ¬ 1000 < fs.length := by
    simp only [Bool.or_eq_false_iff, decide_eq_false_iff_not] at h
    omega
  have hse : stE t fs = fmR fs 0 fs.length := by unfold stE; rw [if_neg ht2, if_neg hf2]
  rw [hse]
  clear h
  simp only [ZZ, YY, Ze, ite_true, ite_false, forall_const, reduceCtorEq, Nat.reduceAdd, Nat.reduceMul, Nat.reduceLeDiff, Nat.reduceLT, Nat.reduceEqDiff, strE_len]
  refine loop_intro (fun n fr L => ∃ (k : Nat), k ≤ fs.length ∧ n = fs.length - k ∧ (fmR fs 0 fs.length = fmR fs k (fs.length - k)) ∧ fr = [.p (.str t), .p (.sl 1 (strE fs)), .any, .any, .any, .any, .any, .any, .any, .any, .any, .any, .any, .any, .any, .any, .any, .any, .any, .p (.sl 1 (strE fs)), .p (int (fs.length : Nat)), .p (int (k : Nat)), .any, .any, .any, .any, .any, .any, .any, .any, .any, .any, .any, .any, .any, .any, .any, .any, .any, .any, .any, .any, .any, .any, .any, .any, .any, .any, .any, .any, .any, .any, .any, .any, .any, .any, .any, .any, .any, .any, .any, .any, .any, .any, .any, .any, .any, .any] ∧ L = []) (fs.length) [.p (.str t), .p (.sl 1 (strE fs)), .any, .any, .any, .any, .any, .any, .any, .any, .any, .any, .any, .any, .any, .any, .any, .any, .any, .p (.sl 1 (strE fs)), .p (int (fs.length : Nat)), .p (int (0 : Nat)), .any, .any, .any, .any, .any, .any, .any, .any, .any, .any, .any, .any, .any, .any, .any, .any, .any, .any, .any, .any, .any, .any, .any, .any, .any, .any, .any, .any, .any, .any, .any, .any, .any, .any, .any, .any, .any, .any, .any, .any, .any, .any, .any, .any, .any, .any] [] (by simp only [ZZ, YY, Ze, ite_true, ite_false, forall_const, reduceCtorEq, Nat.reduceAdd, Nat.reduceMul, Nat.reduceLeDiff, Nat.reduceLT, Nat.reduceEqDiff, strE_len]; try trivial) (trivial) ⟨0, by omega, by omega, rfl, rfl, rfl⟩ ?_
  rintro n fr L ⟨k, hk, rfl, hr, rfl, rfl⟩
  simp only [ir_chaseref1_StripOf_L0, ZZ, YY, Ze, ite_true, ite_false, forall_const, reduceCtorEq, Nat.reduceAdd, Nat.reduceMul, Nat.reduceLeDiff, Nat.reduceLT, Nat.reduceEqDiff]
  refine br ?_ ?_
  · intro h
    have hlt : k < fs.length := by have := of_decide_eq_true h; omega
    obtain ⟨f, hf⟩ : ∃ f, fs[k]? = some f := ⟨_, List.getElem?_eq_getElem hlt⟩
    have hg := strE_get hf
    have hfl := f2 f (List.mem_of_getElem? hf)
    obtain ⟨q, hq⟩ : ∃ q, fs[k - 1]? = some q := ⟨_, List.getElem?_eq_getElem (by omega)⟩
    have hgq := strE_get hq
    have hfp : fmP fs k = q := by simp [fmP, List.getD, hq]
    have hgd : fs.getD k [] = f := by simp [List.getD, hf]
    have hmx : ((k : Int) - 1).toNat = k - 1 := by omega
    obtain ⟨n, hn⟩ : ∃ n, fs.length - k = n + 1 := ⟨fs.length - k - 1, by omega⟩
    have hn2 : fs.length - (k + 1) = n := by omega
    have hw1 := words_wgt f
    have hw2 := join1_wgt (wordsF f) 32
    have hw3 := wgt_len (wordsF f)
    rw [hn, fmR] at hr
    simp only [ZZ, YY, Ze, ite_true, ite_false, forall_const, reduceCtorEq, Nat.reduceAdd, Nat.reduceMul, Nat.reduceLeDiff, Nat.reduceLT, Nat.reduceEqDiff, hg, strE_len]
    ((repeat' (with_reducible apply And.intro)) <;> try ((first | first | assumption | trivial | exact (fun hq => by rw [hq]; rfl) | exact i64_of (by omega) (by omega) | omega | (simp; done) | (simp; omega) | (intro hsc; have hs0 := hsc; (try have hsd := of_decide_eq_true hsc); (try simp only [Bool.not_eq_true', Bool.or_eq_false_iff, Bool.and_eq_true, Bool.or_eq_true, decide_eq_true_eq, decide_eq_false_iff_not] at hsc); (repeat' (with_reducible apply And.intro)) <;> (first | assumption | trivial | exact (fun hq => by rw [hq]; rfl) | exact i64_of (by omega) (by omega) | omega | (simp; done) | (simp; omega) | (intro hse; simp [hse, hs0]; done) | (intro hse; simp only [hse, hs0, Bool.true_and, Bool.and_true, Bool.not_false, Bool.not_true, Bool.and_self]; done))))))
    refine useG (fun _ => WordsOf_ok f (by omega)) rfl (.inl rfl) ?_
    simp only [ZZ, YY, Ze, ite_true, ite_false, forall_const, reduceCtorEq, Nat.reduceAdd, Nat.reduceMul, Nat.reduceLeDiff, Nat.reduceLT, Nat.reduceEqDiff]
    refine useG (fun _ => jS_ok (wordsF f) (by omega) (by unfold jS; omega)) rfl (.inl rfl) ?_
    rw [← form1]
    simp only [ZZ, YY, Ze, ite_true, ite_false, forall_const, reduceCtorEq, Nat.reduceAdd, Nat.reduceMul, Nat.reduceLeDiff, Nat.reduceLT, Nat.reduceEqDiff]
    ((repeat' (with_reducible apply And.intro)) <;> try ((first | first | assumption | trivial | exact (fun hq => by rw [hq]; rfl) | exact i64_of (by omega) (by omega) | omega | (simp; done) | (simp; omega) | (intro hsc; have hs0 := hsc; (try have hsd := of_decide_eq_true hsc); (try simp only [Bool.not_eq_true', Bool.or_eq_false_iff, Bool.and_eq_true, Bool.or_eq_true, decide_eq_true_eq, decide_eq_false_iff_not] at hsc); (repeat' (with_reducible apply And.intro)) <;> (first | assumption | trivial | exact (fun hq => by rw [hq]; rfl) | exact i64_of (by omega) (by omega) | omega | (simp; done) | (simp; omega) | (intro hse; simp [hse, hs0]; done) | (intro hse; simp only [hse, hs0, Bool.true_and, Bool.and_true, Bool.not_false, Bool.not_true, Bool.and_self]; done))))))
    have hfb : (decide (f = []) || !decide (formF [f] = f)) = fmB f := rfl
    refine br ?_ ?_
    · intro hb
      have h3 : fmS fs k = 3 := by unfold fmS; rw [hgd, ← hfb, hb, if_pos rfl]
      rw [h3, if_neg (by decide)] at hr
      rw [hr]
      simp only [ZZ, YY, Ze, ite_true, ite_false, forall_const, reduceCtorEq, Nat.reduceAdd, Nat.reduceMul, Nat.reduceLeDiff, Nat.reduceLT, Nat.reduceEqDiff]
      trivial
    intro hb
    rw [hfb] at hb
    simp only [ZZ, YY, Ze, ite_true, ite_false, forall_const, reduceCtorEq, Nat.reduceAdd, Nat.reduceMul, Nat.reduceLeDiff, Nat.reduceLT, Nat.reduceEqDiff, hmx, hgq, strE_len]
    ((repeat' (with_reducible apply And.intro)) <;> try ((first | first | assumption | trivial | exact (fun hq => by rw [hq]; rfl) | exact i64_of (by omega) (by omega) | omega | (simp; done) | (simp; omega) | (intro hsc; have hs0 := hsc; (try have hsd := of_decide_eq_true hsc); (try simp only [Bool.not_eq_true', Bool.or_eq_false_iff, Bool.and_eq_true, Bool.or_eq_true, decide_eq_true_eq, decide_eq_false_iff_not] at hsc); (repeat' (with_reducible apply And.intro)) <;> (first | assumption | trivial | exact (fun hq => by rw [hq]; rfl) | exact i64_of (by omega) (by omega) | omega | (simp; done) | (simp; omega) | (intro hse; simp [hse, hs0]; done) | (intro hse; simp only [hse, hs0, Bool.true_and, Bool.and_true, Bool.not_false, Bool.not_true, Bool.and_self]; done))))))
    have hfo : (decide (0 < (k : Int)) && (bytesLess f q || decide (f = q))) = fmO fs k f := by rw [fmO, hfp]
    refine br ?_ ?_
    · intro ho
      rw [hfo] at ho
      have h3 : fmS fs k = 7 := by unfold fmS; rw [hgd, hb, if_neg (by simp), ho, if_pos rfl]
      rw [h3, if_neg (by decide)] at hr
      rw [hr]
      simp only [ZZ, YY, Ze, ite_true, ite_false, forall_const, reduceCtorEq, Nat.reduceAdd, Nat.reduceMul, Nat.reduceLeDiff, Nat.reduceLT, Nat.reduceEqDiff]
      trivial
    intro ho
    rw [hfo] at ho
    have h3 : fmS fs k = 0 := by unfold fmS; rw [hgd, hb, if_neg (by simp), ho, if_neg (by simp)]
    rw [if_pos h3, ← hn2] at hr
    simp only [ZZ, YY, Ze, ite_true, ite_false, forall_const, reduceCtorEq, Nat.reduceAdd, Nat.reduceMul, Nat.reduceLeDiff, Nat.reduceLT, Nat.reduceEqDiff]
    ((repeat' (with_reducible apply And.intro)) <;> try ((first | first | assumption | trivial | exact (fun hq => by rw [hq]; rfl) | exact i64_of (by omega) (by omega) | omega | (simp; done) | (simp; omega) | (intro hsc; have hs0 := hsc; (try have hsd := of_decide_eq_true hsc); (try simp only [Bool.not_eq_true', Bool.or_eq_false_iff, Bool.and_eq_true, Bool.or_eq_true, decide_eq_true_eq, decide_eq_false_iff_not] at hsc); (repeat' (with_reducible apply And.intro)) <;> (first | assumption | trivial | exact (fun hq => by rw [hq]; rfl) | exact i64_of (by omega) (by omega) | omega | (simp; done) | (simp; omega) | (intro hse; simp [hse, hs0]; done) | (intro hse; simp only [hse, hs0, Bool.true_and, Bool.and_true, Bool.not_false, Bool.not_true, Bool.and_self]; done))))))
    refine end_round (fs.length - (k + 1)) [.p (.str t), .p (.sl 1 (strE fs)), .any, .any, .any, .any, .any, .any, .any, .any, .any, .any, .any, .any, .any, .any, .any, .any, .any, .p (.sl 1 (strE fs)), .p (int (fs.length : Nat)), .p (int ((k + 1) : Nat)), .any, .any, .any, .any, .any, .any, .any, .any, .any, .any, .any, .any, .any, .any, .any, .any, .any, .any, .any, .any, .any, .any, .any, .any, .any, .any, .any, .any, .any, .any, .any, .any, .any, .any, .any, .any, .any, .any, .any, .any, .any, .any, .any, .any, .any, .any] [] (by omega) (by (simp only [ZZ, YY, Ze, ite_true, ite_false, forall_const, reduceCtorEq, Nat.reduceAdd, Nat.reduceMul, Nat.reduceLeDiff, Nat.reduceLT, Nat.reduceEqDiff]; try trivial)) (by (simp only [ZZ, YY, Ze, ite_true, ite_false, forall_const, reduceCtorEq, Nat.reduceAdd, Nat.reduceMul, Nat.reduceLeDiff, Nat.reduceLT, Nat.reduceEqDiff]; try trivial)) ⟨k + 1, by omega, rfl, hr, rfl, rfl⟩
  intro h
  have hge : k = fs.length := by have := of_decide_eq_false h; omega
  rw [hge, Nat.sub_self, fmR] at hr
  clear h hge hk
  rw [if_pos hr]
  simp only [ZZ, YY, Ze, ite_true, ite_false, forall_const, reduceCtorEq, Nat.reduceAdd, Nat.reduceMul, Nat.reduceLeDiff, Nat.reduceLT, Nat.reduceEqDiff]
  refine use1 (plainR (blocks_ok t (by omega))) rfl (.inl rfl) ?_
  have hPl := parF_lenS t
  have hPw := parF_wgt t
  have hPm := parF_mem t
  simp only [ZZ, YY, Ze, ite_true, ite_false, forall_const, reduceCtorEq, Nat.reduceAdd, Nat.reduceMul, Nat.reduceLeDiff, Nat.reduceLT, Nat.reduceEqDiff, tbE_lenS]
  unfold stF
  generalize parF t = T at *
  have hR0 : ([] : List (List PV)) = strE (stO fs (T.take 0)) := by simp [stO, strE]
  rw [hR0]
  refine loop_intro (fun n fr L => ∃ (j : Nat), j ≤ T.length ∧ n = T.length - j ∧ fr = [.p (.str t), .p (.sl 1 (strE fs)), .any, .any, .any, .any, .any, .any, .row (.l 8), .any, .any, .any, .any, .any, .any, .any, .any, .any, .any, .any, .any, .any, .any, .any, .any, .any, .any, .any, .any, .any, .any, .any, .any, .any, .any, .any, .any, .any, .any, .any, .any, .any, .any, .any, .any, .any, .any, .any, .p (.sl 1 (tbE T)), .p (int (T.length : Nat)), .p (int (j : Nat)), .any, .any, .any, .any, .any, .any, .any, .any, .any, .any, .any, .any, .any, .any, .any, .any, .any] ∧ L = [(.l 8, .row (strE (stO fs (T.take j))) tStr 1 true)]) (T.length) [.p (.str t), .p (.sl 1 (strE fs)), .any, .any, .any, .any, .any, .any, .row (.l 8), .any, .any, .any, .any, .any, .any, .any, .any, .any, .any, .any, .any, .any, .any, .any, .any, .any, .any, .any, .any, .any, .any, .any, .any, .any, .any, .any, .any, .any, .any, .any, .any, .any, .any, .any, .any, .any, .any, .any, .p (.sl 1 (tbE T)), .p (int (T.length : Nat)), .p (int (0 : Nat)), .any, .any, .any, .any, .any, .any, .any, .any, .any, .any, .any, .any, .any, .any, .any, .any, .any] [(.l 8, .row (strE (stO fs (T.take 0))) tStr 1 true)] (by simp only [ZZ, YY, Ze, ite_true, ite_false, forall_const, reduceCtorEq, Nat.reduceAdd, Nat.reduceMul, Nat.reduceLeDiff, Nat.reduceLT, Nat.reduceEqDiff, tbE_lenS]; try trivial) (by (simp only [ZZ, YY, Ze, ite_true, ite_false, forall_const, reduceCtorEq, Nat.reduceAdd, Nat.reduceMul, Nat.reduceLeDiff, Nat.reduceLT, Nat.reduceEqDiff]; try trivial)) ⟨0, by omega, by omega, rfl, rfl⟩ ?_
  rintro n fr L ⟨j, hj, rfl, rfl, rfl⟩
  simp only [ir_chaseref1_StripOf_L1, ZZ, YY, Ze, ite_true, ite_false, forall_const, reduceCtorEq, Nat.reduceAdd, Nat.reduceMul, Nat.reduceLeDiff, Nat.reduceLT, Nat.reduceEqDiff]
  refine br ?_ ?_
  · intro h2
    have hjl : j < T.length := by have := of_decide_eq_true h2; omega
    obtain ⟨p, hp⟩ : ∃ p, T[j]? = some p := ⟨_, List.getElem?_eq_getElem hjl⟩
    have hgp := tbE_getS hp
    have hpp := hPm p (List.mem_of_getElem? hp)
    have hpn := wgt_len p
    have htk := stO_take (fs := fs) hp
    have hXl := stX_len p
    have hjn := join1_wgt p 10
    have hsl : (stO fs (T.take j)).length ≤ 100000000 := by
      have := stO_len fs (T.take j)
      rw [List.length_take] at this
      omega
    simp only [ZZ, YY, Ze, ite_true, ite_false, forall_const, reduceCtorEq, Nat.reduceAdd, Nat.reduceMul, Nat.reduceLeDiff, Nat.reduceLT, Nat.reduceEqDiff, hgp, tbE_lenS]
    ((repeat' (with_reducible apply And.intro)) <;> try ((first | first | assumption | trivial | exact (fun hq => by rw [hq]; rfl) | exact i64_of (by omega) (by omega) | omega | (simp; done) | (simp; omega) | (intro hsc; have hs0 := hsc; (try have hsd := of_decide_eq_true hsc); (try simp only [Bool.not_eq_true', Bool.or_eq_false_iff, Bool.and_eq_true, Bool.or_eq_true, decide_eq_true_eq, decide_eq_false_iff_not] at hsc); (repeat' (with_reducible apply And.intro)) <;> (first | assumption | trivial | exact (fun hq => by rw [hq]; rfl) | exact i64_of (by omega) (by omega) | omega | (simp; done) | (simp; omega) | (intro hse; simp [hse, hs0]; done) | (intro hse; simp only [hse, hs0, Bool.true_and, Bool.and_true, Bool.not_false, Bool.not_true, Bool.and_self]; done))))))
    refine use1 (formOf_ok p (by omega)) rfl (.inl rfl) ?_
    simp only [ZZ, YY, Ze, ite_true, ite_false, forall_const, reduceCtorEq, Nat.reduceAdd, Nat.reduceMul, Nat.reduceLeDiff, Nat.reduceLT, Nat.reduceEqDiff]
    refine use1 (ContainsS_ok fs (formF p) (by omega)) rfl (.inl rfl) ?_
    have hqq : (!decide (formF p ∈ fs)) = stQ fs p := rfl
    simp only [ZZ, YY, Ze, ite_true, ite_false, forall_const, reduceCtorEq, Nat.reduceAdd, Nat.reduceMul, Nat.reduceLeDiff, Nat.reduceLT, Nat.reduceEqDiff, hqq]
    ((repeat' (with_reducible apply And.intro)) <;> try ((first | first | assumption | trivial | exact (fun hq => by rw [hq]; rfl) | exact i64_of (by omega) (by omega) | omega | (simp; done) | (simp; omega) | (intro hsc; have hs0 := hsc; (try have hsd := of_decide_eq_true hsc); (try simp only [Bool.not_eq_true', Bool.or_eq_false_iff, Bool.and_eq_true, Bool.or_eq_true, decide_eq_true_eq, decide_eq_false_iff_not] at hsc); (repeat' (with_reducible apply And.intro)) <;> (first | assumption | trivial | exact (fun hq => by rw [hq]; rfl) | exact i64_of (by omega) (by omega) | omega | (simp; done) | (simp; omega) | (intro hse; simp [hse, hs0]; done) | (intro hse; simp only [hse, hs0, Bool.true_and, Bool.and_true, Bool.not_false, Bool.not_true, Bool.and_self]; done))))))
    refine br ?_ ?_
    · intro hq
      rw [hq, if_pos rfl] at htk
      have happ : strE (stO fs (T.take j)) ++ [[.str (Lib.join p [10] ++ [10])]] = strE (stO fs (T.take (j + 1))) := by rw [htk]; simp [strE, stX]
      simp only [ZZ, YY, Ze, ite_true, ite_false, forall_const, reduceCtorEq, Nat.reduceAdd, Nat.reduceMul, Nat.reduceLeDiff, Nat.reduceLT, Nat.reduceEqDiff]
      refine use1 (Join_ok p [10] (by omega) (by omega)) rfl (.inl rfl) ?_
      simp only [ZZ, YY, Ze, ite_true, ite_false, forall_const, reduceCtorEq, Nat.reduceAdd, Nat.reduceMul, Nat.reduceLeDiff, Nat.reduceLT, Nat.reduceEqDiff, strE_len]
      ((repeat' (with_reducible apply And.intro)) <;> try ((first | first | assumption | trivial | exact (fun hq => by rw [hq]; rfl) | exact i64_of (by omega) (by omega) | omega | (simp; done) | (simp; omega) | (intro hsc; have hs0 := hsc; (try have hsd := of_decide_eq_true hsc); (try simp only [Bool.not_eq_true', Bool.or_eq_false_iff, Bool.and_eq_true, Bool.or_eq_true, decide_eq_true_eq, decide_eq_false_iff_not] at hsc); (repeat' (with_reducible apply And.intro)) <;> (first | assumption | trivial | exact (fun hq => by rw [hq]; rfl) | exact i64_of (by omega) (by omega) | omega | (simp; done) | (simp; omega) | (intro hse; simp [hse, hs0]; done) | (intro hse; simp only [hse, hs0, Bool.true_and, Bool.and_true, Bool.not_false, Bool.not_true, Bool.and_self]; done))))))
      refine cut_same (by simp only [ZZ, YY, Ze, ite_true, ite_false, forall_const, reduceCtorEq, Nat.reduceAdd, Nat.reduceMul, Nat.reduceLeDiff, Nat.reduceLT, Nat.reduceEqDiff]) ?_
      simp only [ZZ, YY, Ze, ite_true, ite_false, forall_const, reduceCtorEq, Nat.reduceAdd, Nat.reduceMul, Nat.reduceLeDiff, Nat.reduceLT, Nat.reduceEqDiff]
      ((repeat' (with_reducible apply And.intro)) <;> try ((first | first | assumption | trivial | exact (fun hq => by rw [hq]; rfl) | exact i64_of (by omega) (by omega) | omega | (simp; done) | (simp; omega) | (intro hsc; have hs0 := hsc; (try have hsd := of_decide_eq_true hsc); (try simp only [Bool.not_eq_true', Bool.or_eq_false_iff, Bool.and_eq_true, Bool.or_eq_true, decide_eq_true_eq, decide_eq_false_iff_not] at hsc); (repeat' (with_reducible apply And.intro)) <;> (first | assumption | trivial | exact (fun hq => by rw [hq]; rfl) | exact i64_of (by omega) (by omega) | omega | (simp; done) | (simp; omega) | (intro hse; simp [hse, hs0]; done) | (intro hse; simp only [hse, hs0, Bool.true_and, Bool.and_true, Bool.not_false, Bool.not_true, Bool.and_self]; done))))))
      rw [happ]
      refine end_round (T.length - (j + 1)) [.p (.str t), .p (.sl 1 (strE fs)), .any, .any, .any, .any, .any, .any, .row (.l 8), .any, .any, .any, .any, .any, .any, .any, .any, .any, .any, .any, .any, .any, .any, .any, .any, .any, .any, .any, .any, .any, .any, .any, .any, .any, .any, .any, .any, .any, .any, .any, .any, .any, .any, .any, .any, .any, .any, .any, .p (.sl 1 (tbE T)), .p (int (T.length : Nat)), .p (int ((j + 1) : Nat)), .any, .any, .any, .any, .any, .any, .any, .any, .any, .any, .any, .any, .any, .any, .any, .any, .any] [(.l 8, .row (strE (stO fs (T.take (j + 1)))) tStr 1 true)] (by omega) (by (simp only [ZZ, YY, Ze, ite_true, ite_false, forall_const, reduceCtorEq, Nat.reduceAdd, Nat.reduceMul, Nat.reduceLeDiff, Nat.reduceLT, Nat.reduceEqDiff]; try trivial)) (by (simp only [ZZ, YY, Ze, ite_true, ite_false, forall_const, reduceCtorEq, Nat.reduceAdd, Nat.reduceMul, Nat.reduceLeDiff, Nat.reduceLT, Nat.reduceEqDiff]; try trivial)) ⟨j + 1, by omega, rfl, rfl, rfl⟩
    · intro hq
      rw [hq, if_neg (by simp), List.append_nil] at htk
      simp only [ZZ, YY, Ze, ite_true, ite_false, forall_const, reduceCtorEq, Nat.reduceAdd, Nat.reduceMul, Nat.reduceLeDiff, Nat.reduceLT, Nat.reduceEqDiff]
      refine cut_same (by simp only [ZZ, YY, Ze, ite_true, ite_false, forall_const, reduceCtorEq, Nat.reduceAdd, Nat.reduceMul, Nat.reduceLeDiff, Nat.reduceLT, Nat.reduceEqDiff]) ?_
      simp only [ZZ, YY, Ze, ite_true, ite_false, forall_const, reduceCtorEq, Nat.reduceAdd, Nat.reduceMul, Nat.reduceLeDiff, Nat.reduceLT, Nat.reduceEqDiff]
      ((repeat' (with_reducible apply And.intro)) <;> try ((first | first | assumption | trivial | exact (fun hq => by rw [hq]; rfl) | exact i64_of (by omega) (by omega) | omega | (simp; done) | (simp; omega) | (intro hsc; have hs0 := hsc; (try have hsd := of_decide_eq_true hsc); (try simp only [Bool.not_eq_true', Bool.or_eq_false_iff, Bool.and_eq_true, Bool.or_eq_true, decide_eq_true_eq, decide_eq_false_iff_not] at hsc); (repeat' (with_reducible apply And.intro)) <;> (first | assumption | trivial | exact (fun hq => by rw [hq]; rfl) | exact i64_of (by omega) (by omega) | omega | (simp; done) | (simp; omega) | (intro hse; simp [hse, hs0]; done) | (intro hse; simp only [hse, hs0, Bool.true_and, Bool.and_true, Bool.not_false, Bool.not_true, Bool.and_self]; done))))))
      rw [← htk]
      refine end_round (T.length - (j + 1)) [.p (.str t), .p (.sl 1 (strE fs)), .any, .any, .any, .any, .any, .any, .row (.l 8), .any, .any, .any, .any, .any, .any, .any, .any, .any, .any, .any, .any, .any, .any, .any, .any, .any, .any, .any, .any, .any, .any, .any, .any, .any, .any, .any, .any, .any, .any, .any, .any, .any, .any, .any, .any, .any, .any, .any, .p (.sl 1 (tbE T)), .p (int (T.length : Nat)), .p (int ((j + 1) : Nat)), .any, .any, .any, .any, .any, .any, .any, .any, .any, .any, .any, .any, .any, .any, .any, .any, .any] [(.l 8, .row (strE (stO fs (T.take (j + 1)))) tStr 1 true)] (by omega) (by (simp only [ZZ, YY, Ze, ite_true, ite_false, forall_const, reduceCtorEq, Nat.reduceAdd, Nat.reduceMul, Nat.reduceLeDiff, Nat.reduceLT, Nat.reduceEqDiff]; try trivial)) (by (simp only [ZZ, YY, Ze, ite_true, ite_false, forall_const, reduceCtorEq, Nat.reduceAdd, Nat.reduceMul, Nat.reduceLeDiff, Nat.reduceLT, Nat.reduceEqDiff]; try trivial)) ⟨j + 1, by omega, rfl, rfl, rfl⟩
  intro h2
  have hge : j = T.length := by have := of_decide_eq_false h2; omega
  rw [hge, List.take_length]
  clear h2 hge hj
  have hW := stO_wgt fs T
  have hWl := wgt_len (stO fs T)
  have hJl := join1_wgt (stO fs T) 10
  simp only [ZZ, YY, Ze, ite_true, ite_false, forall_const, reduceCtorEq, Nat.reduceAdd, Nat.reduceMul, Nat.reduceLeDiff, Nat.reduceLT, Nat.reduceEqDiff]
  refine use1 (Join_ok (stO fs T) [10] (by omega) (by omega)) rfl (.inr rfl) ?_
  simp only [ZZ, YY, Ze, ite_true, ite_false, forall_const, reduceCtorEq, Nat.reduceAdd, Nat.reduceMul, Nat.reduceLeDiff, Nat.reduceLT, Nat.reduceEqDiff]
end Go.Proofs.YthfpehmbellmcaaGreatDoor
