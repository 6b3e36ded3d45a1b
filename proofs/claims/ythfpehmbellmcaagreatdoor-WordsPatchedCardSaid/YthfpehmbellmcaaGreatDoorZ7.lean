
/- Own texts, put together: M4 H1 H2 H3 M5 G1 M6 M7. -/
import Derived.Test.YthfpehmbellmcaaGreatDoorZ6
import Derived.Test.YthfpehmbellmcaaGreatDoorZ3
import Derived.Test.YthfpehmbellmcaaGreatDoorZ4
import Derived.Test.YthfpehmbellmcaaGreatDoorZ5
import Derived.WalkKit
import Derived.OwnWalk
import Derived.Lib.Builder
import Derived.Laws.Externs
import Derived.Maps.AppendAt
import Derived.Shelf.RegionOpenPlain
import Derived.Lib.Strings
import Derived.Lib.Slices
import Derived.Lib.Walk
import Derived.Lib.MakeNoZero
import Derived.Laws.IdiomCopy
import Derived.Laws.BitsLemmas
import Derived.KernelRfl
import Derived.Lib.Join
import Derived.Test.YthfpehmbellmcaaGreatDoorRep
/- Kept tokens: chaseref1.keptOf, whose table is a row of rows. -/
namespace Go.Proofs.YthfpehmbellmcaaGreatDoor
open Go.RowKit
set_option linter.unusedVariables false
set_option linter.unusedSimpArgs false
set_option linter.defProp false

/- paperchase/chaseref1.keptOf -/
def ir_chaseref1_keptOf_L4 : IC :=
  (.seq (.seq (.reg [⟨some 106, .mov (.t 12), none⟩,
      ⟨some 107, .mov (.t 1), none⟩,
      ⟨some 108, .len (.t 107), none⟩,
      ⟨some 109, .bin .lss (.t 106) (.t 108), none⟩])
    (.cond (.t 109) .skip (.exit 8)))
    (.seq (.block 9 (.seq (.drg [⟨some 112, .mov (.t 0), none⟩,
      ⟨some 113, .mov (.t 11), none⟩,
      ⟨some 114, .ixa 1 (.t 112) (.t 113), none⟩,
      ⟨some 115, .ld 1 false (.t 114), none⟩,
      ⟨some 116, .mov (.t 1), none⟩,
      ⟨some 117, .mov (.t 12), none⟩,
      ⟨some 118, .ixa 1 (.t 116) (.t 117), none⟩,
      ⟨some 119, .ld 1 false (.t 118), none⟩,
      ⟨some 120, .bin .eql (.t 115) (.t 119), none⟩,
      ⟨some 121, .mov (.t 120), none⟩,
      ⟨some 122, .mov (.t 5), (some (121, true))⟩,
      ⟨some 123, .mov (.t 11), (some (121, true))⟩,
      ⟨some 124, .bin .add (.t 123) (.c (.int .i64 1)), (some (121, true))⟩,
      ⟨some 125, .ixa 1 (.t 122) (.t 124), (some (121, true))⟩,
      ⟨some 126, .ld 1 false (.t 125), (some (121, true))⟩,
      ⟨some 127, .mov (.t 12), (some (121, true))⟩,
      ⟨some 128, .bin .add (.t 127) (.c (.int .i64 1)), (some (121, true))⟩,
      ⟨some 129, .ixa 1 (.t 126) (.t 128), (some (121, true))⟩,
      ⟨some 130, .ld 1 false (.t 129), (some (121, true))⟩,
      ⟨some 131, .bin .add (.t 130) (.c (.int .i64 1)), (some (121, true))⟩,
      ⟨some 132, .mov (.t 5), (some (121, true))⟩,
      ⟨some 133, .mov (.t 11), (some (121, true))⟩,
      ⟨some 134, .ixa 1 (.t 132) (.t 133), (some (121, true))⟩,
      ⟨some 135, .ld 1 false (.t 134), (some (121, true))⟩,
      ⟨some 136, .mov (.t 10), (some (121, true))⟩,
      ⟨some 137, .ixa 1 (.t 135) (.t 136), (some (121, true))⟩,
      ⟨some 138, .ld 1 false (.t 137), (some (121, true))⟩,
      ⟨some 139, .bin .eql (.t 131) (.t 138), (some (121, true))⟩,
      ⟨some 140, .pick (.t 121) (.t 139) (.c (.bool false)), none⟩])
    (.cond (.t 140) (.seq (.reg [⟨some 141, .mov (.t 9), none⟩,
      ⟨some 142, .mov (.t 11), none⟩,
      ⟨some 143, .mov (.t 12), none⟩,
      ⟨some 144, .bld [.int .i64 0, .int .i64 0] [(0, 1, .t 142), (1, 1, .t 143)], none⟩,
      ⟨some 145, .bsl 2 [.t 144], none⟩,
      ⟨some 146, .app 133 2 16 (.t 141) (.t 145), none⟩,
      ⟨some 9, .mov (.t 146), none⟩])
    (.seq (.reg [⟨some 147, .mov (.t 12), none⟩,
      ⟨some 148, .bin .add (.t 147) (.c (.int .i64 1)), none⟩,
      ⟨some 10, .mov (.t 148), none⟩])
    (.exit 8))) .skip)))
    (.reg [⟨some 110, .mov (.t 12), none⟩,
      ⟨some 111, .bin .add (.t 110) (.c (.int .i64 1)), none⟩,
      ⟨some 12, .mov (.t 111), none⟩])))
def ir_chaseref1_keptOf_L3 : IC :=
  (.seq (.reg [⟨some 103, .bin .lss (.t 102) (.t 101), none⟩])
    (.seq (.cond (.t 103) .skip (.exit 6))
    (.seq (.block 7 (.seq (.reg [⟨some 104, .mov (.t 102), none⟩,
      ⟨some 11, .mov (.t 104), none⟩])
    (.seq (.reg [⟨some 105, .mov (.t 10), none⟩,
      ⟨some 12, .mov (.t 105), none⟩])
    (.block 8 (.loop ir_chaseref1_keptOf_L4)))))
    (.cut (.reg [⟨some 149, .bin .add (.t 102) (.c (.int .i64 1)), none⟩,
      ⟨some 102, .mov (.t 149), none⟩])))))
def ir_chaseref1_keptOf_L2 : IC :=
  (.seq (.seq (.reg [⟨some 40, .mov (.t 8), none⟩,
      ⟨some 41, .bin .geq (.t 40) (.c (.int .i64 0)), none⟩])
    (.cond (.t 41) .skip (.exit 4)))
    (.seq (.block 5 (.seq (.drg [⟨some 44, .mov (.t 5), none⟩,
      ⟨some 45, .mov (.t 7), none⟩,
      ⟨some 46, .ixa 1 (.t 44) (.t 45), none⟩,
      ⟨some 47, .ld 1 false (.t 46), none⟩,
      ⟨some 48, .mov (.t 8), none⟩,
      ⟨some 49, .mov (.t 5), none⟩,
      ⟨some 50, .mov (.t 7), none⟩,
      ⟨some 51, .bin .add (.t 50) (.c (.int .i64 1)), none⟩,
      ⟨some 52, .ixa 1 (.t 49) (.t 51), none⟩,
      ⟨some 53, .ld 1 false (.t 52), none⟩,
      ⟨some 54, .mov (.t 8), none⟩,
      ⟨some 55, .ixa 1 (.t 53) (.t 54), none⟩,
      ⟨some 56, .ld 1 false (.t 55), none⟩,
      ⟨some 57, .mov (.t 5), none⟩,
      ⟨some 58, .mov (.t 7), none⟩,
      ⟨some 59, .ixa 1 (.t 57) (.t 58), none⟩,
      ⟨some 60, .ld 1 false (.t 59), none⟩,
      ⟨some 61, .mov (.t 8), none⟩,
      ⟨some 62, .bin .add (.t 61) (.c (.int .i64 1)), none⟩,
      ⟨some 63, .ixa 1 (.t 60) (.t 62), none⟩,
      ⟨some 64, .ld 1 false (.t 63), none⟩,
      ⟨some 65, .mx (.t 56) (.t 64), none⟩,
      ⟨some 66, .ixa 1 (.t 47) (.t 48), none⟩,
      ⟨none, .st 1 (.t 66) (.t 65), none⟩])
    (.seq (.drg [⟨some 67, .mov (.t 0), none⟩,
      ⟨some 68, .mov (.t 7), none⟩,
      ⟨some 69, .ixa 1 (.t 67) (.t 68), none⟩,
      ⟨some 70, .ld 1 false (.t 69), none⟩,
      ⟨some 71, .mov (.t 1), none⟩,
      ⟨some 72, .mov (.t 8), none⟩,
      ⟨some 73, .ixa 1 (.t 71) (.t 72), none⟩,
      ⟨some 74, .ld 1 false (.t 73), none⟩,
      ⟨some 75, .bin .eql (.t 70) (.t 74), none⟩])
    (.cond (.t 75) (.drg [⟨some 76, .mov (.t 5), none⟩,
      ⟨some 77, .mov (.t 7), none⟩,
      ⟨some 78, .ixa 1 (.t 76) (.t 77), none⟩,
      ⟨some 79, .ld 1 false (.t 78), none⟩,
      ⟨some 80, .mov (.t 8), none⟩,
      ⟨some 81, .mov (.t 5), none⟩,
      ⟨some 82, .mov (.t 7), none⟩,
      ⟨some 83, .ixa 1 (.t 81) (.t 82), none⟩,
      ⟨some 84, .ld 1 false (.t 83), none⟩,
      ⟨some 85, .mov (.t 8), none⟩,
      ⟨some 86, .ixa 1 (.t 84) (.t 85), none⟩,
      ⟨some 87, .ld 1 false (.t 86), none⟩,
      ⟨some 88, .mov (.t 5), none⟩,
      ⟨some 89, .mov (.t 7), none⟩,
      ⟨some 90, .bin .add (.t 89) (.c (.int .i64 1)), none⟩,
      ⟨some 91, .ixa 1 (.t 88) (.t 90), none⟩,
      ⟨some 92, .ld 1 false (.t 91), none⟩,
      ⟨some 93, .mov (.t 8), none⟩,
      ⟨some 94, .bin .add (.t 93) (.c (.int .i64 1)), none⟩,
      ⟨some 95, .ixa 1 (.t 92) (.t 94), none⟩,
      ⟨some 96, .ld 1 false (.t 95), none⟩,
      ⟨some 97, .bin .add (.t 96) (.c (.int .i64 1)), none⟩,
      ⟨some 98, .mx (.t 87) (.t 97), none⟩,
      ⟨some 99, .ixa 1 (.t 79) (.t 80), none⟩,
      ⟨none, .st 1 (.t 99) (.t 98), none⟩]) .skip))))
    (.cut (.reg [⟨some 42, .mov (.t 8), none⟩,
      ⟨some 43, .bin .sub (.t 42) (.c (.int .i64 1)), none⟩,
      ⟨some 8, .mov (.t 43), none⟩]))))
def ir_chaseref1_keptOf_L1 : IC :=
  (.seq (.seq (.reg [⟨some 33, .mov (.t 7), none⟩,
      ⟨some 34, .bin .geq (.t 33) (.c (.int .i64 0)), none⟩])
    (.cond (.t 34) .skip (.exit 2)))
    (.seq (.block 3 (.seq (.reg [⟨some 37, .mov (.t 1), none⟩,
      ⟨some 38, .len (.t 37), none⟩,
      ⟨some 39, .bin .sub (.t 38) (.c (.int .i64 1)), none⟩,
      ⟨some 8, .mov (.t 39), none⟩])
    (.block 4 (.loop ir_chaseref1_keptOf_L2))))
    (.reg [⟨some 35, .mov (.t 7), none⟩,
      ⟨some 36, .bin .sub (.t 35) (.c (.int .i64 1)), none⟩,
      ⟨some 7, .mov (.t 36), none⟩])))
def ir_chaseref1_keptOf_L0 : IC :=
  (.seq (.reg [⟨some 20, .bin .lss (.t 19) (.t 18), none⟩])
    (.seq (.cond (.t 20) .skip (.exit 0))
    (.seq (.block 1 (.seq (.reg [⟨some 21, .mov (.t 19), none⟩,
      ⟨some 6, .mov (.t 21), none⟩])
    (.reg [⟨some 22, .mov (.t 5), none⟩,
      ⟨some 23, .mov (.t 6), none⟩,
      ⟨some 24, .mov (.t 1), none⟩,
      ⟨some 25, .len (.t 24), none⟩,
      ⟨some 26, .bin .add (.t 25) (.c (.int .i64 1)), none⟩,
      ⟨some 27, .mks 3 1 8 [.int .i64 0] (.t 26) (.t 26), none⟩,
      ⟨some 28, .ixa 1 (.t 22) (.t 23), none⟩,
      ⟨none, .st 1 (.t 28) (.t 27), none⟩])))
    (.reg [⟨some 29, .bin .add (.t 19) (.c (.int .i64 1)), none⟩,
      ⟨some 19, .mov (.t 29), none⟩]))))
def ir_chaseref1_keptOf : IC :=
  (.seq (.reg [⟨some 4, .mov (.c (.nl 2)), none⟩])
    (.seq (.reg [⟨some 13, .mov (.t 0), none⟩,
      ⟨some 14, .len (.t 13), none⟩,
      ⟨some 15, .bin .add (.t 14) (.c (.int .i64 1)), none⟩,
      ⟨some 16, .mks 22 1 24 [.nl 1] (.t 15) (.t 15), none⟩,
      ⟨some 5, .mov (.t 16), none⟩])
    (.seq (.seq (.reg [⟨some 17, .mov (.t 5), none⟩,
      ⟨some 18, .len (.t 17), none⟩,
      ⟨some 19, .mov (.c (.int .i64 0)), none⟩])
    (.block 0 (.loop ir_chaseref1_keptOf_L0)))
    (.seq (.seq (.reg [⟨some 30, .mov (.t 0), none⟩,
      ⟨some 31, .len (.t 30), none⟩,
      ⟨some 32, .bin .sub (.t 31) (.c (.int .i64 1)), none⟩,
      ⟨some 7, .mov (.t 32), none⟩])
    (.block 2 (.loop ir_chaseref1_keptOf_L1)))
    (.seq (.reg [⟨some 9, .nilr 133 2, none⟩])
    (.seq (.reg [⟨some 10, .mov (.c (.int .i64 0)), none⟩])
    (.seq (.seq (.reg [⟨some 100, .mov (.t 0), none⟩,
      ⟨some 101, .len (.t 100), none⟩,
      ⟨some 102, .mov (.c (.int .i64 0)), none⟩])
    (.block 6 (.loop ir_chaseref1_keptOf_L3)))
    (.seq (.reg [⟨some 150, .mov (.t 9), none⟩,
      ⟨some 4, .mov (.t 150), none⟩])
    .ret))))))))
def rs_chaseref1_keptOf : List IRes := [.t 4]
theorem ck_chaseref1_keptOf : chkF Tryz.prog Tryz.f99 ir_chaseref1_keptOf rs_chaseref1_keptOf 151 = true := by kernel_rfl

abbrev tInts : Nat := 22
/-- The table's cells: the first i rows are there. -/
def cellsF (n i : Nat) : List (List AV) := (List.range n).map fun q => [if q < i then AV.row (.l (1000 + q)) else .p (.sl 1 [])]
theorem cellsF_len (n i : Nat) : (cellsF n i).length = n := by simp [cellsF]
theorem cellsF_get {n i q : Nat} (h : q < n) : (cellsF n i).getD q [] = [if q < i then AV.row (.l (1000 + q)) else .p (.sl 1 [])] := by simp [cellsF, List.getD, h]
theorem cellsF_kill {n i d : Nat} (hd : d < 1000) : (cellsF n i).map (fun x => x.map fun y => AV.kill (.l d) y) = cellsF n i := by
  unfold cellsF
  rw [List.map_map]
  refine List.map_congr_left fun q _ => ?_
  simp only [Function.comp_apply, List.map_cons, List.map_nil]
  split
  · rw [AV.kill, if_neg (by intro e; cases e; omega)]
  · rfl
theorem cellsF_ren {n i d : Nat} (hd : d < 1000) (hi : i < n) : ((cellsF n i).set i [AV.row (.l d)]).map (fun x => x.map fun y => AV.ren (r1 d (1000 + i)) y) = cellsF n (i + 1) := by
  apply List.ext_getElem?
  intro j
  rw [List.getElem?_map, List.getElem?_set, cellsF_len]
  have hg : ∀ i' j : Nat, (cellsF n i')[j]? = if j < n then some [if j < i' then AV.row (.l (1000 + j)) else .p (.sl 1 [])] else none := by
    intro i' j
    unfold cellsF
    rw [List.getElem?_map]
    by_cases h : j < n
    · simp [h]
    · simp [h]
  rw [hg, hg]
  by_cases hj : i = j
  · subst hj
    simp [hi, AV.ren, r1]
  · rw [if_neg hj]
    by_cases hjn : j < n
    · rw [if_pos hjn, if_pos hjn]
      by_cases hji : j < i
      · rw [if_pos hji, if_pos (show j < i + 1 by omega)]
        have h1 : ¬ Key.l (1000 + j) = .l d := by simp; omega
        have h2 : ¬ Key.l (1000 + j) = .l (1000 + i) := by simp; omega
        simp [AV.ren, r1, h1, h2]
      · rw [if_neg hji, if_neg (show ¬ j < i + 1 by omega)]
        rfl
    · rw [if_neg hjn, if_neg hjn]; rfl
theorem cellsF_zero (n : Nat) : (List.replicate n [PV.sl 1 []]).map (fun x => x.map AV.p) = cellsF n 0 := by
  unfold cellsF
  apply List.ext_getElem?
  intro j
  rw [List.getElem?_map, List.getElem?_replicate, List.getElem?_map]
  by_cases h : j < n <;> simp [h]
/-- The rows as far as they are filled. -/
def rfF (x y : Toks) (i j q b : Nat) : Nat := if i < q ∨ (i = q ∧ j ≤ b) then lc (x.drop q) (y.drop b) else 0
/-- What the objects are: the table's cells and its rows. -/
def RestI (L : Objs) (n i W : Nat) (f : Nat → Nat → Nat) : Prop :=
  Zas L (.l 16) = some (.rowv (cellsF n i) tInts 1) ∧ ∀ q, q < i → Zas L (.l (1000 + q)) = some (.row (tbR W (f q)) tIntM 1 true)
theorem rfF_other {x y : Toks} {i j q : Nat} (hq : q ≠ i) (n : Nat) : tbR n (rfF x y i (j + 1) q) = tbR n (rfF x y i j q) := by
  refine tbR_ext fun b _ => ?_
  unfold rfF
  by_cases h : i < q
  · rw [if_pos (.inl h), if_pos (.inl h)]
  · rw [if_neg (by omega), if_neg (by omega)]
theorem rfF_this {x y : Toks} {i j v : Nat} (hv : v = lc (x.drop i) (y.drop j)) (n : Nat) : tbR n (fun r => if r = j then v else rfF x y i (j + 1) i r) = tbR n (rfF x y i j i) := by
  refine tbR_ext fun b _ => ?_
  unfold rfF
  by_cases h : b = j
  · subst h; rw [if_pos rfl, if_pos (.inr ⟨rfl, Nat.le_refl _⟩), hv]
  · rw [if_neg h]
    by_cases h2 : j + 1 ≤ b
    · rw [if_pos (.inr ⟨rfl, h2⟩), if_pos (.inr ⟨rfl, by omega⟩)]
    · rw [if_neg (by omega), if_neg (by omega)]
theorem rfF_row {x y : Toks} {i q : Nat} : tbR (y.length + 1) (rfF x y (i + 1) 0 q) = tbR (y.length + 1) (rfF x y i y.length q) := by
  refine tbR_ext fun b hb => ?_
  unfold rfF
  by_cases h : i < q
  · rw [if_pos (by omega), if_pos (.inl h)]
  · rw [if_neg (by omega)]
    split
    · have : b = y.length := by omega
      rw [this, List.drop_length, lc_nil']
    · rfl
/-- The objects when the pairs are looked for. -/
def PairI (L : Objs) (x y : Toks) (acc : List (Nat × Nat)) : Prop :=
  Zas L (.l 9) = some (.row (prE acc) tPr 2 true) ∧ Zas L (.l 16) = some (.rowv (cellsF (x.length + 1) (x.length + 1)) tInts 1) ∧ ∀ q, q < x.length + 1 → Zas L (.l (1000 + q)) = some (.row (tbR (y.length + 1) fun b => lc (x.drop q) (y.drop b)) tIntM 1 true)
set_option maxHeartbeats 8000000 in
set_option maxRecDepth 100000 in
theorem keptOf_ok (x y : Toks) (hx : x.length ≤ 3000) (hy : y.length ≤ 3000) : FCall Tryz.prog E0 99 [.sl 1 (strE x), .sl 1 (strE y)] tPr 2 (· = prE (kr 0 0 x y)) := by
  unfold FCall
  refine gcallR mixed Tryz.func99 ck_chaseref1_keptOf ?_
  simp only [a0, l0, OS.ao, List.map_cons, List.map_nil, List.length_cons, List.length_nil, List.cons_append, List.nil_append, Nat.reduceSub, Nat.reduceAdd, List.replicate_succ, List.replicate_zero, ir_chaseref1_keptOf, rs_chaseref1_keptOf, ZZ, YY, Ze, ite_true, ite_false, forall_const, reduceCtorEq, Nat.reduceAdd, Nat.reduceMul, Nat.reduceLeDiff, Nat.reduceLT, Nat.reduceEqDiff]
  have hn1 : ((x.length : Nat) + 1 : Int).toNat = x.length + 1 := by omega
  simp only [ZZ, YY, Ze, ite_true, ite_false, forall_const, reduceCtorEq, Nat.reduceAdd, Nat.reduceMul, Nat.reduceLeDiff, Nat.reduceLT, Nat.reduceEqDiff, strE_len, hn1, List.length_replicate]
  ((repeat' (with_reducible apply And.intro)) <;> try ((first | first | assumption | trivial | exact (fun hq => by rw [hq]; rfl) | exact i64_of (by omega) (by omega) | omega | (simp; done) | (simp; omega) | (intro hsc; have hs0 := hsc; (try have hsd := of_decide_eq_true hsc); (try simp only [Bool.not_eq_true', Bool.or_eq_false_iff, Bool.and_eq_true, Bool.or_eq_true, decide_eq_true_eq, decide_eq_false_iff_not] at hsc); (repeat' (with_reducible apply And.intro)) <;> (first | assumption | trivial | exact (fun hq => by rw [hq]; rfl) | exact i64_of (by omega) (by omega) | omega | (simp; done) | (simp; omega) | (intro hse; simp [hse, hs0]; done) | (intro hse; simp only [hse, hs0, Bool.true_and, Bool.and_true, Bool.not_false, Bool.not_true, Bool.and_self]; done))))))
  refine loop_re (fun m fr L => ∃ i, i ≤ x.length + 1 ∧ m = x.length + 1 - i ∧ fr = [.p (.sl 1 (strE x)), .p (.sl 1 (strE y)), .any, .any, .any, .row (.l 16), .any, .any, .any, .any, .any, .any, .any, .any, .any, .any, .row (.l 16), .any, .p (int ((x.length : Nat) + 1)), .p (int (i : Nat)), .any, .any, .any, .any, .any, .any, .any, .any, .any, .any, .any, .any, .any, .any, .any, .any, .any, .any, .any, .any, .any, .any, .any, .any, .any, .any, .any, .any, .any, .any, .any, .any, .any, .any, .any, .any, .any, .any, .any, .any, .any, .any, .any, .any, .any, .any, .any, .any, .any, .any, .any, .any, .any, .any, .any, .any, .any, .any, .any, .any, .any, .any, .any, .any, .any, .any, .any, .any, .any, .any, .any, .any, .any, .any, .any, .any, .any, .any, .any, .any, .any, .any, .any, .any, .any, .any, .any, .any, .any, .any, .any, .any, .any, .any, .any, .any, .any, .any, .any, .any, .any, .any, .any, .any, .any, .any, .any, .any, .any, .any, .any, .any, .any, .any, .any, .any, .any, .any, .any, .any, .any, .any, .any, .any, .any, .any, .any, .any, .any, .any, .any] ∧ RestI L (x.length + 1) i (y.length + 1) fun _ _ => 0) (x.length + 1) [.p (.sl 1 (strE x)), .p (.sl 1 (strE y)), .any, .any, .any, .row (.l 16), .any, .any, .any, .any, .any, .any, .any, .any, .any, .any, .row (.l 16), .any, .p (int ((x.length : Nat) + 1)), .p (int (0 : Nat)), .any, .any, .any, .any, .any, .any, .any, .any, .any, .any, .any, .any, .any, .any, .any, .any, .any, .any, .any, .any, .any, .any, .any, .any, .any, .any, .any, .any, .any, .any, .any, .any, .any, .any, .any, .any, .any, .any, .any, .any, .any, .any, .any, .any, .any, .any, .any, .any, .any, .any, .any, .any, .any, .any, .any, .any, .any, .any, .any, .any, .any, .any, .any, .any, .any, .any, .any, .any, .any, .any, .any, .any, .any, .any, .any, .any, .any, .any, .any, .any, .any, .any, .any, .any, .any, .any, .any, .any, .any, .any, .any, .any, .any, .any, .any, .any, .any, .any, .any, .any, .any, .any, .any, .any, .any, .any, .any, .any, .any, .any, .any, .any, .any, .any, .any, .any, .any, .any, .any, .any, .any, .any, .any, .any, .any, .any, .any, .any, .any, .any, .any] _ (ReOk.trans (re_le (by simp only [ZZ, YY, Ze, ite_true, ite_false, forall_const, reduceCtorEq, Nat.reduceAdd, Nat.reduceMul, Nat.reduceLeDiff, Nat.reduceLT, Nat.reduceEqDiff, strE_len]; try trivial)) (re_rowv (k := .l 16) rfl)) ⟨0, by omega, by omega, rfl, ?_, fun q h => by omega⟩ ?_
  · rw [cellsF_zero]; rfl
  rintro m fr L ⟨i, hi, rfl, rfl, hL, hR⟩
  simp only [ir_chaseref1_keptOf_L0, ZZ, YY, Ze, ite_true, ite_false, forall_const, reduceCtorEq, Nat.reduceAdd, Nat.reduceMul, Nat.reduceLeDiff, Nat.reduceLT, Nat.reduceEqDiff]
  refine br ?_ ?_
  · intro h
    have hlt : i < x.length + 1 := by have := of_decide_eq_true h; omega
    have hw1 : ((y.length : Nat) + 1 : Int).toNat = y.length + 1 := by omega
    have hgc := cellsF_get (i := i) hlt
    rw [if_neg (by omega)] at hgc
    have hk16 : (16 = 1000 + i) = False := by simp; omega
    simp only [ZZ, YY, Ze, ite_true, ite_false, forall_const, reduceCtorEq, Nat.reduceAdd, Nat.reduceMul, Nat.reduceLeDiff, Nat.reduceLT, Nat.reduceEqDiff, strE_len, hw1, look_putO, look_killO, hL, cellsF_kill (show 27 < 1000 by omega), cellsF_len, hgc]
    ((repeat' (with_reducible apply And.intro)) <;> try ((first | first | assumption | trivial | exact (fun hq => by rw [hq]; rfl) | exact i64_of (by omega) (by omega) | omega | (simp; done) | (simp; omega) | (intro hsc; have hs0 := hsc; (try have hsd := of_decide_eq_true hsc); (try simp only [Bool.not_eq_true', Bool.or_eq_false_iff, Bool.and_eq_true, Bool.or_eq_true, decide_eq_true_eq, decide_eq_false_iff_not] at hsc); (repeat' (with_reducible apply And.intro)) <;> (first | assumption | trivial | exact (fun hq => by rw [hq]; rfl) | exact i64_of (by omega) (by omega) | omega | (simp; done) | (simp; omega) | (intro hse; simp [hse, hs0]; done) | (intro hse; simp only [hse, hs0, Bool.true_and, Bool.and_true, Bool.not_false, Bool.not_true, Bool.and_self]; done))))))
    refine end_re (x.length + 1 - (i + 1)) [.p (.sl 1 (strE x)), .p (.sl 1 (strE y)), .any, .any, .any, .row (.l 16), .any, .any, .any, .any, .any, .any, .any, .any, .any, .any, .row (.l 16), .any, .p (int ((x.length : Nat) + 1)), .p (int (i + 1 : Nat)), .any, .any, .any, .any, .any, .any, .any, .any, .any, .any, .any, .any, .any, .any, .any, .any, .any, .any, .any, .any, .any, .any, .any, .any, .any, .any, .any, .any, .any, .any, .any, .any, .any, .any, .any, .any, .any, .any, .any, .any, .any, .any, .any, .any, .any, .any, .any, .any, .any, .any, .any, .any, .any, .any, .any, .any, .any, .any, .any, .any, .any, .any, .any, .any, .any, .any, .any, .any, .any, .any, .any, .any, .any, .any, .any, .any, .any, .any, .any, .any, .any, .any, .any, .any, .any, .any, .any, .any, .any, .any, .any, .any, .any, .any, .any, .any, .any, .any, .any, .any, .any, .any, .any, .any, .any, .any, .any, .any, .any, .any, .any, .any, .any, .any, .any, .any, .any, .any, .any, .any, .any, .any, .any, .any, .any, .any, .any, .any, .any, .any, .any] _ (by omega) (ReOk.trans (re_ren 27 (1000 + i)) (re_le (by simp only [AV.ren, r1, hk16, ZZ, YY, Ze, ite_true, ite_false, forall_const, reduceCtorEq, Nat.reduceAdd, Nat.reduceMul, Nat.reduceLeDiff, Nat.reduceLT, Nat.reduceEqDiff]; try trivial))) ⟨i + 1, by omega, rfl, rfl, ?_, fun q hq => ?_⟩
    · have h1 : ¬ Key.l 16 = .l (1000 + i) := by simp; omega
      rw [look_ren1, if_neg h1, if_neg (by simp), look_putO, if_pos rfl]
      simp only [Option.map_some, AO.ren]
      rw [cellsF_ren (by omega) hlt]
    · rw [look_ren1]
      by_cases hqi : q = i
      · subst hqi
        rw [if_pos rfl, look_putO, if_neg (by simp), look_putO, if_pos rfl, tbR_zero]
        rfl
      · have h1 : ¬ Key.l (1000 + q) = .l (1000 + i) := by simp; omega
        have h2 : ¬ Key.l (1000 + q) = .l 27 := by simp; omega
        have h3 : ¬ Key.l (1000 + q) = .l 16 := by simp; omega
        rw [if_neg h1, if_neg h2, look_putO, if_neg h3, look_putO, if_neg h2, look_killO, hR q (by omega)]
        rfl
  · intro h
    have hge : i = x.length + 1 := by have := of_decide_eq_false h; omega
    subst hge
    simp only [ZZ, YY, Ze, ite_true, ite_false, forall_const, reduceCtorEq, Nat.reduceAdd, Nat.reduceMul, Nat.reduceLeDiff, Nat.reduceLT, Nat.reduceEqDiff, strE_len]
    ((repeat' (with_reducible apply And.intro)) <;> try ((first | first | assumption | trivial | exact (fun hq => by rw [hq]; rfl) | exact i64_of (by omega) (by omega) | omega | (simp; done) | (simp; omega) | (intro hsc; have hs0 := hsc; (try have hsd := of_decide_eq_true hsc); (try simp only [Bool.not_eq_true', Bool.or_eq_false_iff, Bool.and_eq_true, Bool.or_eq_true, decide_eq_true_eq, decide_eq_false_iff_not] at hsc); (repeat' (with_reducible apply And.intro)) <;> (first | assumption | trivial | exact (fun hq => by rw [hq]; rfl) | exact i64_of (by omega) (by omega) | omega | (simp; done) | (simp; omega) | (intro hse; simp [hse, hs0]; done) | (intro hse; simp only [hse, hs0, Bool.true_and, Bool.and_true, Bool.not_false, Bool.not_true, Bool.and_self]; done))))))
    refine loop_re (fun m fr L => m ≤ x.length ∧ fr = [.p (.sl 1 (strE x)), .p (.sl 1 (strE y)), .any, .any, .any, .row (.l 16), .any, .p (int ((m : Nat) - 1)), .any, .any, .any, .any, .any, .any, .any, .any, .row (.l 16), .any, .any, .any, .any, .any, .any, .any, .any, .any, .any, .any, .any, .any, .any, .any, .any, .any, .any, .any, .any, .any, .any, .any, .any, .any, .any, .any, .any, .any, .any, .any, .any, .any, .any, .any, .any, .any, .any, .any, .any, .any, .any, .any, .any, .any, .any, .any, .any, .any, .any, .any, .any, .any, .any, .any, .any, .any, .any, .any, .any, .any, .any, .any, .any, .any, .any, .any, .any, .any, .any, .any, .any, .any, .any, .any, .any, .any, .any, .any, .any, .any, .any, .any, .any, .any, .any, .any, .any, .any, .any, .any, .any, .any, .any, .any, .any, .any, .any, .any, .any, .any, .any, .any, .any, .any, .any, .any, .any, .any, .any, .any, .any, .any, .any, .any, .any, .any, .any, .any, .any, .any, .any, .any, .any, .any, .any, .any, .any, .any, .any, .any, .any, .any, .any] ∧ RestI L (x.length + 1) (x.length + 1) (y.length + 1) (rfF x y m 0)) x.length [.p (.sl 1 (strE x)), .p (.sl 1 (strE y)), .any, .any, .any, .row (.l 16), .any, .p (int ((x.length : Nat) - 1)), .any, .any, .any, .any, .any, .any, .any, .any, .row (.l 16), .any, .any, .any, .any, .any, .any, .any, .any, .any, .any, .any, .any, .any, .any, .any, .any, .any, .any, .any, .any, .any, .any, .any, .any, .any, .any, .any, .any, .any, .any, .any, .any, .any, .any, .any, .any, .any, .any, .any, .any, .any, .any, .any, .any, .any, .any, .any, .any, .any, .any, .any, .any, .any, .any, .any, .any, .any, .any, .any, .any, .any, .any, .any, .any, .any, .any, .any, .any, .any, .any, .any, .any, .any, .any, .any, .any, .any, .any, .any, .any, .any, .any, .any, .any, .any, .any, .any, .any, .any, .any, .any, .any, .any, .any, .any, .any, .any, .any, .any, .any, .any, .any, .any, .any, .any, .any, .any, .any, .any, .any, .any, .any, .any, .any, .any, .any, .any, .any, .any, .any, .any, .any, .any, .any, .any, .any, .any, .any, .any, .any, .any, .any, .any, .any] _ (re_le (by simp only [ZZ, YY, Ze, ite_true, ite_false, forall_const, reduceCtorEq, Nat.reduceAdd, Nat.reduceMul, Nat.reduceLeDiff, Nat.reduceLT, Nat.reduceEqDiff, strE_len]; try trivial)) ⟨Nat.le_refl _, rfl, hL, fun q hq => ?_⟩ ?_
    · rw [hR q hq]
      congr 2
      refine tbR_ext fun b hb => ?_
      unfold rfF
      split
      · rw [List.drop_of_length_le (by omega), lc_nil]
      · rfl
    clear hL hR L
    rintro m fr L ⟨hm, rfl, hL, hR⟩
    simp only [ir_chaseref1_keptOf_L1, ZZ, YY, Ze, ite_true, ite_false, forall_const, reduceCtorEq, Nat.reduceAdd, Nat.reduceMul, Nat.reduceLeDiff, Nat.reduceLT, Nat.reduceEqDiff]
    rcases m with _ | i
    · have hd : decide ((0 : Int) ≤ ((0 : Nat) : Int) - 1) = false := by decide
      simp only [ZZ, YY, Ze, ite_true, ite_false, forall_const, reduceCtorEq, Nat.reduceAdd, Nat.reduceMul, Nat.reduceLeDiff, Nat.reduceLT, Nat.reduceEqDiff, hd]
      refine loop_re (fun m fr L => ∃ i j acc, i ≤ x.length ∧ m = x.length - i ∧ j ≤ y.length ∧ acc.length ≤ i ∧ kr 0 0 x y = acc ++ kr i j (x.drop i) (y.drop j) ∧ fr = [.p (.sl 1 (strE x)), .p (.sl 1 (strE y)), .any, .any, .any, .row (.l 16), .any, .any, .any, .row (.l 9), .p (int (j : Nat)), .any, .any, .any, .any, .any, .row (.l 16), .any, .any, .any, .any, .any, .any, .any, .any, .any, .any, .any, .any, .any, .any, .any, .any, .any, .any, .any, .any, .any, .any, .any, .any, .any, .any, .any, .any, .any, .any, .any, .any, .any, .any, .any, .any, .any, .any, .any, .any, .any, .any, .any, .any, .any, .any, .any, .any, .any, .any, .any, .any, .any, .any, .any, .any, .any, .any, .any, .any, .any, .any, .any, .any, .any, .any, .any, .any, .any, .any, .any, .any, .any, .any, .any, .any, .any, .any, .any, .any, .any, .any, .any, .any, .p (int (x.length : Nat)), .p (int (i : Nat)), .any, .any, .any, .any, .any, .any, .any, .any, .any, .any, .any, .any, .any, .any, .any, .any, .any, .any, .any, .any, .any, .any, .any, .any, .any, .any, .any, .any, .any, .any, .any, .any, .any, .any, .any, .any, .any, .any, .any, .any, .any, .any, .any, .any, .any, .any, .any, .any] ∧ PairI L x y acc) x.length [.p (.sl 1 (strE x)), .p (.sl 1 (strE y)), .any, .any, .any, .row (.l 16), .any, .any, .any, .row (.l 9), .p (int (0 : Nat)), .any, .any, .any, .any, .any, .row (.l 16), .any, .any, .any, .any, .any, .any, .any, .any, .any, .any, .any, .any, .any, .any, .any, .any, .any, .any, .any, .any, .any, .any, .any, .any, .any, .any, .any, .any, .any, .any, .any, .any, .any, .any, .any, .any, .any, .any, .any, .any, .any, .any, .any, .any, .any, .any, .any, .any, .any, .any, .any, .any, .any, .any, .any, .any, .any, .any, .any, .any, .any, .any, .any, .any, .any, .any, .any, .any, .any, .any, .any, .any, .any, .any, .any, .any, .any, .any, .any, .any, .any, .any, .any, .any, .p (int (x.length : Nat)), .p (int (0 : Nat)), .any, .any, .any, .any, .any, .any, .any, .any, .any, .any, .any, .any, .any, .any, .any, .any, .any, .any, .any, .any, .any, .any, .any, .any, .any, .any, .any, .any, .any, .any, .any, .any, .any, .any, .any, .any, .any, .any, .any, .any, .any, .any, .any, .any, .any, .any, .any, .any] _ (re_le (by simp only [ZZ, YY, Ze, ite_true, ite_false, forall_const, reduceCtorEq, Nat.reduceAdd, Nat.reduceMul, Nat.reduceLeDiff, Nat.reduceLT, Nat.reduceEqDiff, strE_len]; try trivial)) ⟨0, 0, [], by omega, by omega, by omega, by simp, by simp, rfl, ?_, ?_, fun q hq => ?_⟩ ?_
      · rw [look_putO, if_pos rfl]; rfl
      · rw [look_putO, if_neg (by simp), look_killO, hL]
        simp only [Option.map_some, AO.kill]
        rw [cellsF_kill (by omega)]
      · rw [look_putO, if_neg (by simp; omega), look_killO, hR q hq]
        simp only [Option.map_some, AO.kill]
        congr 2
        refine tbR_ext fun b hb => ?_
        unfold rfF
        rw [if_pos (by omega)]
      clear hL hR L
      rintro m fr L ⟨i, j, acc, hi, rfl, hj, hal, hk, rfl, hP, hL, hR⟩
      simp only [ir_chaseref1_keptOf_L3, ZZ, YY, Ze, ite_true, ite_false, forall_const, reduceCtorEq, Nat.reduceAdd, Nat.reduceMul, Nat.reduceLeDiff, Nat.reduceLT, Nat.reduceEqDiff]
      refine br ?_ ?_
      · intro h
        have hlt : i < x.length := by have := of_decide_eq_true h; omega
        obtain ⟨s, hs⟩ : ∃ s, x[i]? = some s := ⟨_, List.getElem?_eq_getElem hlt⟩
        have hgs : (strE x).getD i [] = [.str s] := strE_get hs
        have hxd := drop_at hs
        simp only [ZZ, YY, Ze, ite_true, ite_false, forall_const, reduceCtorEq, Nat.reduceAdd, Nat.reduceMul, Nat.reduceLeDiff, Nat.reduceLT, Nat.reduceEqDiff]
        obtain ⟨M, hM⟩ : ∃ M, M = lc (x.drop i) (y.drop j) := ⟨_, rfl⟩
        have hks : kr i j (x.drop i) (y.drop j) = match fk s (x.drop (i + 1)) (y.drop j) M (y.drop j) 0 with | some k => (i, j + k) :: kr (i + 1) (j + k + 1) (x.drop (i + 1)) ((y.drop j).drop (k + 1)) | none => kr (i + 1) j (x.drop (i + 1)) (y.drop j) := by rw [hxd, kr, ← hxd, ← hM]; rfl
        refine loop_re (fun m fr L => ∃ k, j ≤ k ∧ k ≤ y.length ∧ m = y.length - k ∧ fk s (x.drop (i + 1)) (y.drop j) M (y.drop j) 0 = fk s (x.drop (i + 1)) (y.drop j) M (y.drop k) (k - j) ∧ fr = [.p (.sl 1 (strE x)), .p (.sl 1 (strE y)), .any, .any, .any, .row (.l 16), .any, .any, .any, .row (.l 9), .p (int (j : Nat)), .p (int (i : Nat)), .p (int (k : Nat)), .any, .any, .any, .row (.l 16), .any, .any, .any, .any, .any, .any, .any, .any, .any, .any, .any, .any, .any, .any, .any, .any, .any, .any, .any, .any, .any, .any, .any, .any, .any, .any, .any, .any, .any, .any, .any, .any, .any, .any, .any, .any, .any, .any, .any, .any, .any, .any, .any, .any, .any, .any, .any, .any, .any, .any, .any, .any, .any, .any, .any, .any, .any, .any, .any, .any, .any, .any, .any, .any, .any, .any, .any, .any, .any, .any, .any, .any, .any, .any, .any, .any, .any, .any, .any, .any, .any, .any, .any, .any, .p (int (x.length : Nat)), .p (int (i : Nat)), .any, .any, .any, .any, .any, .any, .any, .any, .any, .any, .any, .any, .any, .any, .any, .any, .any, .any, .any, .any, .any, .any, .any, .any, .any, .any, .any, .any, .any, .any, .any, .any, .any, .any, .any, .any, .any, .any, .any, .any, .any, .any, .any, .any, .any, .any, .any, .any] ∧ PairI L x y acc) (y.length - j) [.p (.sl 1 (strE x)), .p (.sl 1 (strE y)), .any, .any, .any, .row (.l 16), .any, .any, .any, .row (.l 9), .p (int (j : Nat)), .p (int (i : Nat)), .p (int (j : Nat)), .any, .any, .any, .row (.l 16), .any, .any, .any, .any, .any, .any, .any, .any, .any, .any, .any, .any, .any, .any, .any, .any, .any, .any, .any, .any, .any, .any, .any, .any, .any, .any, .any, .any, .any, .any, .any, .any, .any, .any, .any, .any, .any, .any, .any, .any, .any, .any, .any, .any, .any, .any, .any, .any, .any, .any, .any, .any, .any, .any, .any, .any, .any, .any, .any, .any, .any, .any, .any, .any, .any, .any, .any, .any, .any, .any, .any, .any, .any, .any, .any, .any, .any, .any, .any, .any, .any, .any, .any, .any, .p (int (x.length : Nat)), .p (int (i : Nat)), .any, .any, .any, .any, .any, .any, .any, .any, .any, .any, .any, .any, .any, .any, .any, .any, .any, .any, .any, .any, .any, .any, .any, .any, .any, .any, .any, .any, .any, .any, .any, .any, .any, .any, .any, .any, .any, .any, .any, .any, .any, .any, .any, .any, .any, .any, .any, .any] _ (re_le (by simp only [ZZ, YY, Ze, ite_true, ite_false, forall_const, reduceCtorEq, Nat.reduceAdd, Nat.reduceMul, Nat.reduceLeDiff, Nat.reduceLT, Nat.reduceEqDiff, strE_len]; try trivial)) ⟨j, by omega, by omega, rfl, by rw [Nat.sub_self], rfl, hP, hL, hR⟩ ?_
        clear hP hL hR L
        rintro m fr L ⟨k, hjk, hky, rfl, hfk, rfl, hP, hL, hR⟩
        simp only [ir_chaseref1_keptOf_L4, ZZ, YY, Ze, ite_true, ite_false, forall_const, reduceCtorEq, Nat.reduceAdd, Nat.reduceMul, Nat.reduceLeDiff, Nat.reduceLT, Nat.reduceEqDiff]
        simp only [ZZ, YY, Ze, ite_true, ite_false, forall_const, reduceCtorEq, Nat.reduceAdd, Nat.reduceMul, Nat.reduceLeDiff, Nat.reduceLT, Nat.reduceEqDiff, strE_len]
        refine br ?_ ?_
        · intro h
          have hkl : k < y.length := by have := of_decide_eq_true h; omega
          obtain ⟨t, ht⟩ : ∃ t, y[k]? = some t := ⟨_, List.getElem?_eq_getElem hkl⟩
          have hgt : (strE y).getD k [] = [.str t] := strE_get ht
          have hyd := drop_at ht
          have hc0 := cellsF_get (i := x.length + 1) (show i < x.length + 1 by omega)
          have hc1 := cellsF_get (i := x.length + 1) (show i + 1 < x.length + 1 by omega)
          rw [if_pos (by omega)] at hc0 hc1
          have hl0 := hR i (by omega)
          have hl1 := hR (i + 1) (by omega)
          generalize hk0 : 1000 + i = k0 at hc0 hl0
          generalize hk1 : 1000 + (i + 1) = k1 at hc1 hl1
          have t1 : (((i : Nat) : Int) + 1).toNat = i + 1 := by omega
          have t2 : (((k : Nat) : Int) + 1).toNat = k + 1 := by omega
          have g1 : (tbR (y.length + 1) fun b => lc (x.drop (i + 1)) (y.drop b)).getD (k + 1) [] = [int (lc (x.drop (i + 1)) (y.drop (k + 1)) : Nat)] := tbR_get (by omega)
          have g2 : (tbR (y.length + 1) fun b => lc (x.drop i) (y.drop b)).getD j [] = [int (M : Nat)] := by rw [tbR_get (by omega), hM]
          have hb1 : lc (x.drop (i + 1)) (y.drop (k + 1)) ≤ 3000 := Nat.le_trans (lc_le_len _ _) (by simp; omega)
          have hst : fk s (x.drop (i + 1)) (y.drop j) M (y.drop k) (k - j) = if s = t ∧ lc (x.drop (i + 1)) (y.drop (k + 1)) + 1 = M then some (k - j) else fk s (x.drop (i + 1)) (y.drop j) M (y.drop (k + 1)) (k + 1 - j) := by
            rw [hyd, fk, List.drop_drop, show j + (k - j + 1) = k + 1 from by omega, show k - j + 1 = k + 1 - j from by omega]
          simp only [ZZ, YY, Ze, ite_true, ite_false, forall_const, reduceCtorEq, Nat.reduceAdd, Nat.reduceMul, Nat.reduceLeDiff, Nat.reduceLT, Nat.reduceEqDiff]
          refine drg0 ?_
          simp only [ZZ, YY, Ze, ite_true, ite_false, forall_const, reduceCtorEq, Nat.reduceAdd, Nat.reduceMul, Nat.reduceLeDiff, Nat.reduceLT, Nat.reduceEqDiff, hgs, hgt, strE_len, hL, hl0, hl1, hc0, hc1, t1, t2, g1, g2, cellsF_len, tbR_len]
          ((repeat' (with_reducible apply And.intro)) <;> try ((first | first | assumption | trivial | exact (fun hq => by rw [hq]; rfl) | exact i64_of (by omega) (by omega) | omega | (simp; done) | (simp; omega) | (intro hsc; have hs0 := hsc; (try have hsd := of_decide_eq_true hsc); (try simp only [Bool.not_eq_true', Bool.or_eq_false_iff, Bool.and_eq_true, Bool.or_eq_true, decide_eq_true_eq, decide_eq_false_iff_not] at hsc); (repeat' (with_reducible apply And.intro)) <;> (first | assumption | trivial | exact (fun hq => by rw [hq]; rfl) | exact i64_of (by omega) (by omega) | omega | (simp; done) | (simp; omega) | (intro hse; simp [hse, hs0]; done) | (intro hse; simp only [hse, hs0, Bool.true_and, Bool.and_true, Bool.not_false, Bool.not_true, Bool.and_self]; done))))))
          refine br ?_ ?_
          · intro he
            have he : s = t ∧ lc (x.drop (i + 1)) (y.drop (k + 1)) + 1 = M := by
              simp only [Bool.and_eq_true, decide_eq_true_eq] at he
              exact ⟨he.1, by omega⟩
            rw [if_pos he] at hst
            rw [hfk, hst] at hks
            simp only at hks
            rw [List.drop_drop, show j + (k - j) = k from by omega, show j + (k - j + 1) = k + 1 from by omega] at hks
            simp only [ZZ, YY, Ze, ite_true, ite_false, forall_const, reduceCtorEq, Nat.reduceAdd, Nat.reduceMul, Nat.reduceLeDiff, Nat.reduceLT, Nat.reduceEqDiff, hP, prE_len, look_putO, look_killO]
            ((repeat' (with_reducible apply And.intro)) <;> try ((first | first | assumption | trivial | exact (fun hq => by rw [hq]; rfl) | exact i64_of (by omega) (by omega) | omega | (simp; done) | (simp; omega) | (intro hsc; have hs0 := hsc; (try have hsd := of_decide_eq_true hsc); (try simp only [Bool.not_eq_true', Bool.or_eq_false_iff, Bool.and_eq_true, Bool.or_eq_true, decide_eq_true_eq, decide_eq_false_iff_not] at hsc); (repeat' (with_reducible apply And.intro)) <;> (first | assumption | trivial | exact (fun hq => by rw [hq]; rfl) | exact i64_of (by omega) (by omega) | omega | (simp; done) | (simp; omega) | (intro hse; simp [hse, hs0]; done) | (intro hse; simp only [hse, hs0, Bool.true_and, Bool.and_true, Bool.not_false, Bool.not_true, Bool.and_self]; done))))))
            refine cut_re _ _ ReOk.refl ?_
            simp only [ZZ, YY, Ze, ite_true, ite_false, forall_const, reduceCtorEq, Nat.reduceAdd, Nat.reduceMul, Nat.reduceLeDiff, Nat.reduceLT, Nat.reduceEqDiff]
            ((repeat' (with_reducible apply And.intro)) <;> try ((first | first | assumption | trivial | exact (fun hq => by rw [hq]; rfl) | exact i64_of (by omega) (by omega) | omega | (simp; done) | (simp; omega) | (intro hsc; have hs0 := hsc; (try have hsd := of_decide_eq_true hsc); (try simp only [Bool.not_eq_true', Bool.or_eq_false_iff, Bool.and_eq_true, Bool.or_eq_true, decide_eq_true_eq, decide_eq_false_iff_not] at hsc); (repeat' (with_reducible apply And.intro)) <;> (first | assumption | trivial | exact (fun hq => by rw [hq]; rfl) | exact i64_of (by omega) (by omega) | omega | (simp; done) | (simp; omega) | (intro hse; simp [hse, hs0]; done) | (intro hse; simp only [hse, hs0, Bool.true_and, Bool.and_true, Bool.not_false, Bool.not_true, Bool.and_self]; done))))))
            refine end_re (x.length - (i + 1)) [.p (.sl 1 (strE x)), .p (.sl 1 (strE y)), .any, .any, .any, .row (.l 16), .any, .any, .any, .row (.l 9), .p (int (k + 1 : Nat)), .any, .any, .any, .any, .any, .row (.l 16), .any, .any, .any, .any, .any, .any, .any, .any, .any, .any, .any, .any, .any, .any, .any, .any, .any, .any, .any, .any, .any, .any, .any, .any, .any, .any, .any, .any, .any, .any, .any, .any, .any, .any, .any, .any, .any, .any, .any, .any, .any, .any, .any, .any, .any, .any, .any, .any, .any, .any, .any, .any, .any, .any, .any, .any, .any, .any, .any, .any, .any, .any, .any, .any, .any, .any, .any, .any, .any, .any, .any, .any, .any, .any, .any, .any, .any, .any, .any, .any, .any, .any, .any, .any, .p (int (x.length : Nat)), .p (int (i + 1 : Nat)), .any, .any, .any, .any, .any, .any, .any, .any, .any, .any, .any, .any, .any, .any, .any, .any, .any, .any, .any, .any, .any, .any, .any, .any, .any, .any, .any, .any, .any, .any, .any, .any, .any, .any, .any, .any, .any, .any, .any, .any, .any, .any, .any, .any, .any, .any, .any, .any] _ (by omega) (re_le (by simp only [ZZ, YY, Ze, ite_true, ite_false, forall_const, reduceCtorEq, Nat.reduceAdd, Nat.reduceMul, Nat.reduceLeDiff, Nat.reduceLT, Nat.reduceEqDiff, strE_len]; try trivial)) ⟨i + 1, k + 1, acc ++ [(i, k)], by omega, rfl, by omega, by simp; omega, by rw [hk, hks, List.append_assoc]; rfl, rfl, ?_, ?_, fun q hq => ?_⟩
            · rw [look_putO, if_pos rfl, prE_app]; rfl
            · rw [look_putO, if_neg (by simp), look_killO, hL]
              simp only [Option.map_some, AO.kill]
              rw [cellsF_kill (by omega)]
            · rw [look_putO, if_neg (by simp; omega), look_killO, hR q hq]
              rfl
          · intro he
            have he : ¬ (s = t ∧ lc (x.drop (i + 1)) (y.drop (k + 1)) + 1 = M) := by
              rintro ⟨h1, h2⟩
              simp only [h1, decide_true, Bool.true_and, decide_eq_false_iff_not] at he
              omega
            rw [if_neg he] at hst
            simp only [ZZ, YY, Ze, ite_true, ite_false, forall_const, reduceCtorEq, Nat.reduceAdd, Nat.reduceMul, Nat.reduceLeDiff, Nat.reduceLT, Nat.reduceEqDiff]
            ((repeat' (with_reducible apply And.intro)) <;> try ((first | first | assumption | trivial | exact (fun hq => by rw [hq]; rfl) | exact i64_of (by omega) (by omega) | omega | (simp; done) | (simp; omega) | (intro hsc; have hs0 := hsc; (try have hsd := of_decide_eq_true hsc); (try simp only [Bool.not_eq_true', Bool.or_eq_false_iff, Bool.and_eq_true, Bool.or_eq_true, decide_eq_true_eq, decide_eq_false_iff_not] at hsc); (repeat' (with_reducible apply And.intro)) <;> (first | assumption | trivial | exact (fun hq => by rw [hq]; rfl) | exact i64_of (by omega) (by omega) | omega | (simp; done) | (simp; omega) | (intro hse; simp [hse, hs0]; done) | (intro hse; simp only [hse, hs0, Bool.true_and, Bool.and_true, Bool.not_false, Bool.not_true, Bool.and_self]; done))))))
            refine end_re (y.length - (k + 1)) [.p (.sl 1 (strE x)), .p (.sl 1 (strE y)), .any, .any, .any, .row (.l 16), .any, .any, .any, .row (.l 9), .p (int (j : Nat)), .p (int (i : Nat)), .p (int (k + 1 : Nat)), .any, .any, .any, .row (.l 16), .any, .any, .any, .any, .any, .any, .any, .any, .any, .any, .any, .any, .any, .any, .any, .any, .any, .any, .any, .any, .any, .any, .any, .any, .any, .any, .any, .any, .any, .any, .any, .any, .any, .any, .any, .any, .any, .any, .any, .any, .any, .any, .any, .any, .any, .any, .any, .any, .any, .any, .any, .any, .any, .any, .any, .any, .any, .any, .any, .any, .any, .any, .any, .any, .any, .any, .any, .any, .any, .any, .any, .any, .any, .any, .any, .any, .any, .any, .any, .any, .any, .any, .any, .any, .p (int (x.length : Nat)), .p (int (i : Nat)), .any, .any, .any, .any, .any, .any, .any, .any, .any, .any, .any, .any, .any, .any, .any, .any, .any, .any, .any, .any, .any, .any, .any, .any, .any, .any, .any, .any, .any, .any, .any, .any, .any, .any, .any, .any, .any, .any, .any, .any, .any, .any, .any, .any, .any, .any, .any, .any] _ (by omega) (re_le (by simp only [ZZ, YY, Ze, ite_true, ite_false, forall_const, reduceCtorEq, Nat.reduceAdd, Nat.reduceMul, Nat.reduceLeDiff, Nat.reduceLT, Nat.reduceEqDiff, strE_len]; try trivial)) ⟨k + 1, by omega, by omega, rfl, by rw [hfk, hst], rfl, hP, hL, hR⟩
        · intro h
          have hge : k = y.length := by have := of_decide_eq_false h; omega
          subst hge
          simp only [ZZ, YY, Ze, ite_true, ite_false, forall_const, reduceCtorEq, Nat.reduceAdd, Nat.reduceMul, Nat.reduceLeDiff, Nat.reduceLT, Nat.reduceEqDiff]
          refine cut_re _ _ ReOk.refl ?_
          simp only [ZZ, YY, Ze, ite_true, ite_false, forall_const, reduceCtorEq, Nat.reduceAdd, Nat.reduceMul, Nat.reduceLeDiff, Nat.reduceLT, Nat.reduceEqDiff]
          ((repeat' (with_reducible apply And.intro)) <;> try ((first | first | assumption | trivial | exact (fun hq => by rw [hq]; rfl) | exact i64_of (by omega) (by omega) | omega | (simp; done) | (simp; omega) | (intro hsc; have hs0 := hsc; (try have hsd := of_decide_eq_true hsc); (try simp only [Bool.not_eq_true', Bool.or_eq_false_iff, Bool.and_eq_true, Bool.or_eq_true, decide_eq_true_eq, decide_eq_false_iff_not] at hsc); (repeat' (with_reducible apply And.intro)) <;> (first | assumption | trivial | exact (fun hq => by rw [hq]; rfl) | exact i64_of (by omega) (by omega) | omega | (simp; done) | (simp; omega) | (intro hse; simp [hse, hs0]; done) | (intro hse; simp only [hse, hs0, Bool.true_and, Bool.and_true, Bool.not_false, Bool.not_true, Bool.and_self]; done))))))
          rw [hfk, List.drop_length, fk] at hks
          refine end_re (x.length - (i + 1)) [.p (.sl 1 (strE x)), .p (.sl 1 (strE y)), .any, .any, .any, .row (.l 16), .any, .any, .any, .row (.l 9), .p (int (j : Nat)), .any, .any, .any, .any, .any, .row (.l 16), .any, .any, .any, .any, .any, .any, .any, .any, .any, .any, .any, .any, .any, .any, .any, .any, .any, .any, .any, .any, .any, .any, .any, .any, .any, .any, .any, .any, .any, .any, .any, .any, .any, .any, .any, .any, .any, .any, .any, .any, .any, .any, .any, .any, .any, .any, .any, .any, .any, .any, .any, .any, .any, .any, .any, .any, .any, .any, .any, .any, .any, .any, .any, .any, .any, .any, .any, .any, .any, .any, .any, .any, .any, .any, .any, .any, .any, .any, .any, .any, .any, .any, .any, .any, .p (int (x.length : Nat)), .p (int (i + 1 : Nat)), .any, .any, .any, .any, .any, .any, .any, .any, .any, .any, .any, .any, .any, .any, .any, .any, .any, .any, .any, .any, .any, .any, .any, .any, .any, .any, .any, .any, .any, .any, .any, .any, .any, .any, .any, .any, .any, .any, .any, .any, .any, .any, .any, .any, .any, .any, .any, .any] _ (by omega) (re_le (by simp only [ZZ, YY, Ze, ite_true, ite_false, forall_const, reduceCtorEq, Nat.reduceAdd, Nat.reduceMul, Nat.reduceLeDiff, Nat.reduceLT, Nat.reduceEqDiff, strE_len]; try trivial)) ⟨i + 1, j, acc, by omega, rfl, hj, by omega, by rw [hk, hks], rfl, hP, hL, hR⟩
      · intro h
        have hge : i = x.length := by have := of_decide_eq_false h; omega
        subst hge
        simp only [ZZ, YY, Ze, ite_true, ite_false, forall_const, reduceCtorEq, Nat.reduceAdd, Nat.reduceMul, Nat.reduceLeDiff, Nat.reduceLT, Nat.reduceEqDiff]
        refine fin_F 9 _ rfl hP ?_
        rw [hk, List.drop_length, kr, List.append_nil]
    · have hil : i < x.length := by omega
      have hi7 : ((i + 1 : Nat) : Int) - 1 = (i : Nat) := by omega
      have hd : decide ((0 : Int) ≤ ((i : Nat) : Int)) = true := decide_eq_true (by omega)
      simp only [ZZ, YY, Ze, ite_true, ite_false, forall_const, reduceCtorEq, Nat.reduceAdd, Nat.reduceMul, Nat.reduceLeDiff, Nat.reduceLT, Nat.reduceEqDiff, hi7, hd, strE_len]
      ((repeat' (with_reducible apply And.intro)) <;> try ((first | first | assumption | trivial | exact (fun hq => by rw [hq]; rfl) | exact i64_of (by omega) (by omega) | omega | (simp; done) | (simp; omega) | (intro hsc; have hs0 := hsc; (try have hsd := of_decide_eq_true hsc); (try simp only [Bool.not_eq_true', Bool.or_eq_false_iff, Bool.and_eq_true, Bool.or_eq_true, decide_eq_true_eq, decide_eq_false_iff_not] at hsc); (repeat' (with_reducible apply And.intro)) <;> (first | assumption | trivial | exact (fun hq => by rw [hq]; rfl) | exact i64_of (by omega) (by omega) | omega | (simp; done) | (simp; omega) | (intro hse; simp [hse, hs0]; done) | (intro hse; simp only [hse, hs0, Bool.true_and, Bool.and_true, Bool.not_false, Bool.not_true, Bool.and_self]; done))))))
      refine loop_re (fun m fr L => m ≤ y.length ∧ fr = [.p (.sl 1 (strE x)), .p (.sl 1 (strE y)), .any, .any, .any, .row (.l 16), .any, .p (int (i : Nat)), .p (int ((m : Nat) - 1)), .any, .any, .any, .any, .any, .any, .any, .row (.l 16), .any, .any, .any, .any, .any, .any, .any, .any, .any, .any, .any, .any, .any, .any, .any, .any, .any, .any, .any, .any, .any, .any, .any, .any, .any, .any, .any, .any, .any, .any, .any, .any, .any, .any, .any, .any, .any, .any, .any, .any, .any, .any, .any, .any, .any, .any, .any, .any, .any, .any, .any, .any, .any, .any, .any, .any, .any, .any, .any, .any, .any, .any, .any, .any, .any, .any, .any, .any, .any, .any, .any, .any, .any, .any, .any, .any, .any, .any, .any, .any, .any, .any, .any, .any, .any, .any, .any, .any, .any, .any, .any, .any, .any, .any, .any, .any, .any, .any, .any, .any, .any, .any, .any, .any, .any, .any, .any, .any, .any, .any, .any, .any, .any, .any, .any, .any, .any, .any, .any, .any, .any, .any, .any, .any, .any, .any, .any, .any, .any, .any, .any, .any, .any, .any] ∧ RestI L (x.length + 1) (x.length + 1) (y.length + 1) (rfF x y i m)) y.length [.p (.sl 1 (strE x)), .p (.sl 1 (strE y)), .any, .any, .any, .row (.l 16), .any, .p (int (i : Nat)), .p (int ((y.length : Nat) - 1)), .any, .any, .any, .any, .any, .any, .any, .row (.l 16), .any, .any, .any, .any, .any, .any, .any, .any, .any, .any, .any, .any, .any, .any, .any, .any, .any, .any, .any, .any, .any, .any, .any, .any, .any, .any, .any, .any, .any, .any, .any, .any, .any, .any, .any, .any, .any, .any, .any, .any, .any, .any, .any, .any, .any, .any, .any, .any, .any, .any, .any, .any, .any, .any, .any, .any, .any, .any, .any, .any, .any, .any, .any, .any, .any, .any, .any, .any, .any, .any, .any, .any, .any, .any, .any, .any, .any, .any, .any, .any, .any, .any, .any, .any, .any, .any, .any, .any, .any, .any, .any, .any, .any, .any, .any, .any, .any, .any, .any, .any, .any, .any, .any, .any, .any, .any, .any, .any, .any, .any, .any, .any, .any, .any, .any, .any, .any, .any, .any, .any, .any, .any, .any, .any, .any, .any, .any, .any, .any, .any, .any, .any, .any, .any] _ (re_le (by simp only [ZZ, YY, Ze, ite_true, ite_false, forall_const, reduceCtorEq, Nat.reduceAdd, Nat.reduceMul, Nat.reduceLeDiff, Nat.reduceLT, Nat.reduceEqDiff, strE_len]; try trivial)) ⟨Nat.le_refl _, rfl, hL, fun q hq => by rw [hR q hq, rfF_row]⟩ ?_
      clear hL hR L
      rintro m fr L ⟨hm2, rfl, hL, hR⟩
      simp only [ir_chaseref1_keptOf_L2, ZZ, YY, Ze, ite_true, ite_false, forall_const, reduceCtorEq, Nat.reduceAdd, Nat.reduceMul, Nat.reduceLeDiff, Nat.reduceLT, Nat.reduceEqDiff]
      rcases m with _ | j
      · have hd2 : decide ((0 : Int) ≤ ((0 : Nat) : Int) - 1) = false := by decide
        simp only [ZZ, YY, Ze, ite_true, ite_false, forall_const, reduceCtorEq, Nat.reduceAdd, Nat.reduceMul, Nat.reduceLeDiff, Nat.reduceLT, Nat.reduceEqDiff, hd2]
        ((repeat' (with_reducible apply And.intro)) <;> try ((first | first | assumption | trivial | exact (fun hq => by rw [hq]; rfl) | exact i64_of (by omega) (by omega) | omega | (simp; done) | (simp; omega) | (intro hsc; have hs0 := hsc; (try have hsd := of_decide_eq_true hsc); (try simp only [Bool.not_eq_true', Bool.or_eq_false_iff, Bool.and_eq_true, Bool.or_eq_true, decide_eq_true_eq, decide_eq_false_iff_not] at hsc); (repeat' (with_reducible apply And.intro)) <;> (first | assumption | trivial | exact (fun hq => by rw [hq]; rfl) | exact i64_of (by omega) (by omega) | omega | (simp; done) | (simp; omega) | (intro hse; simp [hse, hs0]; done) | (intro hse; simp only [hse, hs0, Bool.true_and, Bool.and_true, Bool.not_false, Bool.not_true, Bool.and_self]; done))))))
        refine end_re i [.p (.sl 1 (strE x)), .p (.sl 1 (strE y)), .any, .any, .any, .row (.l 16), .any, .p (int ((i : Nat) - 1)), .any, .any, .any, .any, .any, .any, .any, .any, .row (.l 16), .any, .any, .any, .any, .any, .any, .any, .any, .any, .any, .any, .any, .any, .any, .any, .any, .any, .any, .any, .any, .any, .any, .any, .any, .any, .any, .any, .any, .any, .any, .any, .any, .any, .any, .any, .any, .any, .any, .any, .any, .any, .any, .any, .any, .any, .any, .any, .any, .any, .any, .any, .any, .any, .any, .any, .any, .any, .any, .any, .any, .any, .any, .any, .any, .any, .any, .any, .any, .any, .any, .any, .any, .any, .any, .any, .any, .any, .any, .any, .any, .any, .any, .any, .any, .any, .any, .any, .any, .any, .any, .any, .any, .any, .any, .any, .any, .any, .any, .any, .any, .any, .any, .any, .any, .any, .any, .any, .any, .any, .any, .any, .any, .any, .any, .any, .any, .any, .any, .any, .any, .any, .any, .any, .any, .any, .any, .any, .any, .any, .any, .any, .any, .any, .any] _ (by omega) (re_le (by simp only [ZZ, YY, Ze, ite_true, ite_false, forall_const, reduceCtorEq, Nat.reduceAdd, Nat.reduceMul, Nat.reduceLeDiff, Nat.reduceLT, Nat.reduceEqDiff, strE_len]; try trivial)) ⟨by omega, rfl, hL, hR⟩
      · have hjl : j < y.length := by omega
        have hj7 : ((j + 1 : Nat) : Int) - 1 = (j : Nat) := by omega
        have hd2 : decide ((0 : Int) ≤ ((j : Nat) : Int)) = true := decide_eq_true (by omega)
        obtain ⟨s, hs⟩ : ∃ s, x[i]? = some s := ⟨_, List.getElem?_eq_getElem hil⟩
        obtain ⟨t, ht⟩ : ∃ t, y[j]? = some t := ⟨_, List.getElem?_eq_getElem hjl⟩
        have hgs : (strE x).getD i [] = [.str s] := strE_get hs
        have hgt : (strE y).getD j [] = [.str t] := strE_get ht
        have hlc := lc_max s t (x.drop (i + 1)) (y.drop (j + 1))
        rw [← drop_at hs, ← drop_at ht] at hlc
        have hc0 := cellsF_get (i := x.length + 1) (show i < x.length + 1 by omega)
        have hc1 := cellsF_get (i := x.length + 1) (show i + 1 < x.length + 1 by omega)
        rw [if_pos (by omega)] at hc0 hc1
        have hl0 := hR i (by omega)
        have hl1 := hR (i + 1) (by omega)
        obtain ⟨k0, hk0⟩ : ∃ k, k = 1000 + i := ⟨_, rfl⟩
        obtain ⟨k1, hk1⟩ : ∃ k, k = 1000 + (i + 1) := ⟨_, rfl⟩
        rw [← hk0] at hc0 hl0
        rw [← hk1] at hc1 hl1
        have n0 : (16 = k0) = False := by simp; omega
        have n1 : (k1 = k0) = False := by simp; omega
        have t1 : (((i : Nat) : Int) + 1).toNat = i + 1 := by omega
        have t2 : (((j : Nat) : Int) + 1).toNat = j + 1 := by omega
        have g1 : (tbR (y.length + 1) (rfF x y i (j + 1) (i + 1))).getD j [] = [int (lc (x.drop (i + 1)) (y.drop j) : Nat)] := by rw [tbR_get (by omega), rfF, if_pos (by omega)]
        have g2 : (tbR (y.length + 1) (rfF x y i (j + 1) i)).getD (j + 1) [] = [int (lc (x.drop i) (y.drop (j + 1)) : Nat)] := by rw [tbR_get (by omega), rfF, if_pos (by omega)]
        have g0 : (tbR (y.length + 1) (rfF x y i (j + 1) i)).getD j [] = [int ((0 : Nat) : Nat)] := by rw [tbR_get (by omega), rfF, if_neg (by omega)]
        have g3 : (tbR (y.length + 1) (rfF x y i (j + 1) (i + 1))).getD (j + 1) [] = [int (lc (x.drop (i + 1)) (y.drop (j + 1)) : Nat)] := by rw [tbR_get (by omega), rfF, if_pos (by omega)]
        have k1b : lc (x.drop (i + 1)) (y.drop j) ≤ 3000 := Nat.le_trans (lc_le_len _ _) (by simp; omega)
        have k2b : lc (x.drop i) (y.drop (j + 1)) ≤ 3000 := Nat.le_trans (lc_le_len _ _) (by simp; omega)
        have k3b : lc (x.drop (i + 1)) (y.drop (j + 1)) ≤ 3000 := Nat.le_trans (lc_le_len _ _) (by simp; omega)
        obtain ⟨v, hv⟩ : ∃ v, v = max (lc (x.drop (i + 1)) (y.drop j)) (lc (x.drop i) (y.drop (j + 1))) := ⟨_, rfl⟩
        have hval : max ((lc (x.drop (i + 1)) (y.drop j) : Nat) : Int) ((lc (x.drop i) (y.drop (j + 1)) : Nat) : Int) = (v : Nat) := by omega
        have hset := tbR_set (n := y.length + 1) (q := j) (f := rfF x y i (j + 1) i) (v := v)
        have gv : (tbR (y.length + 1) fun r => if r = j then v else rfF x y i (j + 1) i r).getD j [] = [int (v : Nat)] := by rw [tbR_get (by omega), if_pos rfl]
        simp only [ZZ, YY, Ze, ite_true, ite_false, forall_const, reduceCtorEq, Nat.reduceAdd, Nat.reduceMul, Nat.reduceLeDiff, Nat.reduceLT, Nat.reduceEqDiff, hj7, hd2]
        ((repeat' (with_reducible apply And.intro)) <;> try ((first | first | assumption | trivial | exact (fun hq => by rw [hq]; rfl) | exact i64_of (by omega) (by omega) | omega | (simp; done) | (simp; omega) | (intro hsc; have hs0 := hsc; (try have hsd := of_decide_eq_true hsc); (try simp only [Bool.not_eq_true', Bool.or_eq_false_iff, Bool.and_eq_true, Bool.or_eq_true, decide_eq_true_eq, decide_eq_false_iff_not] at hsc); (repeat' (with_reducible apply And.intro)) <;> (first | assumption | trivial | exact (fun hq => by rw [hq]; rfl) | exact i64_of (by omega) (by omega) | omega | (simp; done) | (simp; omega) | (intro hse; simp [hse, hs0]; done) | (intro hse; simp only [hse, hs0, Bool.true_and, Bool.and_true, Bool.not_false, Bool.not_true, Bool.and_self]; done))))))
        refine drg0 ?_
        simp only [ZZ, YY, Ze, ite_true, ite_false, forall_const, reduceCtorEq, Nat.reduceAdd, Nat.reduceMul, Nat.reduceLeDiff, Nat.reduceLT, Nat.reduceEqDiff, hL, hl0, hl1, hc0, hc1, t1, t2, g0, g1, g2, cellsF_len, tbR_len, hval, hset]
        ((repeat' (with_reducible apply And.intro)) <;> try ((first | first | assumption | trivial | exact (fun hq => by rw [hq]; rfl) | exact i64_of (by omega) (by omega) | omega | (simp; done) | (simp; omega) | (intro hsc; have hs0 := hsc; (try have hsd := of_decide_eq_true hsc); (try simp only [Bool.not_eq_true', Bool.or_eq_false_iff, Bool.and_eq_true, Bool.or_eq_true, decide_eq_true_eq, decide_eq_false_iff_not] at hsc); (repeat' (with_reducible apply And.intro)) <;> (first | assumption | trivial | exact (fun hq => by rw [hq]; rfl) | exact i64_of (by omega) (by omega) | omega | (simp; done) | (simp; omega) | (intro hse; simp [hse, hs0]; done) | (intro hse; simp only [hse, hs0, Bool.true_and, Bool.and_true, Bool.not_false, Bool.not_true, Bool.and_self]; done))))))
        refine drg0 ?_
        simp only [ZZ, YY, Ze, ite_true, ite_false, forall_const, reduceCtorEq, Nat.reduceAdd, Nat.reduceMul, Nat.reduceLeDiff, Nat.reduceLT, Nat.reduceEqDiff, hgs, hgt, strE_len]
        ((repeat' (with_reducible apply And.intro)) <;> try ((first | first | assumption | trivial | exact (fun hq => by rw [hq]; rfl) | exact i64_of (by omega) (by omega) | omega | (simp; done) | (simp; omega) | (intro hsc; have hs0 := hsc; (try have hsd := of_decide_eq_true hsc); (try simp only [Bool.not_eq_true', Bool.or_eq_false_iff, Bool.and_eq_true, Bool.or_eq_true, decide_eq_true_eq, decide_eq_false_iff_not] at hsc); (repeat' (with_reducible apply And.intro)) <;> (first | assumption | trivial | exact (fun hq => by rw [hq]; rfl) | exact i64_of (by omega) (by omega) | omega | (simp; done) | (simp; omega) | (intro hse; simp [hse, hs0]; done) | (intro hse; simp only [hse, hs0, Bool.true_and, Bool.and_true, Bool.not_false, Bool.not_true, Bool.and_self]; done))))))
        refine br ?_ ?_
        · intro he
          have he : s = t := of_decide_eq_true he
          rw [if_pos he] at hlc
          obtain ⟨u, hu⟩ : ∃ u, u = lc (x.drop i) (y.drop j) := ⟨_, rfl⟩
          have hval2 : max ((v : Nat) : Int) (((lc (x.drop (i + 1)) (y.drop (j + 1)) : Nat) : Int) + 1) = (u : Nat) := by omega
          have hset2 := tbR_set (n := y.length + 1) (q := j) (f := fun r => if r = j then v else rfF x y i (j + 1) i r) (v := u)
          simp only [ZZ, YY, Ze, ite_true, ite_false, forall_const, reduceCtorEq, Nat.reduceAdd, Nat.reduceMul, Nat.reduceLeDiff, Nat.reduceLT, Nat.reduceEqDiff]
          refine drg0 ?_
          simp only [ZZ, YY, Ze, ite_true, ite_false, forall_const, reduceCtorEq, Nat.reduceAdd, Nat.reduceMul, Nat.reduceLeDiff, Nat.reduceLT, Nat.reduceEqDiff, look_putO, n0, n1, hL, hl1, hc0, hc1, t1, t2, gv, g3, cellsF_len, tbR_len, hval2, hset2]
          ((repeat' (with_reducible apply And.intro)) <;> try ((first | first | assumption | trivial | exact (fun hq => by rw [hq]; rfl) | exact i64_of (by omega) (by omega) | omega | (simp; done) | (simp; omega) | (intro hsc; have hs0 := hsc; (try have hsd := of_decide_eq_true hsc); (try simp only [Bool.not_eq_true', Bool.or_eq_false_iff, Bool.and_eq_true, Bool.or_eq_true, decide_eq_true_eq, decide_eq_false_iff_not] at hsc); (repeat' (with_reducible apply And.intro)) <;> (first | assumption | trivial | exact (fun hq => by rw [hq]; rfl) | exact i64_of (by omega) (by omega) | omega | (simp; done) | (simp; omega) | (intro hse; simp [hse, hs0]; done) | (intro hse; simp only [hse, hs0, Bool.true_and, Bool.and_true, Bool.not_false, Bool.not_true, Bool.and_self]; done))))))
          refine cut_re _ _ ReOk.refl ?_
          simp only [ZZ, YY, Ze, ite_true, ite_false, forall_const, reduceCtorEq, Nat.reduceAdd, Nat.reduceMul, Nat.reduceLeDiff, Nat.reduceLT, Nat.reduceEqDiff]
          ((repeat' (with_reducible apply And.intro)) <;> try ((first | first | assumption | trivial | exact (fun hq => by rw [hq]; rfl) | exact i64_of (by omega) (by omega) | omega | (simp; done) | (simp; omega) | (intro hsc; have hs0 := hsc; (try have hsd := of_decide_eq_true hsc); (try simp only [Bool.not_eq_true', Bool.or_eq_false_iff, Bool.and_eq_true, Bool.or_eq_true, decide_eq_true_eq, decide_eq_false_iff_not] at hsc); (repeat' (with_reducible apply And.intro)) <;> (first | assumption | trivial | exact (fun hq => by rw [hq]; rfl) | exact i64_of (by omega) (by omega) | omega | (simp; done) | (simp; omega) | (intro hse; simp [hse, hs0]; done) | (intro hse; simp only [hse, hs0, Bool.true_and, Bool.and_true, Bool.not_false, Bool.not_true, Bool.and_self]; done))))))
          refine end_re j [.p (.sl 1 (strE x)), .p (.sl 1 (strE y)), .any, .any, .any, .row (.l 16), .any, .p (int (i : Nat)), .p (int ((j : Nat) - 1)), .any, .any, .any, .any, .any, .any, .any, .row (.l 16), .any, .any, .any, .any, .any, .any, .any, .any, .any, .any, .any, .any, .any, .any, .any, .any, .any, .any, .any, .any, .any, .any, .any, .any, .any, .any, .any, .any, .any, .any, .any, .any, .any, .any, .any, .any, .any, .any, .any, .any, .any, .any, .any, .any, .any, .any, .any, .any, .any, .any, .any, .any, .any, .any, .any, .any, .any, .any, .any, .any, .any, .any, .any, .any, .any, .any, .any, .any, .any, .any, .any, .any, .any, .any, .any, .any, .any, .any, .any, .any, .any, .any, .any, .any, .any, .any, .any, .any, .any, .any, .any, .any, .any, .any, .any, .any, .any, .any, .any, .any, .any, .any, .any, .any, .any, .any, .any, .any, .any, .any, .any, .any, .any, .any, .any, .any, .any, .any, .any, .any, .any, .any, .any, .any, .any, .any, .any, .any, .any, .any, .any, .any, .any, .any] _ (by omega) (re_le (by simp only [ZZ, YY, Ze, ite_true, ite_false, forall_const, reduceCtorEq, Nat.reduceAdd, Nat.reduceMul, Nat.reduceLeDiff, Nat.reduceLT, Nat.reduceEqDiff, hj7]; try trivial)) ⟨by omega, rfl, ?_, fun q hq => ?_⟩
          · rw [look_putO, if_neg (by simp; omega), look_putO, if_neg (by simp; omega), hL]
          · rw [look_putO]
            by_cases e : q = i
            · subst e
              rw [if_pos (by rw [hk0]), ← rfF_this hu]
              congr 2
              refine tbR_ext fun b _ => ?_
              by_cases hb : b = j
              · rw [if_pos hb, if_pos hb]
              · rw [if_neg hb, if_neg hb, if_neg hb]
            · rw [if_neg (by simp; omega), look_putO, if_neg (by simp; omega), hR q hq, rfF_other e]
        · intro he
          have he : ¬ s = t := of_decide_eq_false he
          rw [if_neg he, ← hv] at hlc
          simp only [ZZ, YY, Ze, ite_true, ite_false, forall_const, reduceCtorEq, Nat.reduceAdd, Nat.reduceMul, Nat.reduceLeDiff, Nat.reduceLT, Nat.reduceEqDiff]
          refine cut_re _ _ ReOk.refl ?_
          simp only [ZZ, YY, Ze, ite_true, ite_false, forall_const, reduceCtorEq, Nat.reduceAdd, Nat.reduceMul, Nat.reduceLeDiff, Nat.reduceLT, Nat.reduceEqDiff]
          ((repeat' (with_reducible apply And.intro)) <;> try ((first | first | assumption | trivial | exact (fun hq => by rw [hq]; rfl) | exact i64_of (by omega) (by omega) | omega | (simp; done) | (simp; omega) | (intro hsc; have hs0 := hsc; (try have hsd := of_decide_eq_true hsc); (try simp only [Bool.not_eq_true', Bool.or_eq_false_iff, Bool.and_eq_true, Bool.or_eq_true, decide_eq_true_eq, decide_eq_false_iff_not] at hsc); (repeat' (with_reducible apply And.intro)) <;> (first | assumption | trivial | exact (fun hq => by rw [hq]; rfl) | exact i64_of (by omega) (by omega) | omega | (simp; done) | (simp; omega) | (intro hse; simp [hse, hs0]; done) | (intro hse; simp only [hse, hs0, Bool.true_and, Bool.and_true, Bool.not_false, Bool.not_true, Bool.and_self]; done))))))
          refine end_re j [.p (.sl 1 (strE x)), .p (.sl 1 (strE y)), .any, .any, .any, .row (.l 16), .any, .p (int (i : Nat)), .p (int ((j : Nat) - 1)), .any, .any, .any, .any, .any, .any, .any, .row (.l 16), .any, .any, .any, .any, .any, .any, .any, .any, .any, .any, .any, .any, .any, .any, .any, .any, .any, .any, .any, .any, .any, .any, .any, .any, .any, .any, .any, .any, .any, .any, .any, .any, .any, .any, .any, .any, .any, .any, .any, .any, .any, .any, .any, .any, .any, .any, .any, .any, .any, .any, .any, .any, .any, .any, .any, .any, .any, .any, .any, .any, .any, .any, .any, .any, .any, .any, .any, .any, .any, .any, .any, .any, .any, .any, .any, .any, .any, .any, .any, .any, .any, .any, .any, .any, .any, .any, .any, .any, .any, .any, .any, .any, .any, .any, .any, .any, .any, .any, .any, .any, .any, .any, .any, .any, .any, .any, .any, .any, .any, .any, .any, .any, .any, .any, .any, .any, .any, .any, .any, .any, .any, .any, .any, .any, .any, .any, .any, .any, .any, .any, .any, .any, .any, .any] _ (by omega) (re_le (by simp only [ZZ, YY, Ze, ite_true, ite_false, forall_const, reduceCtorEq, Nat.reduceAdd, Nat.reduceMul, Nat.reduceLeDiff, Nat.reduceLT, Nat.reduceEqDiff, hj7]; try trivial)) ⟨by omega, rfl, ?_, fun q hq => ?_⟩
          · rw [look_putO, if_neg (by simp; omega), hL]
          · rw [look_putO]
            by_cases e : q = i
            · subst e
              rw [if_pos (by rw [hk0]), rfF_this hlc.symm]
            · rw [if_neg (by simp; omega), hR q hq, rfF_other e]
end Go.Proofs.YthfpehmbellmcaaGreatDoor

/- strings.Builder at this cut, with the exact blocks that change: turned from the library's own walks (Derived/Shelf/Strings: Builder1, Builder2) to this program. -/
namespace Go.Proofs.YthfpehmbellmcaaGreatDoor
open Go.RowKit
set_option linter.unusedVariables false
set_option linter.unusedSimpArgs false
set_option linter.defProp false

theorem b_info : (Tryz.prog.info? 5).map (fun i => (i.zero, i.size, i.bytes)) = some (some (.int .u8 0), 1, 1) := by kernel_rfl
theorem b_sizeB : (Tryz.prog.info? 109).map (·.size) = some 2 := by kernel_rfl
theorem b_liesB : liesAt Tryz.prog Tryz.prog.depth 109 (2 / Tryz.prog.cellsOf 109) 0 109 1 = true := by kernel_rfl
theorem b_usNone (W : World) (q : Option Addr) : (Builtin.unsafeString_ #[156, 3] 9 #[.pointer q, .int .i64 0]).run Tryz.prog W = .ok (.string .empty) W := Lib.run_unsafeString_none W _ _ _ q
theorem b_mixed : Tryz.prog.follows .mixedOrders = true := by kernel_rfl
theorem b_cells : Tryz.prog.cellsOf 5 = 1 := by kernel_rfl
theorem b_size : (Tryz.prog.info? 5).map (·.size) = some 1 := by kernel_rfl
abbrev tSb : TypeId := 109
abbrev tU8 : TypeId := 5

set_option maxHeartbeats 1000000 in
set_option maxRecDepth 100000 in
theorem b_ccUsed (b : Nat) (w : World) (h0 : w.cell? ⟨b, 0, none⟩ = some (.pointer (some ⟨b, 0, none⟩))) :
    Calls Tryz.prog 128 #[.pointer (some ⟨b, 0, none⟩)] w fun e w' => e = .returned (.tuple #[]) ∧ w' = w := by
  obtain ⟨j, hj, _⟩ := Option.map_eq_some_iff.1 b_sizeB
  go_enter Tryz.func128, Tryz.ntmps128
  go_wp2
  rw [Lib.run_neq_ptr_same w _ Tryz.underlying106 hj]
  go_wp2
  go_end0
  exact ⟨rfl, rfl⟩

set_option maxHeartbeats 1000000 in
set_option maxRecDepth 100000 in
theorem b_ccFresh (b : Nat) (w : World) (h0 : w.cell? ⟨b, 0, none⟩ = some (.pointer none)) (hsh : w.shape? b = some (109, 2)) (hfz : w.frozen? ⟨b, 0, none⟩ = false) :
    Calls Tryz.prog 128 #[.pointer (some ⟨b, 0, none⟩)] w fun e w' => e = .returned (.tuple #[]) ∧ w' = w.setCell ⟨b, 0, none⟩ (.pointer (some ⟨b, 0, none⟩)) := by
  obtain ⟨j, hj, hjs⟩ := Option.map_eq_some_iff.1 b_sizeB
  go_enter Tryz.func128, Tryz.ntmps128
  go_wp2
  rw [Lib.run_to_unsafe w ⟨b, 0, none⟩ Tryz.underlying106 Tryz.underlying172 hj (by rw [hjs]; decide) hsh (Nat.zero_lt_succ 1)]
  simp only [Result.andThen]
  rw [Oper.upon_value]
  go_wp2
  rw [run_callFunc_extern Tryz.func161 (by kernel_rfl) (by kernel_rfl) (by kernel_rfl) (e := Extern.AbiNoEscape.same) (by kernel_rfl)]
  rw [Lib.run_noEscape]
  simp only [Result.andThen]
  rw [Oper.upon_value]
  go_wp2
  rw [Lib.run_from_unsafe w ⟨b, 0, none⟩ Tryz.underlying172 Tryz.underlying106 hj hsh b_liesB]
  simp only [Result.andThen]
  rw [Oper.upon_value]
  go_wp2
  go_end0
  exact ⟨rfl, rfl⟩

theorem b_cc (b : Nat) (bs : List Value) (w : World) (h : Lib.IsBuilder 109 5 0 b bs w) :
    Calls Tryz.prog 128 #[.pointer (some ⟨b, 0, none⟩)] w fun e w' => e = .returned (.tuple #[]) ∧ CcPost 109 5 b bs w w' := by
  rcases h with h | h
  · refine (b_ccFresh b w h.cell0 h.shape h.frozen0).mono ?_
    rintro e w' ⟨rfl, rfl⟩
    exact ⟨rfl, ccpost_fresh h⟩
  · refine (b_ccUsed b w h.cell0).mono ?_
    rintro e w' ⟨rfl, rfl⟩
    exact ⟨rfl, ccpost_used h⟩

set_option maxHeartbeats 2000000 in
set_option maxRecDepth 100000 in
theorem sb_WriteByte (b : Nat) (s : List UInt8) (c : UInt8) (w : World) (h : Lib.IsBuilder 109 5 0 b (Lib.byteCells s) w) (hlen : s.length + 1 ≤ 140737488355328) :
    Calls Tryz.prog 104 #[.pointer (some ⟨b, 0, none⟩), .int .u8 c.toNat] w fun e w' => e = .returned .nilIface ∧ SbPost 109 5 b (s ++ [c]) w w' := by
  obtain ⟨i0, hi, hz0, hz1, hz2⟩ := info_parts b_info
  go_enter Tryz.func104, Tryz.ntmps104
  go_wp2_with (go_at_call 128; refine (b_cc b _ _ h).mono ?_)
  rintro e w1 ⟨rfl, v, hbk, hown, hne, hG1, hbf⟩
  rw [Lib.byteCells_length] at hown
  have c0 : w1.cell? ⟨b, 0, none⟩ = some (.pointer (some ⟨b, 0, none⟩)) := by rw [Lib.cell_of_heap hbk]; rfl
  have c1 : w1.cell? ⟨b, 1, none⟩ = some v := by rw [Lib.cell_of_heap hbk]; rfl
  go_wp2_with (at_builtin; refine wpList_append_own_at _ rfl _ _ 107 rfl 0 5 i0 (.int .u8 0) 1 1 Tryz.underlying107 hi hz0 hz1 hz2 rfl (by decide) _ _ _ rfl (hown.alloc _) ⟨w1.heap.size, 0, none⟩ 1 1 [.int .u8 c.toNat] rfl rfl (cell_one_new _ _ _) (by intro u hu; simp at hu; subst hu; rfl) (by unfold maxLen; omega) (by omega) (Nat.zero_le _) ?_)
  intro v' w2 hown' hgrow _ hat
  have hlt := lt_of_heap hbk
  have hk1 : (w1.alloc (.cells #[.int .u8 c.toNat] 5)).heap[b]? = some (.cells #[.pointer (some ⟨b, 0, none⟩), v] 109 (0, 0)) := by rw [Lib.alloc_old w1 _ b hlt]; exact hbk
  have hb2 : w2.heap[b]? = some (.cells #[.pointer (some ⟨b, 0, none⟩), v] 109 (0, 0)) := by
    rw [hgrow.block b (by simp; omega) (fun e => hne e.symm)]
    exact hk1
  have d0 : w2.cell? ⟨b, 0, none⟩ = some (.pointer (some ⟨b, 0, none⟩)) := by rw [Lib.cell_of_heap hb2]; rfl
  have d1 : w2.cell? ⟨b, 1, none⟩ = some v := by rw [Lib.cell_of_heap hb2]; rfl
  have f1 : w2.frozen? ⟨b, 1, none⟩ = false := Lib.frozen_of_heap hb2 1
  have hP : SbPost 109 5 b (s ++ [c]) w (w2.setCell ⟨b, 1, none⟩ v') := by
    refine sbpost_mk (w1 := w1.alloc (.cells #[.int .u8 c.toNat] 5)) (by decide) ⟨hG1.os, hG1.tape, hG1.output, Nat.le_trans hG1.size (by simp), fun k hk hn => (Lib.alloc_old w1 _ k (Nat.lt_of_lt_of_le hk hG1.size)).trans (hG1.block k hk hn)⟩ (fun x hx => hbf x ((bufOf_eq hbk).2 ((bufOf_eq hk1).1 hx))) hk1 hgrow hne (fun x hx => ?_) (by simpa [Lib.byteCells] using hown')
    rcases hat with h' | h'
    · exact .inl (by rw [← h']; exact hx)
    · rw [h'] at hx; simp at hx; right; simp; omega
  obtain ⟨g, cap, rfl⟩ : ∃ g cap, v' = .slice (some ⟨g, 0, none⟩) (s.length + 1) cap := by
    rcases hown'.2 with ⟨_, h0⟩ | ⟨g, cap, cur, hv, _⟩
    · omega
    · exact ⟨g, cap, hv⟩
  go_wp2
  go_ret
  exact ⟨rfl, hP⟩

set_option maxHeartbeats 2000000 in
set_option maxRecDepth 100000 in
theorem sb_WriteString (b : Nat) (s t : List UInt8) (w : World) (h : Lib.IsBuilder 109 5 0 b (Lib.byteCells s) w) (hlen : s.length + t.length ≤ 140737488355328) :
    Calls Tryz.prog 75 #[.pointer (some ⟨b, 0, none⟩), .string ⟨t.toArray⟩] w fun e w' => e = .returned (.tuple #[.int .i64 t.length, .nilIface]) ∧ SbPost 109 5 b (s ++ t) w w' := by
  obtain ⟨i0, hi, hz0, hz1, hz2⟩ := info_parts b_info
  have hsz : (⟨t.toArray⟩ : ByteArray).size = t.length := by simp [ByteArray.size]
  have hcl : Lib.strCells ⟨t.toArray⟩ = Lib.byteCells t := by simp [Lib.strCells, Lib.byteCells]
  generalize hst : (⟨t.toArray⟩ : ByteArray) = st at hsz hcl ⊢
  rw [← hsz] at hlen ⊢
  go_enter Tryz.func75, Tryz.ntmps75
  go_wp2_with (go_at_call 128; refine (b_cc b _ _ h).mono ?_)
  rintro e w1 ⟨rfl, v, hbk, hown, hne, hG1, hbf⟩
  rw [Lib.byteCells_length] at hown
  have c0 : w1.cell? ⟨b, 0, none⟩ = some (.pointer (some ⟨b, 0, none⟩)) := by rw [Lib.cell_of_heap hbk]; rfl
  have c1 : w1.cell? ⟨b, 1, none⟩ = some v := by rw [Lib.cell_of_heap hbk]; rfl
  go_wp2_with (at_builtin; refine wpList_app_str rfl _ _ 107 9 rfl 0 5 i0 Tryz.underlying107 Tryz.underlying9 hi hz0 hz1 hz2 _ _ _ rfl hown st rfl (by unfold maxLen; omega) (by omega) (Nat.zero_le _) ?_)
  intro v' w2 hown' hgrow hat
  have hlt := lt_of_heap hbk
  have hb2 : w2.heap[b]? = some (.cells #[.pointer (some ⟨b, 0, none⟩), v] 109 (0, 0)) := by
    rw [hgrow.block b hlt (fun e => hne e.symm)]
    exact hbk
  have d0 : w2.cell? ⟨b, 0, none⟩ = some (.pointer (some ⟨b, 0, none⟩)) := by rw [Lib.cell_of_heap hb2]; rfl
  have d1 : w2.cell? ⟨b, 1, none⟩ = some v := by rw [Lib.cell_of_heap hb2]; rfl
  have f1 : w2.frozen? ⟨b, 1, none⟩ = false := Lib.frozen_of_heap hb2 1
  have hP : SbPost 109 5 b (s ++ t) w (w2.setCell ⟨b, 1, none⟩ v') :=
    sbpost_mk (by decide) hG1 hbf hbk hgrow hne hat (by first | (rw [hcl, hsz] at hown'; simpa [Lib.byteCells] using hown') | simpa [Lib.byteCells] using hown')
  obtain ⟨ao, n', cap, rfl⟩ : ∃ ao n' cap, v' = .slice ao n' cap := by
    rcases hown'.2 with ⟨hv, _⟩ | ⟨g, cap, cur, hv, _⟩
    · exact ⟨_, _, _, hv⟩
    · exact ⟨_, _, _, hv⟩
  go_wp2
  go_ret2
  exact ⟨by first | rfl | (rw [hsz]; rfl), hP⟩

end Go.Proofs.YthfpehmbellmcaaGreatDoor

/- strings.Builder at this cut, its string, its length, its growth: turned from the library's own walks (Derived/Shelf/Strings: Builder1, Builder2) to this program. -/
namespace Go.Proofs.YthfpehmbellmcaaGreatDoor
open Go.RowKit
set_option linter.unusedVariables false
set_option linter.unusedSimpArgs false
set_option linter.defProp false

set_option maxHeartbeats 1000000 in
set_option maxRecDepth 100000 in
theorem b_String (B b : Nat) (l : List UInt8) (w : World) (h : Lib.IsBuilder 109 5 B b (Lib.byteCells l) w) (h0 : l ≠ []) :
    Calls Tryz.prog 77 #[.pointer (some ⟨b, 0, none⟩)] w fun e w' => e = .returned (.string ⟨l.toArray⟩) ∧ Grow w w' (fun x => x = b ∨ bufOf w 109 b x) := by
  obtain ⟨p, hB, v, hbk, hown, hne⟩ : ∃ p, Lib.BuilderAt 109 5 B b p (Lib.byteCells l) w := by
    rcases h with h | h
    · exact ⟨_, h⟩
    · exact ⟨_, h⟩
  have hl0 : l.length ≠ 0 := by simpa using h0
  rw [Lib.byteCells_length] at hown
  obtain ⟨g, cap, cur, rfl, hbg, hg, hnc, hcm, hcs, htake⟩ : ∃ g cap cur, v = .slice (some ⟨g, 0, none⟩) l.length cap ∧ B ≤ g ∧ w.heap[g]? = some (.cells cur 5 (0, 0)) ∧ l.length ≤ cap ∧ cap ≤ maxLen ∧ cur.size = cap * 1 ∧ cur.toList.take (l.length * 1) = Lib.byteCells l := by
    rcases hown.2 with ⟨_, hz⟩ | ⟨g, cap, cur, hv, r⟩
    · exact absurd hz hl0
    · exact ⟨g, cap, cur, hv, r⟩
  have c1 : w.drew.cell? ⟨b, 1, none⟩ = some (.slice (some ⟨g, 0, none⟩) l.length cap) := by
    have : w.drew.heap[b]? = some (.cells #[p, .slice (some ⟨g, 0, none⟩) l.length cap] 109 (0, 0)) := hbk
    rw [Lib.cell_of_heap this]; rfl
  have hSD : (Builtin.unsafeSliceData_ #[107] 156 #[.slice (some ⟨g, 0, none⟩) l.length cap]).run Tryz.prog w.drew = .ok (.pointer (some ⟨g, 0, none⟩)) w.drew :=
    Lib.run_unsafeSliceData_row _ _ _ _ _ _ (by omega)
  have hUS : (Builtin.unsafeString_ #[156, 3] 9 #[.pointer (some ⟨g, 0, none⟩), .int .i64 l.length]).run Tryz.prog w.drew = .ok (.string ⟨l.toArray⟩) (w.drew.freeze ⟨g, 0, none⟩ l.length) := by
    refine Lib.run_unsafeString_row w.drew 156 3 9 5 Tryz.underlying156 b_cells g cur.size (by have hg' : w.drew.heap[g]? = some (.cells cur 5 (0, 0)) := hg; simp [World.shape?, hg']) l h0 (by omega) (by unfold maxLen at hcm; omega) ?_
    intro j x hx
    have := hown.cells (g := g) rfl j (.int .u8 x.toNat) (by simp [Lib.byteCells, hx])
    exact this
  have mixed := b_mixed
  go_enter Tryz.func77, Tryz.ntmps77
  go_wp2
  go_region_o
  all_goals (go_wp2; go_ret; exact ⟨rfl, grow_freeze (.inr ⟨_, _, hbk, rfl⟩)⟩)

set_option maxHeartbeats 2000000 in
set_option maxRecDepth 100000 in
theorem b_String_nil (B b : Nat) (p : Value) (w : World) (hbk : w.heap[b]? = some (.cells #[p, .slice none 0 0] 109 (0, 0))) :
    Calls Tryz.prog 77 #[.pointer (some ⟨b, 0, none⟩)] w fun e w' => e = .returned (.string ⟨#[]⟩) ∧ Grow w w' (fun x => x = b ∨ bufOf w 109 b x) := by
  have hUS := b_usNone
  have c1 : w.drew.cell? ⟨b, 1, none⟩ = some (.slice none 0 0) := by
    have : w.drew.heap[b]? = some (.cells #[p, .slice none 0 0] 109 (0, 0)) := hbk
    rw [Lib.cell_of_heap this]; rfl
  have hSD : (Builtin.unsafeSliceData_ #[107] 156 #[.slice none 0 0]).run Tryz.prog w.drew = .ok (.pointer none) w.drew := rfl
  have mixed := b_mixed
  go_enter Tryz.func77, Tryz.ntmps77
  go_wp2
  go_region_o
  all_goals (go_wp2; go_ret; exact ⟨rfl, (Grow.refl w _).drew⟩)

set_option maxHeartbeats 2000000 in
set_option maxRecDepth 100000 in
theorem b_String_noroom (B b g : Nat) (p : Value) (cur : Array Value) (w : World) (hBw : B ≤ w.heap.size) (hbk : w.heap[b]? = some (.cells #[p, .slice (some ⟨g, 0, none⟩) 0 0] 109 (0, 0))) (hg : w.heap[g]? = some (.cells cur 5 (0, 0))) :
    Calls Tryz.prog 77 #[.pointer (some ⟨b, 0, none⟩)] w fun e w' => e = .returned (.string ⟨#[]⟩) ∧ Grow w w' (fun x => x = b ∨ bufOf w 109 b x) := by
  have hUS := b_usNone
  have hlt : b < w.heap.size := by
    rcases Nat.lt_or_ge b w.heap.size with h' | h'
    · exact h'
    · simp [Array.getElem?_eq_none h'] at hbk
  have c1 : w.drew.cell? ⟨b, 1, none⟩ = some (.slice (some ⟨g, 0, none⟩) 0 0) := by
    have : w.drew.heap[b]? = some (.cells #[p, .slice (some ⟨g, 0, none⟩) 0 0] 109 (0, 0)) := hbk
    rw [Lib.cell_of_heap this]; rfl
  have hSD : (Builtin.unsafeSliceData_ #[107] 156 #[.slice (some ⟨g, 0, none⟩) 0 0]).run Tryz.prog w.drew = .ok (.pointer (some ⟨w.drew.heap.size, 0, none⟩)) (w.drew.alloc (.view ⟨g, 0, none⟩ 5)) :=
    Lib.run_unsafeSliceData_zero w.drew _ _ 5 Tryz.underlying156 ⟨g, 0, none⟩ 0 (5, cur.size) (by have hg' : w.drew.heap[g]? = some (.cells cur 5 (0, 0)) := hg; simp [World.shape?, hg'])
  have c2 : (w.drew.alloc (.view ⟨g, 0, none⟩ 5)).cell? ⟨b, 1, none⟩ = some (.slice (some ⟨g, 0, none⟩) 0 0) := by
    have : (w.drew.alloc (.view ⟨g, 0, none⟩ 5)).heap[b]? = _ := (Lib.alloc_old w.drew _ b hlt).trans hbk
    rw [Lib.cell_of_heap this]; rfl
  have c3 : (w.alloc (.view ⟨g, 0, none⟩ 5)).drew.cell? ⟨b, 1, none⟩ = some (.slice (some ⟨g, 0, none⟩) 0 0) := c2
  have c0 : w.cell? ⟨b, 1, none⟩ = some (.slice (some ⟨g, 0, none⟩) 0 0) := c1
  have mixed := b_mixed
  go_enter Tryz.func77, Tryz.ntmps77
  go_wp2
  go_region_o
  all_goals (go_wp2; go_ret; exact ⟨rfl, grow_alloc'⟩)

set_option maxHeartbeats 2000000 in
set_option maxRecDepth 100000 in
theorem b_String_room (B b g cap : Nat) (p : Value) (w : World) (hc0 : cap ≠ 0) (hbk : w.heap[b]? = some (.cells #[p, .slice (some ⟨g, 0, none⟩) 0 cap] 109 (0, 0))) :
    Calls Tryz.prog 77 #[.pointer (some ⟨b, 0, none⟩)] w fun e w' => e = .returned (.string ⟨#[]⟩) ∧ Grow w w' (fun x => x = b ∨ bufOf w 109 b x) := by
  have hUS := b_usNone
  have c1 : w.drew.cell? ⟨b, 1, none⟩ = some (.slice (some ⟨g, 0, none⟩) 0 cap) := by
    have : w.drew.heap[b]? = some (.cells #[p, .slice (some ⟨g, 0, none⟩) 0 cap] 109 (0, 0)) := hbk
    rw [Lib.cell_of_heap this]; rfl
  have hSD : (Builtin.unsafeSliceData_ #[107] 156 #[.slice (some ⟨g, 0, none⟩) 0 cap]).run Tryz.prog w.drew = .ok (.pointer (some ⟨g, 0, none⟩)) w.drew :=
    Lib.run_unsafeSliceData_row _ _ _ _ _ _ hc0
  clear hc0
  have mixed := b_mixed
  go_enter Tryz.func77, Tryz.ntmps77
  go_wp2
  go_region_o
  all_goals (go_wp2; go_ret; exact ⟨rfl, (Grow.refl w _).drew⟩)

theorem b_String_empty (B b : Nat) (w : World) (h : Lib.IsBuilder 109 5 B b [] w) (hBw : B ≤ w.heap.size) :
    Calls Tryz.prog 77 #[.pointer (some ⟨b, 0, none⟩)] w fun e w' => e = .returned (.string ⟨#[]⟩) ∧ Grow w w' (fun x => x = b ∨ bufOf w 109 b x) := by
  obtain ⟨p, hB, v, hbk, hown, hne⟩ : ∃ p, Lib.BuilderAt 109 5 B b p [] w := by
    rcases h with h | h
    · exact ⟨_, h⟩
    · exact ⟨_, h⟩
  rcases hown.2 with ⟨rfl, _⟩ | ⟨g, cap, cur, rfl, hbg, hg, _, _, _, _⟩
  · exact b_String_nil B b p w hbk
  · by_cases hc0 : cap = 0
    · subst hc0
      exact b_String_noroom B b g p cur w hBw hbk hg
    · exact b_String_room B b g cap p w hc0 hbk

theorem b_String_any (B b : Nat) (l : List UInt8) (w : World) (h : Lib.IsBuilder 109 5 B b (Lib.byteCells l) w) (hBw : B ≤ w.heap.size) :
    Calls Tryz.prog 77 #[.pointer (some ⟨b, 0, none⟩)] w fun e w' => e = .returned (.string ⟨l.toArray⟩) ∧ Grow w w' (fun x => x = b ∨ bufOf w 109 b x) := by
  cases l with
  | nil => exact b_String_empty B b w h hBw
  | cons x r => exact b_String B b (x :: r) w h (by simp)

set_option maxHeartbeats 2000000 in
set_option maxRecDepth 1000000 in
theorem b_grow_fresh (B b n : Nat) (w : World) (hB : B ≤ b) (hbk : w.heap[b]? = some (.cells #[.pointer (some ⟨b, 0, none⟩), .slice none 0 0] 109 (0, 0))) (hBw : B ≤ w.heap.size) (hn : n ≤ 281474976710656) :
    Calls Tryz.prog 129 #[.pointer (some ⟨b, 0, none⟩), .int .i64 n] w fun e w' => e = .returned (.tuple #[]) ∧ SbPost 109 5 b [] w w' := by
  obtain ⟨cs, hrun, hle, hmax⟩ := Lib.run_makeNoZero (P := Tryz.prog) w.drew #[3] 107 5 Tryz.underlying107 n hn
  have hw : IntKind.i64.wrap (IntKind.i64.wrap 0 + (n : Int)) = n := by
    rw [IntKind.wrap_i64, IntKind.wrap_i64]
    omega
  have hcall : (callFunc 162 #[.int .i64 (IntKind.i64.wrap (IntKind.i64.wrap 0 + (n : Int)))]).run Tryz.prog w.drew = .ok (.value (.slice (some ⟨w.drew.heap.size, 0, none⟩) n cs.size)) (w.drew.drew.drew.alloc (.cells cs 5)) := by
    rw [hw, run_callFunc_extern Tryz.func162 (by kernel_rfl) (by kernel_rfl) (by kernel_rfl) (e := Extern.BytealgMakeNoZero.makeNoZero #[3] #[107]) (by kernel_rfl), hrun]
    rfl
  have c1 : w.drew.cell? ⟨b, 1, none⟩ = some (.slice none 0 0) := by
    have : w.drew.heap[b]? = _ := hbk
    rw [Lib.cell_of_heap this]; rfl
  have c2 : (w.alloc (.cells cs 5)).cell? ⟨b, 1, none⟩ = some (.slice none 0 0) := by
    have hlt : b < w.heap.size := by
      rcases Nat.lt_or_ge b w.heap.size with h' | h'
      · exact h'
      · simp [Array.getElem?_eq_none h'] at hbk
    have : (w.alloc (.cells cs 5)).heap[b]? = _ := (Lib.alloc_old w _ b hlt).trans hbk
    rw [Lib.cell_of_heap this]; rfl
  have f2 : (w.alloc (.cells cs 5)).frozen? ⟨b, 1, none⟩ = false := by
    have hlt : b < w.heap.size := by
      rcases Nat.lt_or_ge b w.heap.size with h' | h'
      · exact h'
      · simp [Array.getElem?_eq_none h'] at hbk
    exact Lib.frozen_of_heap ((Lib.alloc_old w _ b hlt).trans hbk) 1
  have hcopy : ∀ W : World, (Builtin.copy_ #[107, 107] 3 #[.slice (some ⟨w.heap.size, 0, none⟩) 0 cs.size, .slice none 0 0]).run Tryz.prog W = .ok (goInt 0) W :=
    fun W => run_copy_none W 107 107 3 5 _ _ 0 cs.size 0 0 Tryz.underlying107 b_size rfl
  clear hw
  have mixed := b_mixed
  go_enter Tryz.func129, Tryz.ntmps129
  go_wp2
  have hfin := SbPost.of_grown (T := 109) (e := 5) (cs := cs) (by decide) hbk (hmax (by unfold maxLen; omega))
  go_region_o
  all_goals (go_wp2; go_end0; exact ⟨rfl, hfin⟩)

set_option maxHeartbeats 2000000 in
set_option maxRecDepth 1000000 in
theorem b_Grow_fresh (B b n : Nat) (w : World) (hB : B ≤ b) (hbk : w.heap[b]? = some (.cells #[.pointer none, .slice none 0 0] 109 (0, 0))) (hBw : B ≤ w.heap.size) (hn : n ≤ 281474976710656) :
    Calls Tryz.prog 74 #[.pointer (some ⟨b, 0, none⟩), .int .i64 n] w fun e w' => e = .returned (.tuple #[]) ∧ SbPost 109 5 b [] w w' := by
  have hbk1 : (w.setCell ⟨b, 0, none⟩ (.pointer (some ⟨b, 0, none⟩))).heap[b]? = some (.cells #[.pointer (some ⟨b, 0, none⟩), .slice none 0 0] 109 (0, 0)) := by
    simp [World.setCell, Array.getElem?_modify, hbk]
  have c1 : (w.setCell ⟨b, 0, none⟩ (.pointer (some ⟨b, 0, none⟩))).cell? ⟨b, 1, none⟩ = some (.slice none 0 0) := by rw [Lib.cell_of_heap hbk1]; rfl
  have mixed := b_mixed
  go_enter Tryz.func74, Tryz.ntmps74
  have c1' : (w.setCell ⟨b, 0, none⟩ (.pointer (some ⟨b, 0, none⟩))).drew.cell? ⟨b, 1, none⟩ = some (.slice none 0 0) := c1
  go_wp2_with (go_at_call 128; refine (b_ccFresh b w (by rw [Lib.cell_of_heap hbk]; rfl) (by simp [World.shape?, hbk]) (Lib.frozen_of_heap hbk 0)).mono ?_; rintro e w' ⟨rfl, rfl⟩)
  go_region_o
  all_goals go_wp2_with (go_at_call 129; refine (b_grow_fresh B b n (w.setCell ⟨b, 0, none⟩ (.pointer (some ⟨b, 0, none⟩))).drew hB hbk1 (by simpa [World.setCell, World.drew, -World.drew_eq] using hBw) hn).mono ?_; rintro e w' ⟨rfl, h1⟩)
  all_goals first
    | (go_end0; exact ⟨rfl, SbPost.behind hbk h1⟩)
    | (go_end0; exact ⟨rfl, SbPost.of_used hbk⟩)

end Go.Proofs.YthfpehmbellmcaaGreatDoor

/- strings.Builder at calls of the layer; strings.Join. -/
namespace Go.Proofs.YthfpehmbellmcaaGreatDoor
open Go.RowKit
set_option linter.unusedVariables false
set_option linter.unusedSimpArgs false
set_option linter.defProp false

/- strings.Join -/
def ir_strings_Join_L1 : IC :=
  (.seq (.reg [⟨some 66, .bin .lss (.t 65) (.t 64), none⟩])
    (.seq (.cond (.t 66) .skip (.exit 3))
    (.seq (.block 4 (.seq (.reg [⟨some 67, .ixa 1 (.t 63) (.t 65), none⟩,
      ⟨some 68, .ld 1 false (.t 67), none⟩,
      ⟨some 10, .mov (.t 68), none⟩])
    (.seq (.reg [⟨some 69, .mov (.t 1), none⟩,
      ⟨some 70, .call 75 [.t 8, .t 69], none⟩])
    (.reg [⟨some 71, .mov (.t 10), none⟩,
      ⟨some 72, .call 75 [.t 8, .t 71], none⟩]))))
    (.reg [⟨some 73, .bin .add (.t 65) (.c (.int .i64 1)), none⟩,
      ⟨some 65, .mov (.t 73), none⟩]))))
def ir_strings_Join_L0 : IC :=
  (.seq (.reg [⟨some 42, .bin .lss (.t 41) (.t 40), none⟩])
    (.seq (.cond (.t 42) .skip (.exit 1))
    (.seq (.block 2 (.seq (.reg [⟨some 43, .ixa 1 (.t 39) (.t 41), none⟩,
      ⟨some 44, .ld 1 false (.t 43), none⟩,
      ⟨some 7, .mov (.t 44), none⟩])
    (.seq (.seq (.reg [⟨some 45, .mov (.t 7), none⟩,
      ⟨some 46, .sln (.t 45), none⟩,
      ⟨some 47, .mov (.t 5), none⟩,
      ⟨some 48, .bin .sub (.c (.int .i64 9223372036854775807)) (.t 47), none⟩,
      ⟨some 49, .bin .gtr (.t 46) (.t 48), none⟩])
    (.cond (.t 49) (.reg [⟨some 50, .dead, none⟩,
      ⟨none, .dead, none⟩]) .skip))
    (.cut (.reg [⟨some 51, .mov (.t 5), none⟩,
      ⟨some 52, .mov (.t 7), none⟩,
      ⟨some 53, .sln (.t 52), none⟩,
      ⟨some 54, .bin .add (.t 51) (.t 53), none⟩,
      ⟨some 5, .mov (.t 54), none⟩])))))
    (.reg [⟨some 55, .bin .add (.t 41) (.c (.int .i64 1)), none⟩,
      ⟨some 41, .mov (.t 55), none⟩]))))
def ir_strings_Join : IC :=
  (.seq (.reg [⟨some 4, .mov (.c (.str [])), none⟩])
    (.seq (.seq (.reg [⟨some 11, .mov (.t 0), none⟩,
      ⟨some 12, .len (.t 11), none⟩])
    (.block 0 (.seq (.reg [⟨some 14, .bin .eql (.t 12) (.c (.int .i64 0)), none⟩,
      ⟨some 13, .mov (.t 14), none⟩])
    (.cond (.t 13) (.seq (.reg [⟨some 4, .mov (.c (.str [])), none⟩])
    .ret) (.seq (.reg [⟨some 16, .bin .eql (.t 12) (.c (.int .i64 1)), none⟩,
      ⟨some 15, .mov (.t 16), none⟩])
    (.cond (.t 15) (.seq (.reg [⟨some 17, .mov (.t 0), none⟩,
      ⟨some 18, .ixa 1 (.t 17) (.c (.int .i64 0)), none⟩,
      ⟨some 19, .ld 1 false (.t 18), none⟩,
      ⟨some 4, .mov (.t 19), none⟩])
    .ret) .skip))))))
    (.seq (.reg [⟨some 5, .mov (.c (.int .i64 0)), none⟩])
    (.seq (.seq (.reg [⟨some 20, .mov (.t 1), none⟩,
      ⟨some 21, .sln (.t 20), none⟩,
      ⟨some 22, .bin .gtr (.t 21) (.c (.int .i64 0)), none⟩])
    (.cond (.t 22) (.seq (.seq (.reg [⟨some 23, .mov (.t 1), none⟩,
      ⟨some 24, .sln (.t 23), none⟩,
      ⟨some 25, .mov (.t 0), none⟩,
      ⟨some 26, .len (.t 25), none⟩,
      ⟨some 27, .bin .sub (.t 26) (.c (.int .i64 1)), none⟩,
      ⟨some 28, .bin .quo (.c (.int .i64 9223372036854775807)) (.t 27), none⟩,
      ⟨some 29, .bin .geq (.t 24) (.t 28), none⟩])
    (.cond (.t 29) (.reg [⟨some 30, .dead, none⟩,
      ⟨none, .dead, none⟩]) .skip))
    (.cut (.reg [⟨some 31, .mov (.t 5), none⟩,
      ⟨some 32, .mov (.t 1), none⟩,
      ⟨some 33, .sln (.t 32), none⟩,
      ⟨some 34, .mov (.t 0), none⟩,
      ⟨some 35, .len (.t 34), none⟩,
      ⟨some 36, .bin .sub (.t 35) (.c (.int .i64 1)), none⟩,
      ⟨some 37, .bin .mul (.t 33) (.t 36), none⟩,
      ⟨some 38, .bin .add (.t 31) (.t 37), none⟩,
      ⟨some 5, .mov (.t 38), none⟩]))) .skip))
    (.cut (.seq (.seq (.reg [⟨some 39, .mov (.t 0), none⟩,
      ⟨some 40, .len (.t 39), none⟩,
      ⟨some 41, .mov (.c (.int .i64 0)), none⟩])
    (.block 1 (.loop ir_strings_Join_L0)))
    (.seq (.reg [⟨some 8, .alc 109 [.raw (.pointer none), .nl 1], none⟩])
    (.seq (.reg [⟨some 56, .mov (.t 5), none⟩,
      ⟨some 57, .call 74 [.t 8, .t 56], none⟩])
    (.seq (.reg [⟨some 58, .mov (.t 0), none⟩,
      ⟨some 59, .ixa 1 (.t 58) (.c (.int .i64 0)), none⟩,
      ⟨some 60, .ld 1 false (.t 59), none⟩,
      ⟨some 61, .call 75 [.t 8, .t 60], none⟩])
    (.seq (.seq (.reg [⟨some 62, .mov (.t 0), none⟩,
      ⟨some 63, .vsl 1 (.t 62) (some (.c (.int .i64 1))) none, none⟩,
      ⟨some 64, .len (.t 63), none⟩,
      ⟨some 65, .mov (.c (.int .i64 0)), none⟩])
    (.block 3 (.loop ir_strings_Join_L1)))
    (.seq (.reg [⟨some 74, .call 77 [.t 8], none⟩,
      ⟨some 4, .mov (.t 74), none⟩])
    .ret)))))))))))
def rs_strings_Join : List IRes := [.t 4]
theorem ck_strings_Join : chkF Tryz.prog Tryz.f69 ir_strings_Join rs_strings_Join 75 = true := by kernel_rfl


section
variable {E : Envt} {L : Objs} {k : Key} {i : Nat} {fr : List AV} {d : Option Nat} {is : List IOper} {Y : List PV} {K : List AV → Objs → Prop}
theorem useBS (i : Nat) (s t : List UInt8) (hat : SbAt L k i tSb tU8 s) (hki : k ≠ .l i) (hlen : s.length + t.length ≤ 140737488355328)
    (hk : awpOps Tryz.prog E Y is (Zg (fr.map (·.kill (.l i))) d (.p (.tup [int (t.length : Nat), .raw .nilIface]))) (putSb L k i tSb tU8 (s ++ t)) K) : CallOp Tryz.prog E 75 [.adr k 0, .p (.str t)] L d fr (contO Tryz.prog E Y is K) :=
  useW (vr := [.string ⟨t.toArray⟩]) (x := .tup [int (t.length : Nat), .raw .nilIface]) (v := .tuple #[.int .i64 t.length, .nilIface]) i tSb tU8 s (s ++ t) hat hki (fun w U ι vs h => by obtain ⟨v, r, rfl, h1, h2⟩ := h; simp only [ARep, PRep, ARepL] at h1 h2; rw [h1, h2]) (fun w U => ⟨[_, _], rfl, _, _, rfl, rfl, _, _, rfl, ⟨rfl, rfl⟩, rfl⟩)
    (fun b w h _ => sb_WriteString b s t w h hlen) hk
theorem useBB (i : Nat) (s : List UInt8) (c : UInt8) (hat : SbAt L k i tSb tU8 s) (hki : k ≠ .l i) (hlen : s.length + 1 ≤ 140737488355328)
    (hk : awpOps Tryz.prog E Y is (Zg (fr.map (·.kill (.l i))) d (.p (.raw .nilIface))) (putSb L k i tSb tU8 (s ++ [c])) K) : CallOp Tryz.prog E 104 [.adr k 0, .p (.int .u8 (c.toNat : Nat))] L d fr (contO Tryz.prog E Y is K) :=
  useW (vr := [.int .u8 c.toNat]) (x := .raw .nilIface) (v := .nilIface) i tSb tU8 s (s ++ [c]) hat hki (fun w U ι vs h => by obtain ⟨v, r, rfl, h1, h2⟩ := h; simp only [ARep, PRep, ARepL] at h1 h2; rw [h1, h2]) (fun w U => ⟨rfl, rfl⟩)
    (fun b w h _ => sb_WriteByte b s c w h hlen) hk
theorem useBG (i : Nat) (n : Nat) (hat : SbAt L k i tSb tU8 []) (hf : Zas L k = some (.box [.p nilP, .p (.nl 1)] tSb)) (hki : k ≠ .l i) (hn : n ≤ 281474976710656)
    (hk : awpOps Tryz.prog E Y is (Zg (fr.map (·.kill (.l i))) d (.p (.tup []))) (putSb L k i tSb tU8 []) K) : CallOp Tryz.prog E 74 [.adr k 0, .p (int (n : Nat))] L d fr (contO Tryz.prog E Y is K) :=
  useW (vr := [.int .i64 n]) (x := .tup []) (v := .tuple #[]) i tSb tU8 [] [] hat hki (fun w U ι vs h => by obtain ⟨v, r, rfl, h1, h2⟩ := h; simp only [ARep, PRep, ARepL] at h1 h2; rw [h1, h2]) (fun w U => ⟨[], rfl, rfl⟩)
    (fun b w _ h => b_Grow_fresh 0 b n w (Nat.zero_le _) (h hf) (Nat.zero_le _) hn) hk
theorem useBT (i : Nat) (s : List UInt8) (hat : SbAt L k i tSb tU8 s) (hki : k ≠ .l i)
    (hk : awpOps Tryz.prog E Y is (Zg (fr.map (·.kill (.l i))) d (.p (.str s))) (delSb L k i) K) : CallOp Tryz.prog E 77 [.adr k 0] L d fr (contO Tryz.prog E Y is K) :=
  useWS i tSb tU8 s hat hki (fun b w h => b_String_any 0 b s w h (Nat.zero_le _)) hk
theorem lens_take_le : ∀ (l : List (List UInt8)) (k : Nat), Lib.lens (l.take k) ≤ Lib.lens l
  | [], k => by simp
  | x :: r, 0 => by simp [Lib.lens]
  | x :: r, k + 1 => by have := lens_take_le r k; simp only [List.take_succ_cons, Lib.lens, List.map_cons, List.sum_cons] at *; omega
theorem Join_ok (l : List (List UInt8)) (sep : List UInt8) (hl : l.length ≤ 1000000000) (hlen : (Lib.join l sep).length ≤ 1000000000) : PCall Tryz.prog E 69 [strs l, .str sep] (· = .str (Lib.join l sep)) := by
  refine pcallF mixed Tryz.func69 ck_strings_Join ?_
  simp only [a0, l0, OS.ao, List.map_cons, List.map_nil, List.length_cons, List.length_nil, List.cons_append, List.nil_append, Nat.reduceSub, Nat.reduceAdd, List.replicate_succ, List.replicate_zero, ir_strings_Join, rs_strings_Join, ZZ, YY, Ze, ite_true, ite_false, forall_const, reduceCtorEq, Nat.reduceAdd, Nat.reduceMul, Nat.reduceLeDiff, Nat.reduceLT, Nat.reduceEqDiff]
  simp only [strs, ZZ, YY, Ze, ite_true, ite_false, forall_const, reduceCtorEq, Nat.reduceAdd, Nat.reduceMul, Nat.reduceLeDiff, Nat.reduceLT, Nat.reduceEqDiff]
  refine br ?_ ?_
  · intro h
    have h0 : l = [] := by
      have := of_decide_eq_true h
      simp at this
      exact this
    subst h0
    simp only [ZZ, YY, Ze, ite_true, ite_false, forall_const, reduceCtorEq, Nat.reduceAdd, Nat.reduceMul, Nat.reduceLeDiff, Nat.reduceLT, Nat.reduceEqDiff]
    rfl
  intro h
  have h0 : l.length ≠ 0 := by have := of_decide_eq_false h; simpa using this
  simp only [ZZ, YY, Ze, ite_true, ite_false, forall_const, reduceCtorEq, Nat.reduceAdd, Nat.reduceMul, Nat.reduceLeDiff, Nat.reduceLT, Nat.reduceEqDiff]
  obtain ⟨x, r, rfl⟩ : ∃ x r, l = x :: r := by cases l with | nil => exact absurd rfl h0 | cons x r => exact ⟨x, r, rfl⟩
  refine br ?_ ?_
  · intro h1
    have h1 : r = [] := List.eq_nil_of_length_eq_zero (by have := of_decide_eq_true h1; simp at this; omega)
    subst h1
    simp only [ZZ, YY, Ze, ite_true, ite_false, forall_const, reduceCtorEq, Nat.reduceAdd, Nat.reduceMul, Nat.reduceLeDiff, Nat.reduceLT, Nat.reduceEqDiff]
    refine ⟨by simp, by simp, ?_⟩
    rw [Lib.join_one]
    rfl
  intro h1
  have h1 : r.length ≠ 0 := by have := of_decide_eq_false h1; simp at this; omega
  have hJ := Lib.join_length x r sep
  have hcl : (x :: r).length = r.length + 1 := by simp
  have hmul : sep.length * r.length ≤ 1000000000 := by omega
  have hll : Lib.lens (x :: r) ≤ 1000000000 := by omega
  generalize hes : (x :: r).map (fun x => [PV.str x]) = es
  have hln : es.length = r.length + 1 := by rw [← hes]; simp
  have hget : ∀ (k : Nat) (y : List UInt8), (x :: r)[k]? = some y → es.getD k [] = [PV.str y] := fun k y h => by rw [← hes]; exact getD_map h
  simp only [ZZ, YY, Ze, ite_true, ite_false, forall_const, reduceCtorEq, Nat.reduceAdd, Nat.reduceMul, Nat.reduceLeDiff, Nat.reduceLT, Nat.reduceEqDiff]
  refine br_join (fun fr L => fr = [.p (.sl 1 es), .p (.str sep), .any, .any, .any, .p (int (sep.length * r.length : Nat)), .any, .any, .any, .any, .any, .any, .any, .any, .any, .any, .any, .any, .any, .any, .any, .any, .any, .any, .any, .any, .any, .any, .any, .any, .any, .any, .any, .any, .any, .any, .any, .any, .any, .any, .any, .any, .any, .any, .any, .any, .any, .any, .any, .any, .any, .any, .any, .any, .any, .any, .any, .any, .any, .any, .any, .any, .any, .any, .any, .any, .any, .any, .any, .any, .any, .any, .any, .any, .any] ∧ L = []) ?_ ?_ ?_
  · intro hs
    have hs : 0 < sep.length := by have := of_decide_eq_true hs; omega
    simp only [ZZ, YY, Ze, ite_true, ite_false, forall_const, reduceCtorEq, Nat.reduceAdd, Nat.reduceMul, Nat.reduceLeDiff, Nat.reduceLT, Nat.reduceEqDiff]
    have hq : ((9223372036854775807 : Int)).tdiv ((es.length : Int) - 1) = ((9223372036854775807 / r.length : Nat) : Int) := by
      rw [hln, Int.tdiv_eq_ediv_of_nonneg (by omega)]
      have : ((r.length + 1 : Nat) : Int) - 1 = (r.length : Int) := by omega
      rw [this]
      rfl
    have hq2 : 9223372036 ≤ 9223372036854775807 / r.length := (Nat.le_div_iff_mul_le (by omega)).2 (by omega)
    have he : (es.length : Int) - 1 = (r.length : Int) := by omega
    have hp : (sep.length : Int) * (r.length : Int) = ((sep.length * r.length : Nat) : Int) := by simp
    have hq3 : 9223372036854775807 / r.length ≤ 9223372036854775807 := Nat.div_le_self _ _
    have hsl : sep.length ≤ sep.length * r.length := Nat.le_mul_of_pos_right _ (by omega)
    rw [hq]
    generalize 9223372036854775807 / r.length = q at *
    simp only [he]
    refine ⟨i64_of (by omega) (by omega), ⟨by omega, i64_of (by omega) (by omega)⟩, ?_⟩
    refine br (fun h => absurd (of_decide_eq_true h) (by omega)) ?_
    intro _
    simp only [ZZ, YY, Ze, ite_true, ite_false, forall_const, reduceCtorEq, Nat.reduceAdd, Nat.reduceMul, Nat.reduceLeDiff, Nat.reduceLT, Nat.reduceEqDiff]
    refine cut_same (by simp only [ZZ, YY, Ze, ite_true, ite_false, forall_const, reduceCtorEq, Nat.reduceAdd, Nat.reduceMul, Nat.reduceLeDiff, Nat.reduceLT, Nat.reduceEqDiff]) ?_
    simp only [ZZ, YY, Ze, ite_true, ite_false, forall_const, reduceCtorEq, Nat.reduceAdd, Nat.reduceMul, Nat.reduceLeDiff, Nat.reduceLT, Nat.reduceEqDiff]
    simp only [he, hp]
    refine ⟨i64_of (by omega) (by omega), i64_of (by omega) (by omega), i64_of (by omega) (by omega), to_mid [.p (.sl 1 es), .p (.str sep), .any, .any, .any, .p (int (sep.length * r.length : Nat)), .any, .any, .any, .any, .any, .any, .any, .any, .any, .any, .any, .any, .any, .any, .any, .any, .any, .any, .any, .any, .any, .any, .any, .any, .any, .any, .any, .any, .any, .any, .any, .any, .any, .any, .any, .any, .any, .any, .any, .any, .any, .any, .any, .any, .any, .any, .any, .any, .any, .any, .any, .any, .any, .any, .any, .any, .any, .any, .any, .any, .any, .any, .any, .any, .any, .any, .any, .any, .any] [] (by simp only [Int.zero_add]; (simp only [ZZ, YY, Ze, ite_true, ite_false, forall_const, reduceCtorEq, Nat.reduceAdd, Nat.reduceMul, Nat.reduceLeDiff, Nat.reduceLT, Nat.reduceEqDiff]; try trivial)) (by simp only [ZZ, YY, Ze, ite_true, ite_false, forall_const, reduceCtorEq, Nat.reduceAdd, Nat.reduceMul, Nat.reduceLeDiff, Nat.reduceLT, Nat.reduceEqDiff]) ⟨rfl, rfl⟩⟩
  · intro hs
    have hs : sep.length = 0 := by have := of_decide_eq_false hs; omega
    simp only [ZZ, YY, Ze, ite_true, ite_false, forall_const, reduceCtorEq, Nat.reduceAdd, Nat.reduceMul, Nat.reduceLeDiff, Nat.reduceLT, Nat.reduceEqDiff]
    exact to_mid [.p (.sl 1 es), .p (.str sep), .any, .any, .any, .p (int (sep.length * r.length : Nat)), .any, .any, .any, .any, .any, .any, .any, .any, .any, .any, .any, .any, .any, .any, .any, .any, .any, .any, .any, .any, .any, .any, .any, .any, .any, .any, .any, .any, .any, .any, .any, .any, .any, .any, .any, .any, .any, .any, .any, .any, .any, .any, .any, .any, .any, .any, .any, .any, .any, .any, .any, .any, .any, .any, .any, .any, .any, .any, .any, .any, .any, .any, .any, .any, .any, .any, .any, .any, .any] [] (by rw [hs]; simp only [Nat.zero_mul]; (simp only [ZZ, YY, Ze, ite_true, ite_false, forall_const, reduceCtorEq, Nat.reduceAdd, Nat.reduceMul, Nat.reduceLeDiff, Nat.reduceLT, Nat.reduceEqDiff]; try trivial)) (by simp only [ZZ, YY, Ze, ite_true, ite_false, forall_const, reduceCtorEq, Nat.reduceAdd, Nat.reduceMul, Nat.reduceLeDiff, Nat.reduceLT, Nat.reduceEqDiff]) ⟨rfl, rfl⟩
  · rintro fr L ⟨rfl, rfl⟩
    simp only [ZZ, YY, Ze, ite_true, ite_false, forall_const, reduceCtorEq, Nat.reduceAdd, Nat.reduceMul, Nat.reduceLeDiff, Nat.reduceLT, Nat.reduceEqDiff]
    refine loop_intro (fun n fr L => ∃ (k : Nat) (m : Nat), k ≤ r.length + 1 ∧ n = r.length + 1 - k ∧ (m = sep.length * r.length + Lib.lens ((x :: r).take k)) ∧ fr = [.p (.sl 1 es), .p (.str sep), .any, .any, .any, .p (int (m : Nat)), .any, .any, .any, .any, .any, .any, .any, .any, .any, .any, .any, .any, .any, .any, .any, .any, .any, .any, .any, .any, .any, .any, .any, .any, .any, .any, .any, .any, .any, .any, .any, .any, .any, .p (.sl 1 es), .p (int (es.length : Nat)), .p (int (k : Nat)), .any, .any, .any, .any, .any, .any, .any, .any, .any, .any, .any, .any, .any, .any, .any, .any, .any, .any, .any, .any, .any, .any, .any, .any, .any, .any, .any, .any, .any, .any, .any, .any, .any] ∧ L = []) (r.length + 1) [.p (.sl 1 es), .p (.str sep), .any, .any, .any, .p (int ((sep.length * r.length) : Nat)), .any, .any, .any, .any, .any, .any, .any, .any, .any, .any, .any, .any, .any, .any, .any, .any, .any, .any, .any, .any, .any, .any, .any, .any, .any, .any, .any, .any, .any, .any, .any, .any, .any, .p (.sl 1 es), .p (int (es.length : Nat)), .p (int (0 : Nat)), .any, .any, .any, .any, .any, .any, .any, .any, .any, .any, .any, .any, .any, .any, .any, .any, .any, .any, .any, .any, .any, .any, .any, .any, .any, .any, .any, .any, .any, .any, .any, .any, .any] [] (by (simp only [ZZ, YY, Ze, ite_true, ite_false, forall_const, reduceCtorEq, Nat.reduceAdd, Nat.reduceMul, Nat.reduceLeDiff, Nat.reduceLT, Nat.reduceEqDiff]; try trivial)) (by (simp only [ZZ, YY, Ze, ite_true, ite_false, forall_const, reduceCtorEq, Nat.reduceAdd, Nat.reduceMul, Nat.reduceLeDiff, Nat.reduceLT, Nat.reduceEqDiff]; try trivial)) ⟨0, sep.length * r.length, by omega, by omega, by simp [Lib.lens], rfl, rfl⟩ ?_
    rintro n fr L ⟨k, m, hk, rfl, hm, rfl, rfl⟩
    simp only [ir_strings_Join_L0, ZZ, YY, Ze, ite_true, ite_false, forall_const, reduceCtorEq, Nat.reduceAdd, Nat.reduceMul, Nat.reduceLeDiff, Nat.reduceLT, Nat.reduceEqDiff]
    refine br ?_ ?_
    · intro h
      have hlt : k < r.length + 1 := by have := of_decide_eq_true h; omega
      obtain ⟨y, hy⟩ : ∃ y, (x :: r)[k]? = some y := ⟨_, List.getElem?_eq_getElem (by simpa using hlt)⟩
      have hg := hget k y hy
      have hs1 := Lib.lens_take_succ (x :: r) k y hy
      have hs2 := lens_take_le (x :: r) (k + 1)
      simp only [ZZ, YY, Ze, ite_true, ite_false, forall_const, reduceCtorEq, Nat.reduceAdd, Nat.reduceMul, Nat.reduceLeDiff, Nat.reduceLT, Nat.reduceEqDiff, hg]
      refine ⟨⟨by omega, by omega⟩, by omega, i64_of (by omega) (by omega), ?_⟩
      refine br (fun h => absurd (of_decide_eq_true h) (by omega)) ?_
      intro _
      simp only [ZZ, YY, Ze, ite_true, ite_false, forall_const, reduceCtorEq, Nat.reduceAdd, Nat.reduceMul, Nat.reduceLeDiff, Nat.reduceLT, Nat.reduceEqDiff]
      refine cut_same (by simp only [ZZ, YY, Ze, ite_true, ite_false, forall_const, reduceCtorEq, Nat.reduceAdd, Nat.reduceMul, Nat.reduceLeDiff, Nat.reduceLT, Nat.reduceEqDiff]) ?_
      simp only [ZZ, YY, Ze, ite_true, ite_false, forall_const, reduceCtorEq, Nat.reduceAdd, Nat.reduceMul, Nat.reduceLeDiff, Nat.reduceLT, Nat.reduceEqDiff]
      refine ⟨i64_of (by omega) (by omega), i64_of (by omega) (by omega), ?_⟩
      refine end_round (r.length + 1 - (k + 1)) [.p (.sl 1 es), .p (.str sep), .any, .any, .any, .p (int ((m + y.length) : Nat)), .any, .any, .any, .any, .any, .any, .any, .any, .any, .any, .any, .any, .any, .any, .any, .any, .any, .any, .any, .any, .any, .any, .any, .any, .any, .any, .any, .any, .any, .any, .any, .any, .any, .p (.sl 1 es), .p (int (es.length : Nat)), .p (int ((k + 1) : Nat)), .any, .any, .any, .any, .any, .any, .any, .any, .any, .any, .any, .any, .any, .any, .any, .any, .any, .any, .any, .any, .any, .any, .any, .any, .any, .any, .any, .any, .any, .any, .any, .any, .any] [] (by omega) (by (simp only [ZZ, YY, Ze, ite_true, ite_false, forall_const, reduceCtorEq, Nat.reduceAdd, Nat.reduceMul, Nat.reduceLeDiff, Nat.reduceLT, Nat.reduceEqDiff]; try trivial)) (by (simp only [ZZ, YY, Ze, ite_true, ite_false, forall_const, reduceCtorEq, Nat.reduceAdd, Nat.reduceMul, Nat.reduceLeDiff, Nat.reduceLT, Nat.reduceEqDiff]; try trivial)) ⟨k + 1, m + y.length, by omega, rfl, by omega, rfl, rfl⟩
    · intro h
      have hge : k = r.length + 1 := by have := of_decide_eq_false h; omega
      subst hge
      have hm' : m ≤ 1000000000 := by rw [hm, List.take_of_length_le (by simp)]; omega
      simp only [ZZ, YY, Ze, ite_true, ite_false, forall_const, reduceCtorEq, Nat.reduceAdd, Nat.reduceMul, Nat.reduceLeDiff, Nat.reduceLT, Nat.reduceEqDiff]
      refine useBG 1000 m (.inl ⟨rfl, rfl⟩) rfl (by simp) (by omega) ?_
      have hg0 := hget 0 x rfl
      have hlx : Lib.lens (x :: r) = x.length + Lib.lens r := by simp [Lib.lens]
      simp only [ZZ, YY, Ze, ite_true, ite_false, forall_const, reduceCtorEq, Nat.reduceAdd, Nat.reduceMul, Nat.reduceLeDiff, Nat.reduceLT, Nat.reduceEqDiff, putSb, Int.toNat_zero, hg0]
      refine ⟨⟨by omega, by omega⟩, by omega, ?_⟩
      refine useBS 1000 [] x (.inr ⟨rfl, rfl⟩) (by simp) (by simp; omega) ?_
      simp only [ZZ, YY, Ze, ite_true, ite_false, forall_const, reduceCtorEq, Nat.reduceAdd, Nat.reduceMul, Nat.reduceLeDiff, Nat.reduceLT, Nat.reduceEqDiff, putSb]
      refine ⟨⟨by omega, by omega⟩, ?_⟩
      have hd : (es.take es.length).drop 1 = strE r := by rw [List.take_length, ← hes]; simp [strE]
      simp only [Int.toNat_one, hd, strE_len]
      refine loop_intro (fun n fr L => ∃ (k : Nat) (s : List UInt8), k ≤ r.length ∧ n = r.length - k ∧ (s = x ++ Lib.joinTail sep (r.take k)) ∧ fr = [.any, .p (.str sep), .any, .any, .any, .any, .any, .any, .adr (.l 8) 0, .any, .any, .any, .any, .any, .any, .any, .any, .any, .any, .any, .any, .any, .any, .any, .any, .any, .any, .any, .any, .any, .any, .any, .any, .any, .any, .any, .any, .any, .any, .any, .any, .any, .any, .any, .any, .any, .any, .any, .any, .any, .any, .any, .any, .any, .any, .any, .any, .any, .any, .any, .any, .any, .any, .p (.sl 1 (strE r)), .p (int (r.length : Nat)), .p (int (k : Nat)), .any, .any, .any, .any, .any, .any, .any, .any, .any] ∧ L = [(.l 8, .box [.adr (.l 8) 0, .row (.l 1000)] tSb), (.l 1000, .row (bytC s) tU8 1 true)]) (r.length) [.any, .p (.str sep), .any, .any, .any, .any, .any, .any, .adr (.l 8) 0, .any, .any, .any, .any, .any, .any, .any, .any, .any, .any, .any, .any, .any, .any, .any, .any, .any, .any, .any, .any, .any, .any, .any, .any, .any, .any, .any, .any, .any, .any, .any, .any, .any, .any, .any, .any, .any, .any, .any, .any, .any, .any, .any, .any, .any, .any, .any, .any, .any, .any, .any, .any, .any, .any, .p (.sl 1 (strE r)), .p (int (r.length : Nat)), .p (int (0 : Nat)), .any, .any, .any, .any, .any, .any, .any, .any, .any] [(.l 8, .box [.adr (.l 8) 0, .row (.l 1000)] tSb), (.l 1000, .row (bytC x) tU8 1 true)] (by (simp only [ZZ, YY, Ze, ite_true, ite_false, forall_const, reduceCtorEq, Nat.reduceAdd, Nat.reduceMul, Nat.reduceLeDiff, Nat.reduceLT, Nat.reduceEqDiff]; try trivial)) (by (simp only [ZZ, YY, Ze, ite_true, ite_false, forall_const, reduceCtorEq, Nat.reduceAdd, Nat.reduceMul, Nat.reduceLeDiff, Nat.reduceLT, Nat.reduceEqDiff]; try trivial)) ⟨0, x, by omega, by omega, by simp [Lib.joinTail], rfl, rfl⟩ ?_
      rintro n fr L ⟨k, s, hk, rfl, hs, rfl, rfl⟩
      simp only [ir_strings_Join_L1, ZZ, YY, Ze, ite_true, ite_false, forall_const, reduceCtorEq, Nat.reduceAdd, Nat.reduceMul, Nat.reduceLeDiff, Nat.reduceLT, Nat.reduceEqDiff]
      refine br ?_ ?_
      · intro h
        have hlt : k < r.length := by have := of_decide_eq_true h; omega
        obtain ⟨y, hy⟩ : ∃ y, r[k]? = some y := ⟨_, List.getElem?_eq_getElem hlt⟩
        have hg := strE_get hy
        have hj1 := Lib.joinTail_take_succ sep r k y hy
        have hj2 := Lib.joinTail_take_le sep r (k + 1)
        have hj3 := Lib.joinTail_length sep r
        have hj4 : (Lib.joinTail sep (r.take (k + 1))).length = (Lib.joinTail sep (r.take k)).length + sep.length + y.length := by rw [hj1]; simp; omega
        have hsl : s.length = x.length + (Lib.joinTail sep (r.take k)).length := by rw [hs]; simp
        simp only [ZZ, YY, Ze, ite_true, ite_false, forall_const, reduceCtorEq, Nat.reduceAdd, Nat.reduceMul, Nat.reduceLeDiff, Nat.reduceLT, Nat.reduceEqDiff, strE_len, hg]
        refine ⟨⟨by omega, by omega⟩, by omega, ?_⟩
        refine useBS 1000 s sep (.inr ⟨rfl, rfl⟩) (by simp) (by omega) ?_
        simp only [ZZ, YY, Ze, ite_true, ite_false, forall_const, reduceCtorEq, Nat.reduceAdd, Nat.reduceMul, Nat.reduceLeDiff, Nat.reduceLT, Nat.reduceEqDiff, putSb]
        refine useBS 1000 (s ++ sep) y (.inr ⟨rfl, rfl⟩) (by simp) (by simp; omega) ?_
        simp only [ZZ, YY, Ze, ite_true, ite_false, forall_const, reduceCtorEq, Nat.reduceAdd, Nat.reduceMul, Nat.reduceLeDiff, Nat.reduceLT, Nat.reduceEqDiff, putSb]
        refine ⟨i64_of (by omega) (by omega), ?_⟩
        refine end_round (r.length - (k + 1)) [.any, .p (.str sep), .any, .any, .any, .any, .any, .any, .adr (.l 8) 0, .any, .any, .any, .any, .any, .any, .any, .any, .any, .any, .any, .any, .any, .any, .any, .any, .any, .any, .any, .any, .any, .any, .any, .any, .any, .any, .any, .any, .any, .any, .any, .any, .any, .any, .any, .any, .any, .any, .any, .any, .any, .any, .any, .any, .any, .any, .any, .any, .any, .any, .any, .any, .any, .any, .p (.sl 1 (strE r)), .p (int (r.length : Nat)), .p (int ((k + 1) : Nat)), .any, .any, .any, .any, .any, .any, .any, .any, .any] [(.l 8, .box [.adr (.l 8) 0, .row (.l 1000)] tSb), (.l 1000, .row (bytC (s ++ sep ++ y)) tU8 1 true)] (by omega) (by (simp only [ZZ, YY, Ze, ite_true, ite_false, forall_const, reduceCtorEq, Nat.reduceAdd, Nat.reduceMul, Nat.reduceLeDiff, Nat.reduceLT, Nat.reduceEqDiff]; try trivial)) (by (simp only [ZZ, YY, Ze, ite_true, ite_false, forall_const, reduceCtorEq, Nat.reduceAdd, Nat.reduceMul, Nat.reduceLeDiff, Nat.reduceLT, Nat.reduceEqDiff]; try trivial)) ⟨k + 1, s ++ sep ++ y, by omega, rfl, by rw [hj1, hs]; simp, rfl, rfl⟩
      · intro h
        have hge : k = r.length := by have := of_decide_eq_false h; omega
        subst hge
        simp only [ZZ, YY, Ze, ite_true, ite_false, forall_const, reduceCtorEq, Nat.reduceAdd, Nat.reduceMul, Nat.reduceLeDiff, Nat.reduceLT, Nat.reduceEqDiff]
        refine useBT 1000 s (.inr ⟨rfl, rfl⟩) (by simp) ?_
        simp only [ZZ, YY, Ze, ite_true, ite_false, forall_const, reduceCtorEq, Nat.reduceAdd, Nat.reduceMul, Nat.reduceLeDiff, Nat.reduceLT, Nat.reduceEqDiff]
        rw [hs, List.take_length, Lib.join_cons]
end
end Go.Proofs.YthfpehmbellmcaaGreatDoor

/- Tokens put together, on both sides. -/
namespace Go.Proofs.YthfpehmbellmcaaGreatDoor
open Go.RowKit
set_option linter.unusedVariables false
set_option linter.unusedSimpArgs false
set_option linter.defProp false

/- paperchase/near.Join -/
def ir_near_Join_L0 : IC :=
  (.seq (.reg [⟨some 9, .bin .lss (.t 8) (.t 7), none⟩])
    (.seq (.cond (.t 9) .skip (.exit 0))
    (.seq (.block 1 (.seq (.reg [⟨some 10, .mov (.t 8), none⟩,
      ⟨some 11, .ixa 1 (.t 6) (.t 8), none⟩,
      ⟨some 12, .ld 1 false (.t 11), none⟩,
      ⟨some 4, .mov (.t 10), none⟩,
      ⟨some 5, .mov (.t 12), none⟩])
    (.seq (.seq (.reg [⟨some 13, .mov (.t 4), none⟩,
      ⟨some 14, .bin .gtr (.t 13) (.c (.int .i64 0)), none⟩,
      ⟨some 15, .mov (.t 14), none⟩,
      ⟨some 16, .mov (.t 5), (some (15, true))⟩,
      ⟨some 17, .bin .neq (.t 16) (.c (.str [10])), (some (15, true))⟩,
      ⟨some 18, .pick (.t 15) (.t 17) (.c (.bool false)), none⟩,
      ⟨some 19, .mov (.t 18), none⟩,
      ⟨some 20, .mov (.t 0), (some (19, true))⟩,
      ⟨some 21, .mov (.t 4), (some (19, true))⟩,
      ⟨some 22, .bin .sub (.t 21) (.c (.int .i64 1)), (some (19, true))⟩,
      ⟨some 23, .ixa 1 (.t 20) (.t 22), (some (19, true))⟩,
      ⟨some 24, .ld 1 false (.t 23), (some (19, true))⟩,
      ⟨some 25, .bin .neq (.t 24) (.c (.str [10])), (some (19, true))⟩,
      ⟨some 26, .pick (.t 19) (.t 25) (.c (.bool false)), none⟩])
    (.cond (.t 26) (.reg [⟨some 27, .call 104 [.t 3, .c (.int .u8 32)], none⟩]) .skip))
    (.cut (.reg [⟨some 28, .mov (.t 5), none⟩,
      ⟨some 29, .call 75 [.t 3, .t 28], none⟩])))))
    (.reg [⟨some 30, .bin .add (.t 8) (.c (.int .i64 1)), none⟩,
      ⟨some 8, .mov (.t 30), none⟩]))))
def ir_near_Join : IC :=
  (.seq (.reg [⟨some 2, .mov (.c (.str [])), none⟩])
    (.seq (.reg [⟨some 3, .alc 109 [.raw (.pointer none), .nl 1], none⟩])
    (.seq (.seq (.reg [⟨some 6, .mov (.t 0), none⟩,
      ⟨some 7, .len (.t 6), none⟩,
      ⟨some 8, .mov (.c (.int .i64 0)), none⟩])
    (.block 0 (.loop ir_near_Join_L0)))
    (.seq (.reg [⟨some 31, .call 77 [.t 3], none⟩,
      ⟨some 2, .mov (.t 31), none⟩])
    .ret))))
def rs_near_Join : List IRes := [.t 2]
theorem ck_near_Join : chkF Tryz.prog Tryz.f50 ir_near_Join rs_near_Join 32 = true := by kernel_rfl
/- paperchase/chaseref1.JoinOf -/
def ir_chaseref1_JoinOf_L0 : IC :=
  (.seq (.reg [⟨some 9, .bin .lss (.t 8) (.t 7), none⟩])
    (.seq (.cond (.t 9) .skip (.exit 0))
    (.seq (.block 1 (.seq (.reg [⟨some 10, .mov (.t 8), none⟩,
      ⟨some 11, .ixa 1 (.t 6) (.t 8), none⟩,
      ⟨some 12, .ld 1 false (.t 11), none⟩,
      ⟨some 4, .mov (.t 10), none⟩,
      ⟨some 5, .mov (.t 12), none⟩])
    (.seq (.seq (.reg [⟨some 13, .mov (.t 4), none⟩,
      ⟨some 14, .bin .gtr (.t 13) (.c (.int .i64 0)), none⟩,
      ⟨some 15, .mov (.t 14), none⟩,
      ⟨some 16, .mov (.t 5), (some (15, true))⟩,
      ⟨some 17, .bin .neq (.t 16) (.c (.str [10])), (some (15, true))⟩,
      ⟨some 18, .pick (.t 15) (.t 17) (.c (.bool false)), none⟩,
      ⟨some 19, .mov (.t 18), none⟩,
      ⟨some 20, .mov (.t 0), (some (19, true))⟩,
      ⟨some 21, .mov (.t 4), (some (19, true))⟩,
      ⟨some 22, .bin .sub (.t 21) (.c (.int .i64 1)), (some (19, true))⟩,
      ⟨some 23, .ixa 1 (.t 20) (.t 22), (some (19, true))⟩,
      ⟨some 24, .ld 1 false (.t 23), (some (19, true))⟩,
      ⟨some 25, .bin .neq (.t 24) (.c (.str [10])), (some (19, true))⟩,
      ⟨some 26, .pick (.t 19) (.t 25) (.c (.bool false)), none⟩])
    (.cond (.t 26) (.reg [⟨some 27, .call 75 [.t 3, .c (.str [32])], none⟩]) .skip))
    (.cut (.reg [⟨some 28, .mov (.t 5), none⟩,
      ⟨some 29, .call 75 [.t 3, .t 28], none⟩])))))
    (.reg [⟨some 30, .bin .add (.t 8) (.c (.int .i64 1)), none⟩,
      ⟨some 8, .mov (.t 30), none⟩]))))
def ir_chaseref1_JoinOf : IC :=
  (.seq (.reg [⟨some 2, .mov (.c (.str [])), none⟩])
    (.seq (.reg [⟨some 3, .alc 109 [.raw (.pointer none), .nl 1], none⟩])
    (.seq (.seq (.reg [⟨some 6, .mov (.t 0), none⟩,
      ⟨some 7, .len (.t 6), none⟩,
      ⟨some 8, .mov (.c (.int .i64 0)), none⟩])
    (.block 0 (.loop ir_chaseref1_JoinOf_L0)))
    (.seq (.reg [⟨some 31, .call 77 [.t 3], none⟩,
      ⟨some 2, .mov (.t 31), none⟩])
    .ret))))
def rs_chaseref1_JoinOf : List IRes := [.t 2]
theorem ck_chaseref1_JoinOf : chkF Tryz.prog Tryz.f107 ir_chaseref1_JoinOf rs_chaseref1_JoinOf 32 = true := by kernel_rfl

/-- The first k tokens put together. -/
def jnK (l : List (List UInt8)) : Nat → List UInt8
  | 0 => []
  | k + 1 => (jnK l k ++ if 0 < k ∧ l.getD k [] ≠ [10] ∧ l.getD (k - 1) [] ≠ [10] then [32] else []) ++ l.getD k []
def jnF (l : List (List UInt8)) : List UInt8 := jnK l l.length
theorem jnK_wgt (l : List (List UInt8)) : ∀ k, k ≤ l.length → (jnK l k).length ≤ wgt (l.take k)
  | 0, h => by simp [jnK, wgt]
  | k + 1, h => by
    have h1 := jnK_wgt l k (by omega)
    have h2 := wgt_stepS l k (by omega)
    simp only [jnK, List.length_append]
    split <;> simp only [List.length_cons, List.length_nil] <;> omega
theorem jnF_wgt (l : List (List UInt8)) : (jnF l).length ≤ wgt l := by
  have := jnK_wgt l l.length (Nat.le_refl _)
  rwa [List.take_length] at this
theorem sb_put {L : Objs} {k : Key} {i : Nat} {T e : TypeId} {s : List UInt8} (hki : k ≠ .l i) : SbAt (putSb L k i T e s) k i T e s := .inr ⟨by rw [putSb, look_putO, if_pos rfl], by rw [putSb, look_putO, if_neg (Ne.symm hki), look_updL, if_pos rfl]⟩
set_option maxHeartbeats 4000000 in
theorem NJoin_ok (l : List (List UInt8)) (hl : wgt l ≤ 1000000000) : PCall Tryz.prog E0 50 [.sl 1 (strE l)] (· = .str (jnF l)) := by
  have hll := wgt_len l
  refine pcallF mixed Tryz.func50 ck_near_Join ?_
  simp only [a0, l0, OS.ao, List.map_cons, List.map_nil, List.length_cons, List.length_nil, List.cons_append, List.nil_append, Nat.reduceSub, Nat.reduceAdd, List.replicate_succ, List.replicate_zero, ir_near_Join, rs_near_Join, ZZ, YY, Ze, ite_true, ite_false, forall_const, reduceCtorEq, Nat.reduceAdd, Nat.reduceMul, Nat.reduceLeDiff, Nat.reduceLT, Nat.reduceEqDiff]
  simp only [ZZ, YY, Ze, ite_true, ite_false, forall_const, reduceCtorEq, Nat.reduceAdd, Nat.reduceMul, Nat.reduceLeDiff, Nat.reduceLT, Nat.reduceEqDiff, strE_len]
  refine loop_re (fun m fr L => ∃ k, k ≤ l.length ∧ m = l.length - k ∧ fr = [.p (.sl 1 (strE l)), .any, .any, .adr (.l 3) 0, .any, .any, .p (.sl 1 (strE l)), .p (int (l.length : Nat)), .p (int (k : Nat)), .any, .any, .any, .any, .any, .any, .any, .any, .any, .any, .any, .any, .any, .any, .any, .any, .any, .any, .any, .any, .any, .any, .any] ∧ SbAt L (.l 3) 1000 tSb tU8 (jnK l k)) l.length [.p (.sl 1 (strE l)), .any, .any, .adr (.l 3) 0, .any, .any, .p (.sl 1 (strE l)), .p (int (l.length : Nat)), .p (int (0 : Nat)), .any, .any, .any, .any, .any, .any, .any, .any, .any, .any, .any, .any, .any, .any, .any, .any, .any, .any, .any, .any, .any, .any, .any] _ (re_le (by simp only [ZZ, YY, Ze, ite_true, ite_false, forall_const, reduceCtorEq, Nat.reduceAdd, Nat.reduceMul, Nat.reduceLeDiff, Nat.reduceLT, Nat.reduceEqDiff, strE_len]; try trivial)) ⟨0, by omega, by omega, rfl, .inl ⟨rfl, rfl⟩⟩ ?_
  rintro m fr L ⟨k, hk, rfl, rfl, hat⟩
  simp only [ir_near_Join_L0, ZZ, YY, Ze, ite_true, ite_false, forall_const, reduceCtorEq, Nat.reduceAdd, Nat.reduceMul, Nat.reduceLeDiff, Nat.reduceLT, Nat.reduceEqDiff]
  refine br ?_ ?_
  · intro h
    have hlt : k < l.length := by have := of_decide_eq_true h; omega
    obtain ⟨x, hx⟩ : ∃ x, l[k]? = some x := ⟨_, List.getElem?_eq_getElem hlt⟩
    obtain ⟨y, hy⟩ : ∃ y, l[k - 1]? = some y := ⟨_, List.getElem?_eq_getElem (by omega)⟩
    have hg : (strE l).getD k [] = [.str x] := strE_get hx
    have hg2 : (strE l).getD (k - 1) [] = [.str y] := strE_get hy
    have hxd : l.getD k [] = x := by simp [List.getD, hx]
    have hyd : l.getD (k - 1) [] = y := by simp [List.getD, hy]
    have tk : (((k : Nat) : Int) - 1).toNat = k - 1 := by omega
    have hj1 := jnK_wgt l k (by omega)
    have hj2 := jnK_wgt l (k + 1) (by omega)
    have hj3 := wgt_takeS l k
    have hj4 := wgt_takeS l (k + 1)
    have hst : jnK l (k + 1) = (jnK l k ++ if 0 < k ∧ x ≠ [10] ∧ y ≠ [10] then [32] else []) ++ x := by rw [jnK, hxd, hyd]
    generalize hs : jnK l k = s at *
    simp only [ZZ, YY, Ze, ite_true, ite_false, forall_const, reduceCtorEq, Nat.reduceAdd, Nat.reduceMul, Nat.reduceLeDiff, Nat.reduceLT, Nat.reduceEqDiff, hg, hg2, tk, strE_len]
    ((repeat' (with_reducible apply And.intro)) <;> try ((first | first | assumption | trivial | exact (fun hq => by rw [hq]; rfl) | exact i64_of (by omega) (by omega) | omega | (simp; done) | (simp; omega) | (intro hsc; have hs0 := hsc; (try have hsd := of_decide_eq_true hsc); (try simp only [Bool.not_eq_true', Bool.or_eq_false_iff, Bool.and_eq_true, Bool.or_eq_true, decide_eq_true_eq, decide_eq_false_iff_not] at hsc); (repeat' (with_reducible apply And.intro)) <;> (first | assumption | trivial | exact (fun hq => by rw [hq]; rfl) | exact i64_of (by omega) (by omega) | omega | (simp; done) | (simp; omega) | (intro hse; simp [hse, hs0]; done) | (intro hse; simp only [hse, hs0, Bool.true_and, Bool.and_true, Bool.not_false, Bool.not_true, Bool.and_self]; done))))))
    refine br ?_ ?_
    · intro hc
      have hc : 0 < k ∧ x ≠ [10] ∧ y ≠ [10] := by
        simp only [Bool.and_eq_true, decide_eq_true_eq, Bool.not_eq_true', decide_eq_false_iff_not] at hc
        exact ⟨by have := hc.1.1; omega, hc.1.2, hc.2⟩
      rw [if_pos hc] at hst
      rw [hst] at hj2
      simp only [List.length_append, List.length_cons, List.length_nil] at hj2
      simp only [ZZ, YY, Ze, ite_true, ite_false, forall_const, reduceCtorEq, Nat.reduceAdd, Nat.reduceMul, Nat.reduceLeDiff, Nat.reduceLT, Nat.reduceEqDiff]
      refine useBB 1000 s 32 hat (by simp) (by omega) ?_
      simp only [ZZ, YY, Ze, ite_true, ite_false, forall_const, reduceCtorEq, Nat.reduceAdd, Nat.reduceMul, Nat.reduceLeDiff, Nat.reduceLT, Nat.reduceEqDiff]
      refine cut_re _ _ ReOk.refl ?_
      simp only [ZZ, YY, Ze, ite_true, ite_false, forall_const, reduceCtorEq, Nat.reduceAdd, Nat.reduceMul, Nat.reduceLeDiff, Nat.reduceLT, Nat.reduceEqDiff]
      refine useBS 1000 (s ++ [32]) x (sb_put (by simp)) (by simp) (by simp; omega) ?_
      simp only [ZZ, YY, Ze, ite_true, ite_false, forall_const, reduceCtorEq, Nat.reduceAdd, Nat.reduceMul, Nat.reduceLeDiff, Nat.reduceLT, Nat.reduceEqDiff]
      ((repeat' (with_reducible apply And.intro)) <;> try ((first | first | assumption | trivial | exact (fun hq => by rw [hq]; rfl) | exact i64_of (by omega) (by omega) | omega | (simp; done) | (simp; omega) | (intro hsc; have hs0 := hsc; (try have hsd := of_decide_eq_true hsc); (try simp only [Bool.not_eq_true', Bool.or_eq_false_iff, Bool.and_eq_true, Bool.or_eq_true, decide_eq_true_eq, decide_eq_false_iff_not] at hsc); (repeat' (with_reducible apply And.intro)) <;> (first | assumption | trivial | exact (fun hq => by rw [hq]; rfl) | exact i64_of (by omega) (by omega) | omega | (simp; done) | (simp; omega) | (intro hse; simp [hse, hs0]; done) | (intro hse; simp only [hse, hs0, Bool.true_and, Bool.and_true, Bool.not_false, Bool.not_true, Bool.and_self]; done))))))
      refine end_re (l.length - (k + 1)) [.p (.sl 1 (strE l)), .any, .any, .adr (.l 3) 0, .any, .any, .p (.sl 1 (strE l)), .p (int (l.length : Nat)), .p (int (k + 1 : Nat)), .any, .any, .any, .any, .any, .any, .any, .any, .any, .any, .any, .any, .any, .any, .any, .any, .any, .any, .any, .any, .any, .any, .any] _ (by omega) (re_le (by simp only [ZZ, YY, Ze, ite_true, ite_false, forall_const, reduceCtorEq, Nat.reduceAdd, Nat.reduceMul, Nat.reduceLeDiff, Nat.reduceLT, Nat.reduceEqDiff, strE_len]; try trivial)) ⟨k + 1, by omega, rfl, rfl, by rw [hst]; exact sb_put (by simp)⟩
    · intro hc
      have hc : ¬ (0 < k ∧ x ≠ [10] ∧ y ≠ [10]) := by
        rintro ⟨h1, h2, h3⟩
        have h1 : decide ((0 : Int) < (k : Nat)) = true := decide_eq_true (by omega)
        simp [h1, h2, h3] at hc
        omega
      rw [if_neg hc, List.append_nil] at hst
      rw [hst] at hj2
      simp only [List.length_append] at hj2
      simp only [ZZ, YY, Ze, ite_true, ite_false, forall_const, reduceCtorEq, Nat.reduceAdd, Nat.reduceMul, Nat.reduceLeDiff, Nat.reduceLT, Nat.reduceEqDiff]
      refine cut_re _ _ ReOk.refl ?_
      simp only [ZZ, YY, Ze, ite_true, ite_false, forall_const, reduceCtorEq, Nat.reduceAdd, Nat.reduceMul, Nat.reduceLeDiff, Nat.reduceLT, Nat.reduceEqDiff]
      refine useBS 1000 s x hat (by simp) (by omega) ?_
      simp only [ZZ, YY, Ze, ite_true, ite_false, forall_const, reduceCtorEq, Nat.reduceAdd, Nat.reduceMul, Nat.reduceLeDiff, Nat.reduceLT, Nat.reduceEqDiff]
      ((repeat' (with_reducible apply And.intro)) <;> try ((first | first | assumption | trivial | exact (fun hq => by rw [hq]; rfl) | exact i64_of (by omega) (by omega) | omega | (simp; done) | (simp; omega) | (intro hsc; have hs0 := hsc; (try have hsd := of_decide_eq_true hsc); (try simp only [Bool.not_eq_true', Bool.or_eq_false_iff, Bool.and_eq_true, Bool.or_eq_true, decide_eq_true_eq, decide_eq_false_iff_not] at hsc); (repeat' (with_reducible apply And.intro)) <;> (first | assumption | trivial | exact (fun hq => by rw [hq]; rfl) | exact i64_of (by omega) (by omega) | omega | (simp; done) | (simp; omega) | (intro hse; simp [hse, hs0]; done) | (intro hse; simp only [hse, hs0, Bool.true_and, Bool.and_true, Bool.not_false, Bool.not_true, Bool.and_self]; done))))))
      refine end_re (l.length - (k + 1)) [.p (.sl 1 (strE l)), .any, .any, .adr (.l 3) 0, .any, .any, .p (.sl 1 (strE l)), .p (int (l.length : Nat)), .p (int (k + 1 : Nat)), .any, .any, .any, .any, .any, .any, .any, .any, .any, .any, .any, .any, .any, .any, .any, .any, .any, .any, .any, .any, .any, .any, .any] _ (by omega) (re_le (by simp only [ZZ, YY, Ze, ite_true, ite_false, forall_const, reduceCtorEq, Nat.reduceAdd, Nat.reduceMul, Nat.reduceLeDiff, Nat.reduceLT, Nat.reduceEqDiff, strE_len]; try trivial)) ⟨k + 1, by omega, rfl, rfl, by rw [hst]; exact sb_put (by simp)⟩
  · intro h
    have hge : k = l.length := by have := of_decide_eq_false h; omega
    subst hge
    simp only [ZZ, YY, Ze, ite_true, ite_false, forall_const, reduceCtorEq, Nat.reduceAdd, Nat.reduceMul, Nat.reduceLeDiff, Nat.reduceLT, Nat.reduceEqDiff]
    refine useBT 1000 _ hat (by simp) ?_
    simp only [ZZ, YY, Ze, ite_true, ite_false, forall_const, reduceCtorEq, Nat.reduceAdd, Nat.reduceMul, Nat.reduceLeDiff, Nat.reduceLT, Nat.reduceEqDiff]
    rfl
set_option maxHeartbeats 4000000 in
theorem JoinOf_ok (l : List (List UInt8)) (hl : wgt l ≤ 1000000000) : PCall Tryz.prog E0 107 [.sl 1 (strE l)] (· = .str (jnF l)) := by
  have hll := wgt_len l
  refine pcallF mixed Tryz.func107 ck_chaseref1_JoinOf ?_
  simp only [a0, l0, OS.ao, List.map_cons, List.map_nil, List.length_cons, List.length_nil, List.cons_append, List.nil_append, Nat.reduceSub, Nat.reduceAdd, List.replicate_succ, List.replicate_zero, ir_chaseref1_JoinOf, rs_chaseref1_JoinOf, ZZ, YY, Ze, ite_true, ite_false, forall_const, reduceCtorEq, Nat.reduceAdd, Nat.reduceMul, Nat.reduceLeDiff, Nat.reduceLT, Nat.reduceEqDiff]
  simp only [ZZ, YY, Ze, ite_true, ite_false, forall_const, reduceCtorEq, Nat.reduceAdd, Nat.reduceMul, Nat.reduceLeDiff, Nat.reduceLT, Nat.reduceEqDiff, strE_len]
  refine loop_re (fun m fr L => ∃ k, k ≤ l.length ∧ m = l.length - k ∧ fr = [.p (.sl 1 (strE l)), .any, .any, .adr (.l 3) 0, .any, .any, .p (.sl 1 (strE l)), .p (int (l.length : Nat)), .p (int (k : Nat)), .any, .any, .any, .any, .any, .any, .any, .any, .any, .any, .any, .any, .any, .any, .any, .any, .any, .any, .any, .any, .any, .any, .any] ∧ SbAt L (.l 3) 1000 tSb tU8 (jnK l k)) l.length [.p (.sl 1 (strE l)), .any, .any, .adr (.l 3) 0, .any, .any, .p (.sl 1 (strE l)), .p (int (l.length : Nat)), .p (int (0 : Nat)), .any, .any, .any, .any, .any, .any, .any, .any, .any, .any, .any, .any, .any, .any, .any, .any, .any, .any, .any, .any, .any, .any, .any] _ (re_le (by simp only [ZZ, YY, Ze, ite_true, ite_false, forall_const, reduceCtorEq, Nat.reduceAdd, Nat.reduceMul, Nat.reduceLeDiff, Nat.reduceLT, Nat.reduceEqDiff, strE_len]; try trivial)) ⟨0, by omega, by omega, rfl, .inl ⟨rfl, rfl⟩⟩ ?_
  rintro m fr L ⟨k, hk, rfl, rfl, hat⟩
  simp only [ir_chaseref1_JoinOf_L0, ZZ, YY, Ze, ite_true, ite_false, forall_const, reduceCtorEq, Nat.reduceAdd, Nat.reduceMul, Nat.reduceLeDiff, Nat.reduceLT, Nat.reduceEqDiff]
  refine br ?_ ?_
  · intro h
    have hlt : k < l.length := by have := of_decide_eq_true h; omega
    obtain ⟨x, hx⟩ : ∃ x, l[k]? = some x := ⟨_, List.getElem?_eq_getElem hlt⟩
    obtain ⟨y, hy⟩ : ∃ y, l[k - 1]? = some y := ⟨_, List.getElem?_eq_getElem (by omega)⟩
    have hg : (strE l).getD k [] = [.str x] := strE_get hx
    have hg2 : (strE l).getD (k - 1) [] = [.str y] := strE_get hy
    have hxd : l.getD k [] = x := by simp [List.getD, hx]
    have hyd : l.getD (k - 1) [] = y := by simp [List.getD, hy]
    have tk : (((k : Nat) : Int) - 1).toNat = k - 1 := by omega
    have hj1 := jnK_wgt l k (by omega)
    have hj2 := jnK_wgt l (k + 1) (by omega)
    have hj3 := wgt_takeS l k
    have hj4 := wgt_takeS l (k + 1)
    have hst : jnK l (k + 1) = (jnK l k ++ if 0 < k ∧ x ≠ [10] ∧ y ≠ [10] then [32] else []) ++ x := by rw [jnK, hxd, hyd]
    generalize hs : jnK l k = s at *
    simp only [ZZ, YY, Ze, ite_true, ite_false, forall_const, reduceCtorEq, Nat.reduceAdd, Nat.reduceMul, Nat.reduceLeDiff, Nat.reduceLT, Nat.reduceEqDiff, hg, hg2, tk, strE_len]
    ((repeat' (with_reducible apply And.intro)) <;> try ((first | first | assumption | trivial | exact (fun hq => by rw [hq]; rfl) | exact i64_of (by omega) (by omega) | omega | (simp; done) | (simp; omega) | (intro hsc; have hs0 := hsc; (try have hsd := of_decide_eq_true hsc); (try simp only [Bool.not_eq_true', Bool.or_eq_false_iff, Bool.and_eq_true, Bool.or_eq_true, decide_eq_true_eq, decide_eq_false_iff_not] at hsc); (repeat' (with_reducible apply And.intro)) <;> (first | assumption | trivial | exact (fun hq => by rw [hq]; rfl) | exact i64_of (by omega) (by omega) | omega | (simp; done) | (simp; omega) | (intro hse; simp [hse, hs0]; done) | (intro hse; simp only [hse, hs0, Bool.true_and, Bool.and_true, Bool.not_false, Bool.not_true, Bool.and_self]; done))))))
    refine br ?_ ?_
    · intro hc
      have hc : 0 < k ∧ x ≠ [10] ∧ y ≠ [10] := by
        simp only [Bool.and_eq_true, decide_eq_true_eq, Bool.not_eq_true', decide_eq_false_iff_not] at hc
        exact ⟨by have := hc.1.1; omega, hc.1.2, hc.2⟩
      rw [if_pos hc] at hst
      rw [hst] at hj2
      simp only [List.length_append, List.length_cons, List.length_nil] at hj2
      simp only [ZZ, YY, Ze, ite_true, ite_false, forall_const, reduceCtorEq, Nat.reduceAdd, Nat.reduceMul, Nat.reduceLeDiff, Nat.reduceLT, Nat.reduceEqDiff]
      refine useBS 1000 s [32] hat (by simp) (by simp; omega) ?_
      simp only [ZZ, YY, Ze, ite_true, ite_false, forall_const, reduceCtorEq, Nat.reduceAdd, Nat.reduceMul, Nat.reduceLeDiff, Nat.reduceLT, Nat.reduceEqDiff]
      refine cut_re _ _ ReOk.refl ?_
      simp only [ZZ, YY, Ze, ite_true, ite_false, forall_const, reduceCtorEq, Nat.reduceAdd, Nat.reduceMul, Nat.reduceLeDiff, Nat.reduceLT, Nat.reduceEqDiff]
      refine useBS 1000 (s ++ [32]) x (sb_put (by simp)) (by simp) (by simp; omega) ?_
      simp only [ZZ, YY, Ze, ite_true, ite_false, forall_const, reduceCtorEq, Nat.reduceAdd, Nat.reduceMul, Nat.reduceLeDiff, Nat.reduceLT, Nat.reduceEqDiff]
      ((repeat' (with_reducible apply And.intro)) <;> try ((first | first | assumption | trivial | exact (fun hq => by rw [hq]; rfl) | exact i64_of (by omega) (by omega) | omega | (simp; done) | (simp; omega) | (intro hsc; have hs0 := hsc; (try have hsd := of_decide_eq_true hsc); (try simp only [Bool.not_eq_true', Bool.or_eq_false_iff, Bool.and_eq_true, Bool.or_eq_true, decide_eq_true_eq, decide_eq_false_iff_not] at hsc); (repeat' (with_reducible apply And.intro)) <;> (first | assumption | trivial | exact (fun hq => by rw [hq]; rfl) | exact i64_of (by omega) (by omega) | omega | (simp; done) | (simp; omega) | (intro hse; simp [hse, hs0]; done) | (intro hse; simp only [hse, hs0, Bool.true_and, Bool.and_true, Bool.not_false, Bool.not_true, Bool.and_self]; done))))))
      refine end_re (l.length - (k + 1)) [.p (.sl 1 (strE l)), .any, .any, .adr (.l 3) 0, .any, .any, .p (.sl 1 (strE l)), .p (int (l.length : Nat)), .p (int (k + 1 : Nat)), .any, .any, .any, .any, .any, .any, .any, .any, .any, .any, .any, .any, .any, .any, .any, .any, .any, .any, .any, .any, .any, .any, .any] _ (by omega) (re_le (by simp only [ZZ, YY, Ze, ite_true, ite_false, forall_const, reduceCtorEq, Nat.reduceAdd, Nat.reduceMul, Nat.reduceLeDiff, Nat.reduceLT, Nat.reduceEqDiff, strE_len]; try trivial)) ⟨k + 1, by omega, rfl, rfl, by rw [hst]; exact sb_put (by simp)⟩
    · intro hc
      have hc : ¬ (0 < k ∧ x ≠ [10] ∧ y ≠ [10]) := by
        rintro ⟨h1, h2, h3⟩
        have h1 : decide ((0 : Int) < (k : Nat)) = true := decide_eq_true (by omega)
        simp [h1, h2, h3] at hc
        omega
      rw [if_neg hc, List.append_nil] at hst
      rw [hst] at hj2
      simp only [List.length_append] at hj2
      simp only [ZZ, YY, Ze, ite_true, ite_false, forall_const, reduceCtorEq, Nat.reduceAdd, Nat.reduceMul, Nat.reduceLeDiff, Nat.reduceLT, Nat.reduceEqDiff]
      refine cut_re _ _ ReOk.refl ?_
      simp only [ZZ, YY, Ze, ite_true, ite_false, forall_const, reduceCtorEq, Nat.reduceAdd, Nat.reduceMul, Nat.reduceLeDiff, Nat.reduceLT, Nat.reduceEqDiff]
      refine useBS 1000 s x hat (by simp) (by omega) ?_
      simp only [ZZ, YY, Ze, ite_true, ite_false, forall_const, reduceCtorEq, Nat.reduceAdd, Nat.reduceMul, Nat.reduceLeDiff, Nat.reduceLT, Nat.reduceEqDiff]
      ((repeat' (with_reducible apply And.intro)) <;> try ((first | first | assumption | trivial | exact (fun hq => by rw [hq]; rfl) | exact i64_of (by omega) (by omega) | omega | (simp; done) | (simp; omega) | (intro hsc; have hs0 := hsc; (try have hsd := of_decide_eq_true hsc); (try simp only [Bool.not_eq_true', Bool.or_eq_false_iff, Bool.and_eq_true, Bool.or_eq_true, decide_eq_true_eq, decide_eq_false_iff_not] at hsc); (repeat' (with_reducible apply And.intro)) <;> (first | assumption | trivial | exact (fun hq => by rw [hq]; rfl) | exact i64_of (by omega) (by omega) | omega | (simp; done) | (simp; omega) | (intro hse; simp [hse, hs0]; done) | (intro hse; simp only [hse, hs0, Bool.true_and, Bool.and_true, Bool.not_false, Bool.not_true, Bool.and_self]; done))))))
      refine end_re (l.length - (k + 1)) [.p (.sl 1 (strE l)), .any, .any, .adr (.l 3) 0, .any, .any, .p (.sl 1 (strE l)), .p (int (l.length : Nat)), .p (int (k + 1 : Nat)), .any, .any, .any, .any, .any, .any, .any, .any, .any, .any, .any, .any, .any, .any, .any, .any, .any, .any, .any, .any, .any, .any, .any] _ (by omega) (re_le (by simp only [ZZ, YY, Ze, ite_true, ite_false, forall_const, reduceCtorEq, Nat.reduceAdd, Nat.reduceMul, Nat.reduceLeDiff, Nat.reduceLT, Nat.reduceEqDiff, strE_len]; try trivial)) ⟨k + 1, by omega, rfl, rfl, by rw [hst]; exact sb_put (by simp)⟩
  · intro h
    have hge : k = l.length := by have := of_decide_eq_false h; omega
    subst hge
    simp only [ZZ, YY, Ze, ite_true, ite_false, forall_const, reduceCtorEq, Nat.reduceAdd, Nat.reduceMul, Nat.reduceLeDiff, Nat.reduceLT, Nat.reduceEqDiff]
    refine useBT 1000 _ hat (by simp) ?_
    simp only [ZZ, YY, Ze, ite_true, ite_false, forall_const, reduceCtorEq, Nat.reduceAdd, Nat.reduceMul, Nat.reduceLeDiff, Nat.reduceLT, Nat.reduceEqDiff]
    rfl
end Go.Proofs.YthfpehmbellmcaaGreatDoor

/- slices.Clone, slices.Reverse at the circle's parts. -/
namespace Go.Proofs.YthfpehmbellmcaaGreatDoor
open Go.RowKit
set_option linter.unusedVariables false
set_option linter.unusedSimpArgs false
set_option linter.defProp false

/- slices.Clone[[]string,string] -/
def ir_slices_Clone_string_string : IC :=
  (.seq (.reg [⟨some 2, .nilr 9 1, none⟩])
    (.seq (.seq (.reg [⟨some 3, .mov (.t 0), none⟩,
      ⟨some 4, .isn (.t 3), none⟩])
    (.cond (.t 4) (.seq (.reg [⟨some 2, .nilr 9 1, none⟩])
    .ret) .skip))
    (.seq (.reg [⟨some 5, .bsr 9 1 [], none⟩,
      ⟨some 6, .mov (.t 0), none⟩,
      ⟨some 7, .app 9 1 16 (.t 5) (.t 6), none⟩,
      ⟨some 2, .mov (.t 7), none⟩])
    .ret)))
def rs_slices_Clone_string_string : List IRes := [.t 2]
theorem ck_slices_Clone_string_string : chkF Tryz.prog Tryz.f37 ir_slices_Clone_string_string rs_slices_Clone_string_string 8 = true := by kernel_rfl


section
variable {E : Envt}
abbrev tStrG : Nat := 9
theorem CloneS_ok (es : List (List PV)) (hn : es.length ≤ 1000000) : FCall Tryz.prog E 37 [.sl 1 es] tStrG 1 (· = es) := by
  unfold FCall
  refine gcallR mixed Tryz.func37 ck_slices_Clone_string_string ?_
  simp only [a0, l0, OS.ao, List.map_cons, List.map_nil, List.length_cons, List.length_nil, List.cons_append, List.nil_append, Nat.reduceSub, Nat.reduceAdd, List.replicate_succ, List.replicate_zero, ir_slices_Clone_string_string, rs_slices_Clone_string_string, ZZ, YY, Ze, ite_true, ite_false, forall_const, reduceCtorEq, Nat.reduceAdd, Nat.reduceMul, Nat.reduceLeDiff, Nat.reduceLT, Nat.reduceEqDiff]
  intro b hb
  refine br ?_ ?_
  · intro h
    have := hb h
    simp only [ZZ, YY, Ze, ite_true, ite_false, forall_const, reduceCtorEq, Nat.reduceAdd, Nat.reduceMul, Nat.reduceLeDiff, Nat.reduceLT, Nat.reduceEqDiff]
    exact fin_F 2 [] rfl rfl this.symm
  · intro h
    simp only [ZZ, YY, Ze, ite_true, ite_false, forall_const, reduceCtorEq, Nat.reduceAdd, Nat.reduceMul, Nat.reduceLeDiff, Nat.reduceLT, Nat.reduceEqDiff]
    exact ⟨by omega, fin_F 5 es rfl rfl rfl⟩
end
end Go.Proofs.YthfpehmbellmcaaGreatDoor

/- Tokens of right strings, distances, changes. -/
namespace Go.Proofs.YthfpehmbellmcaaGreatDoor
open Go.RowKit
set_option linter.unusedVariables false
set_option linter.unusedSimpArgs false
set_option linter.defProp false

/- paperchase/near.large -/
def ir_near_large : IC :=
  (.seq (.reg [⟨some 2, .mov (.c (.int .i64 0)), none⟩])
    (.seq (.reg [⟨some 3, .mov (.t 0), none⟩,
      ⟨some 4, .sln (.t 3), none⟩,
      ⟨some 5, .bin .gtr (.t 4) (.c (.int .i64 20000)), none⟩,
      ⟨some 6, .call 57 [.t 5, .c (.int .i64 2)], none⟩,
      ⟨some 2, .mov (.t 6), none⟩])
    .ret))
def rs_near_large : List IRes := [.t 2]
theorem ck_near_large : chkF Tryz.prog Tryz.f67 ir_near_large rs_near_large 7 = true := by kernel_rfl
/- paperchase/near.tokens -/
def ir_near_tokens : IC :=
  (.seq (.reg [⟨some 2, .mov (.c (.nl 1)), none⟩,
      ⟨some 3, .mov (.c (.int .i64 0)), none⟩])
    (.seq (.seq (.reg [⟨some 6, .mov (.t 0), none⟩,
      ⟨some 7, .call 67 [.t 6], none⟩,
      ⟨some 4, .mov (.t 7), none⟩])
    (.seq (.reg [⟨some 8, .mov (.t 4), none⟩,
      ⟨some 9, .bin .neq (.t 8) (.c (.int .i64 0)), none⟩])
    (.cond (.t 9) (.seq (.reg [⟨some 10, .mov (.t 4), none⟩,
      ⟨some 2, .mov (.c (.nl 1)), none⟩,
      ⟨some 3, .mov (.t 10), none⟩])
    .ret) .skip)))
    (.seq (.reg [⟨some 11, .mov (.t 0), none⟩,
      ⟨some 12, .call 143 [.t 11], none⟩,
      ⟨some 5, .mov (.t 12), none⟩])
    (.seq (.reg [⟨some 13, .mov (.t 5), none⟩,
      ⟨some 14, .mov (.t 5), none⟩,
      ⟨some 15, .len (.t 14), none⟩,
      ⟨some 16, .bin .gtr (.t 15) (.c (.int .i64 2000)), none⟩,
      ⟨some 17, .call 57 [.t 16, .c (.int .i64 2)], none⟩,
      ⟨some 2, .mov (.t 13), none⟩,
      ⟨some 3, .mov (.t 17), none⟩])
    .ret))))
def rs_near_tokens : List IRes := [.t 2, .t 3]
theorem ck_near_tokens : chkF Tryz.prog Tryz.f100 ir_near_tokens rs_near_tokens 18 = true := by kernel_rfl
/- paperchase/chaseref1.TokensFault -/
def ir_chaseref1_TokensFault_L0 : IC :=
  (.seq (.reg [⟨some 8, .bin .lss (.t 7) (.t 6), none⟩])
    (.seq (.cond (.t 8) .skip (.exit 0))
    (.seq (.block 1 (.seq (.reg [⟨some 9, .ixa 1 (.t 5) (.t 7), none⟩,
      ⟨some 10, .ld 1 false (.t 9), none⟩,
      ⟨some 4, .mov (.t 10), none⟩])
    (.seq (.reg [⟨some 11, .mov (.t 4), none⟩,
      ⟨some 12, .sln (.t 11), none⟩,
      ⟨some 13, .bin .gtr (.t 12) (.c (.int .i64 20000)), none⟩,
      ⟨some 14, .mov (.t 13), none⟩,
      ⟨some 15, .mov (.t 4), (some (14, false))⟩,
      ⟨some 16, .call 98 [.t 15], (some (14, false))⟩,
      ⟨some 17, .len (.t 16), (some (14, false))⟩,
      ⟨some 18, .bin .gtr (.t 17) (.c (.int .i64 2000)), (some (14, false))⟩,
      ⟨some 19, .pick (.t 14) (.c (.bool true)) (.t 18), none⟩])
    (.cond (.t 19) (.seq (.reg [⟨some 2, .mov (.c (.int .i64 2)), none⟩])
    .ret) .skip))))
    (.reg [⟨some 20, .bin .add (.t 7) (.c (.int .i64 1)), none⟩,
      ⟨some 7, .mov (.t 20), none⟩]))))
def ir_chaseref1_TokensFault : IC :=
  (.seq (.reg [⟨some 2, .mov (.c (.int .i64 0)), none⟩])
    (.seq (.seq (.reg [⟨some 5, .mov (.t 0), none⟩,
      ⟨some 6, .len (.t 5), none⟩,
      ⟨some 7, .mov (.c (.int .i64 0)), none⟩])
    (.block 0 (.loop ir_chaseref1_TokensFault_L0)))
    (.seq (.reg [⟨some 2, .mov (.c (.int .i64 0)), none⟩])
    .ret)))
def rs_chaseref1_TokensFault : List IRes := [.t 2]
theorem ck_chaseref1_TokensFault : chkF Tryz.prog Tryz.f105 ir_chaseref1_TokensFault rs_chaseref1_TokensFault 21 = true := by kernel_rfl

theorem nlarge_ok {E : Envt} (s : List UInt8) (hs : s.length ≤ 1000000000) : PCall Tryz.prog E 67 [.str s] (· = int (if 20000 < s.length then 2 else 0)) := by
  refine pcallF mixed Tryz.func67 ck_near_large ?_
  simp only [a0, l0, OS.ao, List.map_cons, List.map_nil, List.length_cons, List.length_nil, List.cons_append, List.nil_append, Nat.reduceSub, Nat.reduceAdd, List.replicate_succ, List.replicate_zero, ir_near_large, rs_near_large, ZZ, YY, Ze, ite_true, ite_false, forall_const, reduceCtorEq, Nat.reduceAdd, Nat.reduceMul, Nat.reduceLeDiff, Nat.reduceLT, Nat.reduceEqDiff]
  refine use1 (When_ok _ 2) rfl (.inl rfl) ?_
  simp only [ZZ, YY, Ze, ite_true, ite_false, forall_const, reduceCtorEq, Nat.reduceAdd, Nat.reduceMul, Nat.reduceLeDiff, Nat.reduceLT, Nat.reduceEqDiff]
  by_cases h : 20000 < s.length
  · have hd : decide ((20000 : Int) < (s.length : Nat)) = true := decide_eq_true (by omega)
    rw [hd, if_pos h]; rfl
  · have hd : decide ((20000 : Int) < (s.length : Nat)) = false := decide_eq_false (by omega)
    rw [hd, if_neg h]; rfl
def badT (s : List UInt8) : Bool := decide (20000 < s.length) || decide (2000 < (tokF s).length)
def eTok (s : List UInt8) : Int := if badT s then 2 else 0
theorem eTok_zero {s : List UInt8} (h : eTok s = 0) : s.length ≤ 20000 ∧ (tokF s).length ≤ 2000 := by
  have hb : badT s = false := by
    cases hb : badT s
    · rfl
    · rw [eTok, hb] at h; cases h
  unfold badT at hb
  simp only [Bool.or_eq_false_iff, decide_eq_false_iff_not] at hb
  omega
theorem tokens_ok (s : List UInt8) (hs : s.length ≤ 1000000000) : PCall Tryz.prog E0 100 [.str s] (fun r => ∃ X, r = .tup [.sl 1 (strE X), int (eTok s)] ∧ (eTok s = 0 → X = tokF s)) := by
  refine pcallF mixed Tryz.func100 ck_near_tokens ?_
  simp only [a0, l0, OS.ao, List.map_cons, List.map_nil, List.length_cons, List.length_nil, List.cons_append, List.nil_append, Nat.reduceSub, Nat.reduceAdd, List.replicate_succ, List.replicate_zero, ir_near_tokens, rs_near_tokens, ZZ, YY, Ze, ite_true, ite_false, forall_const, reduceCtorEq, Nat.reduceAdd, Nat.reduceMul, Nat.reduceLeDiff, Nat.reduceLT, Nat.reduceEqDiff]
  refine use1 (nlarge_ok s hs) rfl (.inl rfl) ?_
  by_cases h : 20000 < s.length
  · rw [if_pos h]
    have he : eTok s = 2 := by simp [eTok, badT, h]
    have hd : decide ((2 : Int) = 0) = false := by decide
    simp only [ZZ, YY, Ze, ite_true, ite_false, forall_const, reduceCtorEq, Nat.reduceAdd, Nat.reduceMul, Nat.reduceLeDiff, Nat.reduceLT, Nat.reduceEqDiff, hd]
    exact ⟨[], by rw [he]; rfl, fun h => by rw [he] at h; cases h⟩
  · rw [if_neg h]
    simp only [ZZ, YY, Ze, ite_true, ite_false, forall_const, reduceCtorEq, Nat.reduceAdd, Nat.reduceMul, Nat.reduceLeDiff, Nat.reduceLT, Nat.reduceEqDiff, decide_true]
    refine use1 (plainR (Tokens_ok s hs)) rfl (.inl rfl) ?_
    simp only [ZZ, YY, Ze, ite_true, ite_false, forall_const, reduceCtorEq, Nat.reduceAdd, Nat.reduceMul, Nat.reduceLeDiff, Nat.reduceLT, Nat.reduceEqDiff, strE_len]
    refine use1 (When_ok _ 2) rfl (.inl rfl) ?_
    simp only [ZZ, YY, Ze, ite_true, ite_false, forall_const, reduceCtorEq, Nat.reduceAdd, Nat.reduceMul, Nat.reduceLeDiff, Nat.reduceLT, Nat.reduceEqDiff]
    have he : whenE (decide ((2000 : Int) < ((tokF s).length : Nat))) 2 = eTok s := by
      unfold eTok badT
      by_cases h2 : 2000 < (tokF s).length
      · have hd : decide ((2000 : Int) < ((tokF s).length : Nat)) = true := decide_eq_true (by omega)
        rw [hd, if_pos (by simp [h2])]; rfl
      · have hd : decide ((2000 : Int) < ((tokF s).length : Nat)) = false := decide_eq_false (by omega)
        rw [hd, if_neg (by simp [h2, h])]; rfl
    rw [he]
    exact ⟨tokF s, rfl, fun _ => rfl⟩
theorem TokensFault_ok (l : List (List UInt8)) (hl : l.length ≤ 1000000) (hb : ∀ s ∈ l, s.length ≤ 1000000000) : PCall Tryz.prog E0 105 [.sl 1 (strE l)] (· = int (if l.any badT then 2 else 0)) := by
  refine pcallF mixed Tryz.func105 ck_chaseref1_TokensFault ?_
  simp only [a0, l0, OS.ao, List.map_cons, List.map_nil, List.length_cons, List.length_nil, List.cons_append, List.nil_append, Nat.reduceSub, Nat.reduceAdd, List.replicate_succ, List.replicate_zero, ir_chaseref1_TokensFault, rs_chaseref1_TokensFault, ZZ, YY, Ze, ite_true, ite_false, forall_const, reduceCtorEq, Nat.reduceAdd, Nat.reduceMul, Nat.reduceLeDiff, Nat.reduceLT, Nat.reduceEqDiff]
  simp only [ZZ, YY, Ze, ite_true, ite_false, forall_const, reduceCtorEq, Nat.reduceAdd, Nat.reduceMul, Nat.reduceLeDiff, Nat.reduceLT, Nat.reduceEqDiff, strE_len]
  refine loop_intro (fun n fr L => ∃ (k : Nat), k ≤ l.length ∧ n = l.length - k ∧ (l.any badT = (l.drop k).any badT) ∧ fr = [.any, .any, .any, .any, .any, .p (.sl 1 (strE l)), .p (int (l.length : Nat)), .p (int (k : Nat)), .any, .any, .any, .any, .any, .any, .any, .any, .any, .any, .any, .any, .any] ∧ L = []) (l.length) [.any, .any, .any, .any, .any, .p (.sl 1 (strE l)), .p (int (l.length : Nat)), .p (int (0 : Nat)), .any, .any, .any, .any, .any, .any, .any, .any, .any, .any, .any, .any, .any] [] (by simp only [ZZ, YY, Ze, ite_true, ite_false, forall_const, reduceCtorEq, Nat.reduceAdd, Nat.reduceMul, Nat.reduceLeDiff, Nat.reduceLT, Nat.reduceEqDiff, strE_len]; try trivial) (by (simp only [ZZ, YY, Ze, ite_true, ite_false, forall_const, reduceCtorEq, Nat.reduceAdd, Nat.reduceMul, Nat.reduceLeDiff, Nat.reduceLT, Nat.reduceEqDiff]; try trivial)) ⟨0, by omega, by omega, by simp, rfl, rfl⟩ ?_
  rintro n fr L ⟨k, hk, rfl, hf, rfl, rfl⟩
  simp only [ir_chaseref1_TokensFault_L0, ZZ, YY, Ze, ite_true, ite_false, forall_const, reduceCtorEq, Nat.reduceAdd, Nat.reduceMul, Nat.reduceLeDiff, Nat.reduceLT, Nat.reduceEqDiff]
  refine br ?_ ?_
  · intro h
    have hlt : k < l.length := by have := of_decide_eq_true h; omega
    obtain ⟨s, hs⟩ : ∃ s, l[k]? = some s := ⟨_, List.getElem?_eq_getElem hlt⟩
    have hg : (strE l).getD k [] = [.str s] := strE_get hs
    have hsb := hb s (List.mem_of_getElem? hs)
    have hd := drop_at hs
    rw [hd, List.any_cons] at hf
    simp only [ZZ, YY, Ze, ite_true, ite_false, forall_const, reduceCtorEq, Nat.reduceAdd, Nat.reduceMul, Nat.reduceLeDiff, Nat.reduceLT, Nat.reduceEqDiff, hg, strE_len]
    ((repeat' (with_reducible apply And.intro)) <;> try ((first | first | assumption | trivial | exact (fun hq => by rw [hq]; rfl) | exact i64_of (by omega) (by omega) | omega | (simp; done) | (simp; omega) | (intro hsc; have hs0 := hsc; (try have hsd := of_decide_eq_true hsc); (try simp only [Bool.not_eq_true', Bool.or_eq_false_iff, Bool.and_eq_true, Bool.or_eq_true, decide_eq_true_eq, decide_eq_false_iff_not] at hsc); (repeat' (with_reducible apply And.intro)) <;> (first | assumption | trivial | exact (fun hq => by rw [hq]; rfl) | exact i64_of (by omega) (by omega) | omega | (simp; done) | (simp; omega) | (intro hse; simp [hse, hs0]; done) | (intro hse; simp only [hse, hs0, Bool.true_and, Bool.and_true, Bool.not_false, Bool.not_true, Bool.and_self]; done))))))
    refine useG (fun _ => plainR (TokensOf_ok s hsb)) rfl (.inl rfl) ?_
    simp only [ZZ, YY, Ze, ite_true, ite_false, forall_const, reduceCtorEq, Nat.reduceAdd, Nat.reduceMul, Nat.reduceLeDiff, Nat.reduceLT, Nat.reduceEqDiff, strE_len]
    refine ⟨fun h => by rw [h]; rfl, ?_⟩
    refine br ?_ ?_
    · intro hc
      have hc : badT s = true := by
        unfold badT
        simp only [Bool.or_eq_true, decide_eq_true_eq] at hc ⊢
        omega
      simp only [ZZ, YY, Ze, ite_true, ite_false, forall_const, reduceCtorEq, Nat.reduceAdd, Nat.reduceMul, Nat.reduceLeDiff, Nat.reduceLT, Nat.reduceEqDiff]
      rw [hf, hc]
      rfl
    · intro hc
      have hc : badT s = false := by
        unfold badT
        simp only [Bool.or_eq_false_iff, decide_eq_false_iff_not] at hc ⊢
        omega
      rw [hc, Bool.false_or] at hf
      simp only [ZZ, YY, Ze, ite_true, ite_false, forall_const, reduceCtorEq, Nat.reduceAdd, Nat.reduceMul, Nat.reduceLeDiff, Nat.reduceLT, Nat.reduceEqDiff]
      ((repeat' (with_reducible apply And.intro)) <;> try ((first | first | assumption | trivial | exact (fun hq => by rw [hq]; rfl) | exact i64_of (by omega) (by omega) | omega | (simp; done) | (simp; omega) | (intro hsc; have hs0 := hsc; (try have hsd := of_decide_eq_true hsc); (try simp only [Bool.not_eq_true', Bool.or_eq_false_iff, Bool.and_eq_true, Bool.or_eq_true, decide_eq_true_eq, decide_eq_false_iff_not] at hsc); (repeat' (with_reducible apply And.intro)) <;> (first | assumption | trivial | exact (fun hq => by rw [hq]; rfl) | exact i64_of (by omega) (by omega) | omega | (simp; done) | (simp; omega) | (intro hse; simp [hse, hs0]; done) | (intro hse; simp only [hse, hs0, Bool.true_and, Bool.and_true, Bool.not_false, Bool.not_true, Bool.and_self]; done))))))
      refine end_round (l.length - (k + 1)) [.any, .any, .any, .any, .any, .p (.sl 1 (strE l)), .p (int (l.length : Nat)), .p (int ((k + 1) : Nat)), .any, .any, .any, .any, .any, .any, .any, .any, .any, .any, .any, .any, .any] [] (by omega) (by (simp only [ZZ, YY, Ze, ite_true, ite_false, forall_const, reduceCtorEq, Nat.reduceAdd, Nat.reduceMul, Nat.reduceLeDiff, Nat.reduceLT, Nat.reduceEqDiff]; try trivial)) (by (simp only [ZZ, YY, Ze, ite_true, ite_false, forall_const, reduceCtorEq, Nat.reduceAdd, Nat.reduceMul, Nat.reduceLeDiff, Nat.reduceLT, Nat.reduceEqDiff]; try trivial)) ⟨k + 1, by omega, rfl, hf, rfl, rfl⟩
  · intro h
    have hge : k = l.length := by have := of_decide_eq_false h; omega
    subst hge
    simp only [ZZ, YY, Ze, ite_true, ite_false, forall_const, reduceCtorEq, Nat.reduceAdd, Nat.reduceMul, Nat.reduceLeDiff, Nat.reduceLT, Nat.reduceEqDiff]
    rw [hf, List.drop_length]
    rfl
end Go.Proofs.YthfpehmbellmcaaGreatDoor

/- Distances and changes, on both sides. -/
namespace Go.Proofs.YthfpehmbellmcaaGreatDoor
open Go.RowKit
set_option linter.unusedVariables false
set_option linter.unusedSimpArgs false
set_option linter.defProp false

/- paperchase/chaseref1.DifferOf -/
def ir_chaseref1_DifferOf_L0 : IC :=
  (.seq (.reg [⟨some 28, .bin .lss (.t 27) (.t 26), none⟩])
    (.seq (.cond (.t 28) .skip (.exit 0))
    (.seq (.block 1 (.seq (.reg [⟨some 29, .ixa 2 (.t 25) (.t 27), none⟩,
      ⟨some 30, .ld 2 true (.t 29), none⟩,
      ⟨some 11, .alc 133 [.int .i64 0, .int .i64 0], none⟩,
      ⟨none, .st 2 (.t 11) (.t 30), none⟩])
    (.seq (.seq (.reg [⟨some 31, .fla 0 (.t 11), none⟩,
      ⟨some 32, .ld 1 false (.t 31), none⟩,
      ⟨some 33, .mov (.t 8), none⟩,
      ⟨some 34, .bin .gtr (.t 32) (.t 33), none⟩,
      ⟨some 35, .mov (.t 34), none⟩,
      ⟨some 36, .fla 1 (.t 11), (some (35, false))⟩,
      ⟨some 37, .ld 1 false (.t 36), (some (35, false))⟩,
      ⟨some 38, .mov (.t 9), (some (35, false))⟩,
      ⟨some 39, .bin .gtr (.t 37) (.t 38), (some (35, false))⟩,
      ⟨some 40, .pick (.t 35) (.c (.bool true)) (.t 39), none⟩])
    (.cond (.t 40) (.drg [⟨none, .fz (.t 48), none⟩,
      ⟨none, .fz (.t 54), none⟩,
      ⟨some 41, .mov (.t 7), none⟩,
      ⟨some 42, .mov (.t 8), none⟩,
      ⟨some 43, .mov (.t 5), none⟩,
      ⟨some 44, .mov (.t 8), none⟩,
      ⟨some 45, .fla 0 (.t 11), none⟩,
      ⟨some 46, .ld 1 false (.t 45), none⟩,
      ⟨some 47, .vsl 1 (.t 43) (some (.t 44)) (some (.t 46)), none⟩,
      ⟨some 48, .pcall 0 37 [.t 47], none⟩,
      ⟨some 49, .mov (.t 6), none⟩,
      ⟨some 50, .mov (.t 9), none⟩,
      ⟨some 51, .fla 1 (.t 11), none⟩,
      ⟨some 52, .ld 1 false (.t 51), none⟩,
      ⟨some 53, .vsl 1 (.t 49) (some (.t 50)) (some (.t 52)), none⟩,
      ⟨some 54, .pcall 1 37 [.t 53], none⟩,
      ⟨some 55, .bld [.int .i64 0, .nl 1, .nl 1] [(0, 1, .t 42), (1, 1, .t 48), (2, 1, .t 54)], none⟩,
      ⟨some 56, .bsl 3 [.t 55], none⟩,
      ⟨some 57, .app 76 3 56 (.t 41) (.t 56), none⟩,
      ⟨some 7, .mov (.t 57), none⟩]) .skip))
    (.cut (.drg [⟨some 58, .fla 0 (.t 11), none⟩,
      ⟨some 59, .ld 1 false (.t 58), none⟩,
      ⟨some 60, .bin .add (.t 59) (.c (.int .i64 1)), none⟩,
      ⟨some 61, .fla 1 (.t 11), none⟩,
      ⟨some 62, .ld 1 false (.t 61), none⟩,
      ⟨some 63, .bin .add (.t 62) (.c (.int .i64 1)), none⟩,
      ⟨some 8, .mov (.t 60), none⟩,
      ⟨some 9, .mov (.t 63), none⟩])))))
    (.reg [⟨some 64, .bin .add (.t 27) (.c (.int .i64 1)), none⟩,
      ⟨some 27, .mov (.t 64), none⟩]))))
def ir_chaseref1_DifferOf : IC :=
  (.seq (.reg [⟨some 4, .mov (.c (.nl 3)), none⟩])
    (.seq (.reg [⟨some 12, .mov (.t 0), none⟩,
      ⟨some 13, .call 98 [.t 12], none⟩,
      ⟨some 14, .mov (.t 1), none⟩,
      ⟨some 15, .call 98 [.t 14], none⟩,
      ⟨some 5, .mov (.t 13), none⟩,
      ⟨some 6, .mov (.t 15), none⟩])
    (.seq (.reg [⟨some 7, .nilr 76 3, none⟩])
    (.seq (.reg [⟨some 8, .mov (.c (.int .i64 0)), none⟩,
      ⟨some 9, .mov (.c (.int .i64 0)), none⟩])
    (.seq (.seq (.reg [⟨some 16, .mov (.t 5), none⟩,
      ⟨some 17, .mov (.t 6), none⟩,
      ⟨some 18, .call 99 [.t 16, .t 17], none⟩,
      ⟨some 19, .mov (.t 5), none⟩,
      ⟨some 20, .len (.t 19), none⟩,
      ⟨some 21, .mov (.t 6), none⟩,
      ⟨some 22, .len (.t 21), none⟩,
      ⟨some 23, .bld [.int .i64 0, .int .i64 0] [(0, 1, .t 20), (1, 1, .t 22)], none⟩,
      ⟨some 24, .bsl 2 [.t 23], none⟩,
      ⟨some 25, .app 133 2 16 (.t 18) (.t 24), none⟩,
      ⟨some 26, .len (.t 25), none⟩,
      ⟨some 27, .mov (.c (.int .i64 0)), none⟩])
    (.block 0 (.loop ir_chaseref1_DifferOf_L0)))
    (.seq (.reg [⟨some 65, .mov (.t 7), none⟩,
      ⟨some 4, .mov (.t 65), none⟩])
    .ret))))))
def rs_chaseref1_DifferOf : List IRes := [.t 4]
theorem ck_chaseref1_DifferOf : chkF Tryz.prog Tryz.f46 ir_chaseref1_DifferOf rs_chaseref1_DifferOf 66 = true := by kernel_rfl

abbrev tCh : Nat := 76
theorem kp_len (x y : Toks) : (kp 0 0 x y).length ≤ x.length := (kp_bd x y 0 0).1
/-- Changes: where, what goes, what comes. -/
abbrev Chg := Nat × Toks × Toks
def chE (l : List Chg) : List (List PV) := l.map fun c => [int (c.1 : Nat), .sl 1 (strE c.2.1), .sl 1 (strE c.2.2)]
theorem chE_len (l : List Chg) : (chE l).length = l.length := by simp [chE]
theorem chE_app (l m : List Chg) : chE (l ++ m) = chE l ++ chE m := by simp [chE]
def chg (x y : Toks) : List (Nat × Nat) → Nat → Nat → List Chg
  | [], _, _ => []
  | p :: r, i, j => (if i < p.1 ∨ j < p.2 then [(i, (x.take p.1).drop i, (y.take p.2).drop j)] else []) ++ chg x y r (p.1 + 1) (p.2 + 1)
/-- Pairs that rise. -/
def Chn (X Y : Nat) : Nat → Nat → List (Nat × Nat) → Prop
  | _, _, [] => True
  | i, j, p :: r => i ≤ p.1 ∧ j ≤ p.2 ∧ p.1 ≤ X ∧ p.2 ≤ Y ∧ Chn X Y (p.1 + 1) (p.2 + 1) r
theorem kp_chn {X Y : Nat} : ∀ (az bs : Toks) (i j : Nat), i + az.length = X → j + bs.length = Y → Chn X Y i j (kp i j az bs ++ [(X, Y)]) := by
  intro az
  induction az with
  | nil => intro bs i j h1 h2; simp only [kp, List.nil_append, Chn]; exact ⟨by simp at h1; omega, by omega, by omega, by omega, trivial⟩
  | cons a az ih =>
    intro bs i j h1 h2
    simp only [List.length_cons] at h1
    have wk : ∀ (l : List (Nat × Nat)), Chn X Y (i + 1) j l → Chn X Y i j l := by
      intro l h
      cases l with
      | nil => trivial
      | cons p r => exact ⟨by have := h.1; omega, h.2⟩
    rw [kp]
    split
    · simp only [List.nil_append, Chn]; exact ⟨by omega, by omega, by omega, by omega, trivial⟩
    split
    · rename_i h
      have := ih (bs.drop (ixO a bs + 1)) (i + 1) (j + ixO a bs + 1) (by omega) (by simp; omega)
      exact ⟨Nat.le_refl _, by simp, by simp; omega, by have := h.1; simp; omega, this⟩
    · exact wk _ (ih bs (i + 1) j (by omega) h2)
def prsF (x y : Toks) : List (Nat × Nat) := kp 0 0 x y ++ [(x.length, y.length)]
def chF (x y : Toks) : List Chg := chg x y (prsF x y) 0 0
theorem prsF_len (x y : Toks) : (prsF x y).length ≤ x.length + 1 := by have := kp_len x y; simp [prsF]; omega
theorem prsF_chn (x y : Toks) : Chn x.length y.length 0 0 (prsF x y) := kp_chn x y 0 0 (by simp) (by simp)
theorem chn_drop {X Y : Nat} : ∀ {l : List (Nat × Nat)} {i j : Nat}, Chn X Y i j l → ∀ {p : Nat × Nat} {r : List (Nat × Nat)}, l = p :: r → i ≤ p.1 ∧ j ≤ p.2 ∧ p.1 ≤ X ∧ p.2 ≤ Y ∧ Chn X Y (p.1 + 1) (p.2 + 1) r := by
  rintro l i j h p r rfl
  exact h
end Go.Proofs.YthfpehmbellmcaaGreatDoor
