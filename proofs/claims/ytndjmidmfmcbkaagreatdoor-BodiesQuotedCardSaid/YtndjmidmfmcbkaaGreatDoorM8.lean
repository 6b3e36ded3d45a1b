
/- Own texts, put together: J1 J2 J3. -/
import Derived.Test.YtndjmidmfmcbkaaGreatDoorM7
/- Bodies taken apart: the program's lines. -/
namespace Go.Proofs.YtndjmidmfmcbkaaGreatDoor
open Go.RowKit
set_option linter.unusedVariables false
set_option linter.unusedSimpArgs false
set_option linter.defProp false

/- paperchase/thread.apart -/
def ir_thread_apart_L4 : IC :=
  (.seq (.seq (.reg [⟨some 82, .mov (.t 11), none⟩,
      ⟨some 83, .mov (.t 5), none⟩,
      ⟨some 84, .len (.t 83), none⟩,
      ⟨some 85, .bin .lss (.t 82) (.t 84), none⟩])
    (.cond (.t 85) .skip (.exit 8)))
    (.seq (.block 9 (.seq (.seq (.drg [⟨some 88, .mov (.t 8), none⟩,
      ⟨some 89, .mov (.t 11), none⟩,
      ⟨some 90, .ixa 1 (.t 88) (.t 89), none⟩,
      ⟨some 91, .ld 1 false (.t 90), none⟩,
      ⟨some 92, .mov (.t 8), none⟩,
      ⟨some 93, .mov (.t 10), none⟩,
      ⟨some 94, .ixa 1 (.t 92) (.t 93), none⟩,
      ⟨some 95, .ld 1 false (.t 94), none⟩,
      ⟨some 96, .bin .gtr (.t 91) (.t 95), none⟩])
    (.cond (.t 96) (.seq (.reg [⟨some 97, .mov (.t 5), none⟩,
      ⟨some 98, .mov (.t 10), none⟩,
      ⟨some 99, .mov (.t 5), none⟩,
      ⟨some 100, .mov (.t 10), none⟩,
      ⟨some 101, .mov (.t 8), none⟩,
      ⟨some 102, .mov (.t 11), none⟩,
      ⟨some 103, .ixa 1 (.t 101) (.t 102), none⟩,
      ⟨some 104, .ld 1 false (.t 103), none⟩,
      ⟨some 105, .ixa 3 (.t 97) (.t 98), none⟩,
      ⟨some 106, .fla 0 (.t 105), none⟩,
      ⟨some 107, .fla 0 (.t 106), none⟩,
      ⟨none, .st 1 (.t 107) (.t 104), none⟩,
      ⟨some 108, .ixa 3 (.t 99) (.t 100), none⟩,
      ⟨some 109, .fla 2 (.t 108), none⟩,
      ⟨none, .st 1 (.t 109) (.c (.bool true)), none⟩])
    (.exit 8)) .skip))
    (.seq (.reg [⟨some 110, .mov (.t 5), none⟩,
      ⟨some 111, .mov (.t 11), none⟩,
      ⟨some 112, .ixa 3 (.t 110) (.t 111), none⟩,
      ⟨some 113, .fla 0 (.t 112), none⟩,
      ⟨some 114, .fla 1 (.t 113), none⟩,
      ⟨some 115, .ld 1 false (.t 114), none⟩,
      ⟨some 116, .call 104 [.t 115], none⟩,
      ⟨some 117, .not (.t 116), none⟩])
    (.cond (.t 117) (.exit 8) .skip))))
    (.reg [⟨some 86, .mov (.t 11), none⟩,
      ⟨some 87, .bin .add (.t 86) (.c (.int .i64 1)), none⟩,
      ⟨some 11, .mov (.t 87), none⟩])))
def ir_thread_apart_L3 : IC :=
  (.seq (.reg [⟨some 70, .bin .lss (.t 69) (.t 68), none⟩])
    (.seq (.cond (.t 70) .skip (.exit 6))
    (.seq (.block 7 (.seq (.reg [⟨some 71, .mov (.t 69), none⟩,
      ⟨some 10, .mov (.t 71), none⟩])
    (.seq (.seq (.reg [⟨some 72, .mov (.t 5), none⟩,
      ⟨some 73, .mov (.t 10), none⟩,
      ⟨some 74, .ixa 3 (.t 72) (.t 73), none⟩,
      ⟨some 75, .fla 0 (.t 74), none⟩,
      ⟨some 76, .fla 1 (.t 75), none⟩,
      ⟨some 77, .ld 1 false (.t 76), none⟩,
      ⟨some 78, .call 182 [.t 77], none⟩,
      ⟨some 79, .not (.t 78), none⟩])
    (.cond (.t 79) (.exit 7) .skip))
    (.seq (.reg [⟨some 80, .mov (.t 10), none⟩,
      ⟨some 81, .bin .add (.t 80) (.c (.int .i64 1)), none⟩,
      ⟨some 11, .mov (.t 81), none⟩])
    (.block 8 (.loop ir_thread_apart_L4))))))
    (.cut (.reg [⟨some 118, .bin .add (.t 69) (.c (.int .i64 1)), none⟩,
      ⟨some 69, .mov (.t 118), none⟩])))))
def ir_thread_apart_L2 : IC :=
  (.seq (.reg [⟨some 55, .bin .lss (.t 54) (.t 53), none⟩])
    (.seq (.cond (.t 55) .skip (.exit 4))
    (.seq (.block 5 (.seq (.reg [⟨some 56, .mov (.t 54), none⟩,
      ⟨some 9, .mov (.t 56), none⟩])
    (.reg [⟨some 57, .mov (.t 8), none⟩,
      ⟨some 58, .mov (.t 9), none⟩,
      ⟨some 59, .mov (.t 5), none⟩,
      ⟨some 60, .mov (.t 9), none⟩,
      ⟨some 61, .ixa 3 (.t 59) (.t 60), none⟩,
      ⟨some 62, .fla 0 (.t 61), none⟩,
      ⟨some 63, .fla 0 (.t 62), none⟩,
      ⟨some 64, .ld 1 false (.t 63), none⟩,
      ⟨some 65, .ixa 1 (.t 57) (.t 58), none⟩,
      ⟨none, .st 1 (.t 65) (.t 64), none⟩])))
    (.reg [⟨some 66, .bin .add (.t 54) (.c (.int .i64 1)), none⟩,
      ⟨some 54, .mov (.t 66), none⟩]))))
def ir_thread_apart_L1 : IC :=
  (.seq (.seq (.reg [⟨some 27, .mov (.t 7), none⟩,
      ⟨some 28, .call 108 [.t 27, .c (.str [62])], none⟩])
    (.cond (.t 28) .skip (.exit 2)))
    (.block 3 (.seq (.reg [⟨some 29, .mov (.t 7), none⟩,
      ⟨some 30, .ssl (.t 29) (some (.c (.int .i64 1))) none, none⟩,
      ⟨some 31, .call 109 [.t 30, .c (.str [32])], none⟩,
      ⟨some 7, .mov (.t 31), none⟩])
    (.reg [⟨some 32, .mov (.t 5), none⟩,
      ⟨some 33, .mov (.t 6), none⟩,
      ⟨some 34, .ixa 3 (.t 32) (.t 33), none⟩,
      ⟨some 35, .fla 0 (.t 34), none⟩,
      ⟨some 36, .fla 0 (.t 35), none⟩,
      ⟨some 37, .ld 1 false (.t 36), none⟩,
      ⟨some 38, .bin .add (.t 37) (.c (.int .i64 1)), none⟩,
      ⟨some 39, .ixa 3 (.t 32) (.t 33), none⟩,
      ⟨some 40, .fla 0 (.t 39), none⟩,
      ⟨some 41, .fla 0 (.t 40), none⟩,
      ⟨none, .st 1 (.t 41) (.t 38), none⟩]))))
def ir_thread_apart_L0 : IC :=
  (.seq (.reg [⟨some 23, .bin .lss (.t 22) (.t 21), none⟩])
    (.seq (.cond (.t 23) .skip (.exit 0))
    (.seq (.block 1 (.seq (.reg [⟨some 24, .mov (.t 22), none⟩,
      ⟨some 25, .ixa 1 (.t 20) (.t 22), none⟩,
      ⟨some 26, .ld 1 false (.t 25), none⟩,
      ⟨some 6, .mov (.t 24), none⟩,
      ⟨some 7, .mov (.t 26), none⟩])
    (.seq (.block 2 (.loop ir_thread_apart_L1))
    (.reg [⟨some 42, .mov (.t 5), none⟩,
      ⟨some 43, .mov (.t 6), none⟩,
      ⟨some 44, .mov (.t 7), none⟩,
      ⟨some 45, .ixa 3 (.t 42) (.t 43), none⟩,
      ⟨some 46, .fla 0 (.t 45), none⟩,
      ⟨some 47, .fla 1 (.t 46), none⟩,
      ⟨none, .st 1 (.t 47) (.t 44), none⟩]))))
    (.reg [⟨some 48, .bin .add (.t 22) (.c (.int .i64 1)), none⟩,
      ⟨some 22, .mov (.t 48), none⟩]))))
def ir_thread_apart : IC :=
  (.seq (.reg [⟨some 2, .mov (.c (.nl 3)), none⟩])
    (.seq (.reg [⟨some 13, .mov (.t 0), none⟩,
      ⟨some 14, .call 181 [.t 13], none⟩,
      ⟨some 12, .mov (.t 14), none⟩,
      ⟨some 15, .ext 0 (.t 12), none⟩,
      ⟨some 16, .ext 1 (.t 12), none⟩,
      ⟨some 3, .mov (.t 15), none⟩,
      ⟨some 4, .mov (.t 16), none⟩])
    (.seq (.reg [⟨some 17, .mov (.t 3), none⟩,
      ⟨some 18, .len (.t 17), none⟩,
      ⟨some 19, .mks 128 3 32 [.int .i64 0, .str [], .bool false] (.t 18) (.t 18), none⟩,
      ⟨some 5, .mov (.t 19), none⟩])
    (.seq (.seq (.reg [⟨some 20, .mov (.t 3), none⟩,
      ⟨some 21, .len (.t 20), none⟩,
      ⟨some 22, .mov (.c (.int .i64 0)), none⟩])
    (.block 0 (.loop ir_thread_apart_L0)))
    (.seq (.reg [⟨some 49, .mov (.t 5), none⟩,
      ⟨some 50, .len (.t 49), none⟩,
      ⟨some 51, .mks 3 1 8 [.int .i64 0] (.t 50) (.t 50), none⟩,
      ⟨some 8, .mov (.t 51), none⟩])
    (.seq (.seq (.reg [⟨some 52, .mov (.t 5), none⟩,
      ⟨some 53, .len (.t 52), none⟩,
      ⟨some 54, .mov (.c (.int .i64 0)), none⟩])
    (.block 4 (.loop ir_thread_apart_L2)))
    (.seq (.seq (.reg [⟨some 67, .mov (.t 5), none⟩,
      ⟨some 68, .len (.t 67), none⟩,
      ⟨some 69, .mov (.c (.int .i64 0)), none⟩])
    (.block 6 (.loop ir_thread_apart_L3)))
    (.seq (.reg [⟨some 119, .mov (.t 5), none⟩,
      ⟨some 2, .mov (.t 119), none⟩])
    .ret))))))))
def rs_thread_apart : List IRes := [.t 2]
theorem ck_thread_apart : chkF Tryz.prog Tryz.f103 ir_thread_apart rs_thread_apart 120 = true := by kernel_rfl


theorem cutPre_len (s p : List UInt8) : (cutPreF s p).1.length ≤ s.length := by
  unfold cutPreF
  split <;> simp
theorem strip_dec {s : List UInt8} (h : Lib.hasPrefix s [62] = true) : (cutPreF (s.drop 1) [32]).1.length < s.length := by
  have h1 := hasPrefix_len h
  have h2 := cutPre_len (s.drop 1) [32]
  rw [List.length_drop] at h2
  simp only [List.length_cons, List.length_nil] at h1
  omega
/-- A line without its signs, and how many these are. -/
def strip (s : List UInt8) : Nat × List UInt8 := if h : Lib.hasPrefix s [62] = true then ((strip (cutPreF (s.drop 1) [32]).1).1 + 1, (strip (cutPreF (s.drop 1) [32]).1).2) else (0, s)
termination_by s.length
decreasing_by all_goals exact strip_dec h
theorem strip_yes {s : List UInt8} (h : Lib.hasPrefix s [62] = true) : strip s = ((strip (cutPreF (s.drop 1) [32]).1).1 + 1, (strip (cutPreF (s.drop 1) [32]).1).2) := by
  rw [strip, dif_pos h]
theorem strip_no {s : List UInt8} (h : Lib.hasPrefix s [62] = false) : strip s = (0, s) := by
  rw [strip, dif_neg (by rw [h]; simp)]
theorem strip_bd : ∀ (n : Nat) (s : List UInt8), s.length ≤ n → (strip s).1 + (strip s).2.length ≤ s.length := by
  intro n
  induction n with
  | zero =>
    intro s hs
    cases h : Lib.hasPrefix s [62] with
    | true => have := strip_dec h; omega
    | false => rw [strip_no h]; simp
  | succ n ih =>
    intro s hs
    cases h : Lib.hasPrefix s [62] with
    | true =>
      have h1 := strip_dec h
      have := ih (cutPreF (s.drop 1) [32]).1 (by omega)
      rw [strip_yes h]
      simp only
      omega
    | false => rw [strip_no h]; simp
/-- A table of cells. -/
def tb (n : Nat) (f : Nat → List PV) : List (List PV) := (List.range n).map f
theorem tb_len (n : Nat) (f : Nat → List PV) : (tb n f).length = n := by simp [tb]
theorem tb_get {n k : Nat} {f : Nat → List PV} (h : k < n) : (tb n f).getD k [] = f k := by simp [tb, List.getD, h]
theorem tb_ext {n : Nat} {f g : Nat → List PV} (h : ∀ j, j < n → f j = g j) : tb n f = tb n g := by
  unfold tb
  exact List.map_congr_left fun j hj => h j (List.mem_range.1 hj)
theorem tb_set (n k : Nat) (f : Nat → List PV) (x : List PV) : (tb n f).set k x = tb n fun j => if j = k then x else f j := by
  refine List.ext_getElem? fun j => ?_
  unfold tb
  rw [List.getElem?_set]
  by_cases hj : j < n
  · by_cases e : k = j
    · subst e; simp [hj]
    · simp [hj, e, show ¬ j = k from fun h => e h.symm]
  · by_cases e : k = j
    · subst e; simp [hj]
    · simp [hj, e]
theorem tb_rep (n : Nat) (x : List PV) : List.replicate n x = tb n fun _ => x := by
  refine List.ext_getElem? fun j => ?_
  by_cases hj : j < n
  · simp [tb, hj]
  · simp [tb, hj]
theorem set_get {es : List (List PV)} {k : Nat} {x : List PV} (h : k < es.length) : (es.set k x).getD k [] = x := by simp [List.getD, h]
def q3 (d : Int) (t : List UInt8) (b : Bool) : List PV := [int d, .str t, .bool b]
/-- The signs, the text of a line. -/
def sgF (l : List (List UInt8)) (j : Nat) : Nat := (strip (l.getD j [])).1
def txF (l : List (List UInt8)) (j : Nat) : List UInt8 := (strip (l.getD j [])).2
def rowA (l : List (List UInt8)) (k : Nat) : List (List PV) := tb l.length fun j => if j < k then q3 (sgF l j) (txF l j) false else q3 0 [] false
def rowB (l : List (List UInt8)) (k : Nat) (d : Int) (t : List UInt8) : List (List PV) := tb l.length fun j => if j = k then q3 d t false else if j < k then q3 (sgF l j) (txF l j) false else q3 0 [] false
theorem rowA_zero (l : List (List UInt8)) : List.replicate l.length [int 0, .str [], .bool false] = rowA l 0 := by
  rw [tb_rep]
  exact tb_ext fun j _ => by simp [q3]
theorem rowA_B (l : List (List UInt8)) (k : Nat) : rowA l k = rowB l k 0 [] := tb_ext fun j _ => by
  by_cases e : j = k
  · simp [e]
  · simp [e]
theorem rowB_get {l : List (List UInt8)} {k : Nat} (h : k < l.length) (d : Int) (t : List UInt8) : (rowB l k d t).getD k [] = [int d, .str t, .bool false] := by
  rw [rowB, tb_get h]; simp [q3]
theorem rowB_set (l : List (List UInt8)) (k : Nat) (d d' : Int) (t t' : List UInt8) : (rowB l k d t).set k [int d', .str t', .bool false] = rowB l k d' t' := by
  rw [rowB, tb_set]
  exact tb_ext fun j _ => by by_cases e : j = k <;> simp [e, q3]
theorem rowB_A {l : List (List UInt8)} {k : Nat} {x : List UInt8} (h : l[k]? = some x) : rowB l k (strip x).1 (strip x).2 = rowA l (k + 1) := tb_ext fun j _ => by
  by_cases e : j = k
  · subst e; simp [sgF, txF, List.getD, h]
  · simp only [if_neg e, show (j < k + 1) = (j < k) from by simp; omega]
theorem rowA_len (l : List (List UInt8)) (k : Nat) : (rowA l k).length = l.length := tb_len _ _
theorem rowB_len (l : List (List UInt8)) (k : Nat) (d : Int) (t : List UInt8) : (rowB l k d t).length = l.length := tb_len _ _
def rowS (l : List (List UInt8)) (k : Nat) : List (List PV) := tb l.length fun j => if j < k then [int (sgF l j)] else [int 0]
theorem rowS_zero (l : List (List UInt8)) : List.replicate l.length [int 0] = rowS l 0 := by
  rw [tb_rep]
  exact tb_ext fun j _ => by simp
theorem rowS_len (l : List (List UInt8)) (k : Nat) : (rowS l k).length = l.length := tb_len _ _
theorem rowS_set (l : List (List UInt8)) (k : Nat) : (rowS l k).set k [int (sgF l k)] = rowS l (k + 1) := by
  rw [rowS, tb_set]
  refine tb_ext fun j _ => ?_
  by_cases e : j = k
  · simp [e]
  · simp only [if_neg e, show (j < k + 1) = (j < k) from by simp; omega]
theorem rowS_get {l : List (List UInt8)} {k : Nat} (h : k < l.length) : (rowS l l.length).getD k [] = [int (sgF l k)] := by rw [rowS, tb_get h]; simp [h]
/-- The depth that a line's successors give it. -/
def atF (l : List (List UInt8)) (i k : Nat) : Option Nat := if h : k < l.length then (if sgF l i < sgF l k then some (sgF l k) else if blankF (txF l k) = true then atF l i (k + 1) else none) else none
termination_by l.length - k
def qF (l : List (List UInt8)) (j : Nat) : Nat × Bool := if saysF (txF l j) = true then (match atF l j (j + 1) with | some d => (d, true) | none => (sgF l j, false)) else (sgF l j, false)
def rowC (l : List (List UInt8)) (i : Nat) : List (List PV) := tb l.length fun j => if j < i then q3 (qF l j).1 (txF l j) (qF l j).2 else q3 (sgF l j) (txF l j) false
theorem rowC_zero (l : List (List UInt8)) : rowA l l.length = rowC l 0 := tb_ext fun j hj => by simp [hj]
theorem rowC_len (l : List (List UInt8)) (k : Nat) : (rowC l k).length = l.length := tb_len _ _
theorem rowC_get {l : List (List UInt8)} {i k : Nat} (h : k < l.length) (hik : i ≤ k) : (rowC l i).getD k [] = [int (sgF l k), .str (txF l k), .bool false] := by
  rw [rowC, tb_get h, if_neg (by omega)]; rfl
theorem rowC_set {l : List (List UInt8)} {i d : Nat} (h : qF l i = (d, true)) : (rowC l i).set i [int d, .str (txF l i), .bool true] = rowC l (i + 1) := by
  rw [rowC, tb_set]
  refine tb_ext fun j _ => ?_
  by_cases e : j = i
  · subst e; simp [h, q3]
  · simp only [if_neg e, show (j < i + 1) = (j < i) from by simp; omega]
theorem rowC_same {l : List (List UInt8)} {i : Nat} (h : qF l i = (sgF l i, false)) : rowC l i = rowC l (i + 1) := by
  refine tb_ext fun j _ => ?_
  by_cases e : j = i
  · subst e; simp [h]
  · simp only [show (j < i + 1) = (j < i) from by simp; omega]
theorem sgF_bd {l : List (List UInt8)} {m : Nat} (hb : ∀ x ∈ l, x.length ≤ m) (j : Nat) : sgF l j + (txF l j).length ≤ m := by
  have := strip_bd _ (l.getD j []) (Nat.le_refl _)
  unfold sgF txF
  by_cases hj : j < l.length
  · have h2 := hb (l.getD j []) (by simp [List.getD, hj])
    omega
  · have e : l.getD j [] = [] := by simp [List.getD, hj]
    rw [e] at this ⊢
    simp only [List.length_nil] at this
    omega
theorem linesF_bd (s : List UInt8) : (linesF s).1.length ≤ s.length + 1 ∧ ∀ x ∈ (linesF s).1, x.length ≤ s.length := by
  unfold linesF
  split
  · simp
  · have h1 := cutSuf_len s [10]
    have h2 := splF_len (cutSufF s [10]).1 10
    have h3 := splF_mem (cutSufF s [10]).1 10
    exact ⟨by simp only; omega, fun x hx => by have := h3 x hx; omega⟩
abbrev tQ3 : Nat := 128
abbrev tInt : Nat := 3
/-- What apart answers. -/
def apF (l : List (List UInt8)) : List (List PV) := tb l.length fun j => q3 (qF l j).1 (txF l j) (qF l j).2
theorem rowC_end (l : List (List UInt8)) : rowC l l.length = apF l := tb_ext fun j hj => by simp [hj]
set_option maxHeartbeats 4000000 in
theorem apart_ok (s : List UInt8) (hs : s.length ≤ 25000) : FCall Tryz.prog E0 103 [.str s] tQ3 3 (· = apF (linesF s).1) := by
  unfold FCall
  refine gcallR mixed Tryz.func103 ck_thread_apart ?_
  simp only [a0, l0, OS.ao, List.map_cons, List.map_nil, List.length_cons, List.length_nil, List.cons_append, List.nil_append, Nat.reduceSub, Nat.reduceAdd, List.replicate_succ, List.replicate_zero, ir_thread_apart, rs_thread_apart, ZZ, YY, Zd, ite_true, ite_false, forall_const, reduceCtorEq, Nat.reduceAdd, Nat.reduceMul, Nat.reduceLeDiff, Nat.reduceLT, Nat.reduceEqDiff]
  refine use1 (Lines_ok s (by omega)) rfl (.inl rfl) ?_
  rw [strs_eq]
  obtain ⟨hll, hlb⟩ := linesF_bd s
  generalize (linesF s).1 = l at *
  simp only [ZZ, YY, Zd, ite_true, ite_false, forall_const, reduceCtorEq, Nat.reduceAdd, Nat.reduceMul, Nat.reduceLeDiff, Nat.reduceLT, Nat.reduceEqDiff, strE_len]
  refine ⟨⟨by omega, by omega, by omega⟩, ?_⟩
  rw [rowA_zero]
  refine loop_intro (fun n fr L => ∃ (k : Nat), k ≤ l.length ∧ n = l.length - k ∧ fr = [.p (.str s), .any, .any, .any, .any, .row (.l 19), .any, .any, .any, .any, .any, .any, .any, .any, .any, .any, .any, .any, .any, .any, .p (.sl 1 (strE l)), .p (int (l.length : Nat)), .p (int (k : Nat)), .any, .any, .any, .any, .any, .any, .any, .any, .any, .any, .any, .any, .any, .any, .any, .any, .any, .any, .any, .any, .any, .any, .any, .any, .any, .any, .any, .any, .any, .any, .any, .any, .any, .any, .any, .any, .any, .any, .any, .any, .any, .any, .any, .any, .any, .any, .any, .any, .any, .any, .any, .any, .any, .any, .any, .any, .any, .any, .any, .any, .any, .any, .any, .any, .any, .any, .any, .any, .any, .any, .any, .any, .any, .any, .any, .any, .any, .any, .any, .any, .any, .any, .any, .any, .any, .any, .any, .any, .any, .any, .any, .any, .any, .any, .any, .any, .any] ∧ L = [(.l 19, .row (rowA l k) tQ3 3 true)]) (l.length) [.p (.str s), .any, .any, .any, .any, .row (.l 19), .any, .any, .any, .any, .any, .any, .any, .any, .any, .any, .any, .any, .any, .any, .p (.sl 1 (strE l)), .p (int (l.length : Nat)), .p (int (0 : Nat)), .any, .any, .any, .any, .any, .any, .any, .any, .any, .any, .any, .any, .any, .any, .any, .any, .any, .any, .any, .any, .any, .any, .any, .any, .any, .any, .any, .any, .any, .any, .any, .any, .any, .any, .any, .any, .any, .any, .any, .any, .any, .any, .any, .any, .any, .any, .any, .any, .any, .any, .any, .any, .any, .any, .any, .any, .any, .any, .any, .any, .any, .any, .any, .any, .any, .any, .any, .any, .any, .any, .any, .any, .any, .any, .any, .any, .any, .any, .any, .any, .any, .any, .any, .any, .any, .any, .any, .any, .any, .any, .any, .any, .any, .any, .any, .any, .any] [(.l 19, .row (rowA l 0) tQ3 3 true)] (by simp only [ZZ, YY, Zd, ite_true, ite_false, forall_const, reduceCtorEq, Nat.reduceAdd, Nat.reduceMul, Nat.reduceLeDiff, Nat.reduceLT, Nat.reduceEqDiff, strE_len]; try trivial) (by (simp only [ZZ, YY, Zd, ite_true, ite_false, forall_const, reduceCtorEq, Nat.reduceAdd, Nat.reduceMul, Nat.reduceLeDiff, Nat.reduceLT, Nat.reduceEqDiff]; try trivial)) ⟨0, by omega, by omega, rfl, rfl⟩ ?_
  rintro n fr L ⟨k, hk, rfl, rfl, rfl⟩
  simp only [ir_thread_apart_L0, ZZ, YY, Zd, ite_true, ite_false, forall_const, reduceCtorEq, Nat.reduceAdd, Nat.reduceMul, Nat.reduceLeDiff, Nat.reduceLT, Nat.reduceEqDiff]
  refine br ?_ ?_
  · intro h
    have hlt : k < l.length := by have := of_decide_eq_true h; omega
    obtain ⟨x, hx⟩ : ∃ x, l[k]? = some x := ⟨_, List.getElem?_eq_getElem hlt⟩
    have hg := strE_get hx
    have hxb := hlb x (List.mem_of_getElem? hx)
    simp only [ZZ, YY, Zd, ite_true, ite_false, forall_const, reduceCtorEq, Nat.reduceAdd, Nat.reduceMul, Nat.reduceLeDiff, Nat.reduceLT, Nat.reduceEqDiff, hg, strE_len]
    ((repeat' (with_reducible apply And.intro)) <;> try ((first | first | assumption | trivial | exact (fun hq => by rw [hq]; rfl) | exact i64_of (by omega) (by omega) | omega | (simp; done) | (simp; omega) | (intro hsc; have hs0 := hsc; (try have hsd := of_decide_eq_true hsc); (try simp only [Bool.not_eq_true', Bool.or_eq_false_iff, Bool.and_eq_true, Bool.or_eq_true, decide_eq_true_eq, decide_eq_false_iff_not] at hsc); (repeat' (with_reducible apply And.intro)) <;> (first | assumption | trivial | exact (fun hq => by rw [hq]; rfl) | exact i64_of (by omega) (by omega) | omega | (simp; done) | (simp; omega) | (intro hse; simp [hse, hs0]; done) | (intro hse; simp only [hse, hs0, Bool.true_and, Bool.and_true, Bool.not_false, Bool.not_true, Bool.and_self]; done))))))
    rw [rowA_B]
    refine loop_intro (fun n fr L => ∃ (d : Nat) (u : List UInt8), u.length = n ∧ (strip x = (d + (strip u).1, (strip u).2)) ∧ (d + u.length ≤ x.length) ∧ fr = [.p (.str s), .any, .any, .any, .any, .row (.l 19), .p (int (k : Nat)), .p (.str u), .any, .any, .any, .any, .any, .any, .any, .any, .any, .any, .any, .any, .p (.sl 1 (strE l)), .p (int (l.length : Nat)), .p (int (k : Nat)), .any, .any, .any, .any, .any, .any, .any, .any, .any, .any, .any, .any, .any, .any, .any, .any, .any, .any, .any, .any, .any, .any, .any, .any, .any, .any, .any, .any, .any, .any, .any, .any, .any, .any, .any, .any, .any, .any, .any, .any, .any, .any, .any, .any, .any, .any, .any, .any, .any, .any, .any, .any, .any, .any, .any, .any, .any, .any, .any, .any, .any, .any, .any, .any, .any, .any, .any, .any, .any, .any, .any, .any, .any, .any, .any, .any, .any, .any, .any, .any, .any, .any, .any, .any, .any, .any, .any, .any, .any, .any, .any, .any, .any, .any, .any, .any, .any] ∧ L = [(.l 19, .row (rowB l k (d : Nat) []) tQ3 3 true)]) (x.length) [.p (.str s), .any, .any, .any, .any, .row (.l 19), .p (int (k : Nat)), .p (.str x), .any, .any, .any, .any, .any, .any, .any, .any, .any, .any, .any, .any, .p (.sl 1 (strE l)), .p (int (l.length : Nat)), .p (int (k : Nat)), .any, .any, .any, .any, .any, .any, .any, .any, .any, .any, .any, .any, .any, .any, .any, .any, .any, .any, .any, .any, .any, .any, .any, .any, .any, .any, .any, .any, .any, .any, .any, .any, .any, .any, .any, .any, .any, .any, .any, .any, .any, .any, .any, .any, .any, .any, .any, .any, .any, .any, .any, .any, .any, .any, .any, .any, .any, .any, .any, .any, .any, .any, .any, .any, .any, .any, .any, .any, .any, .any, .any, .any, .any, .any, .any, .any, .any, .any, .any, .any, .any, .any, .any, .any, .any, .any, .any, .any, .any, .any, .any, .any, .any, .any, .any, .any, .any] [(.l 19, .row (rowB l k (0 : Nat) []) tQ3 3 true)] (by (simp only [ZZ, YY, Zd, ite_true, ite_false, forall_const, reduceCtorEq, Nat.reduceAdd, Nat.reduceMul, Nat.reduceLeDiff, Nat.reduceLT, Nat.reduceEqDiff]; try trivial)) (by (simp only [ZZ, YY, Zd, ite_true, ite_false, forall_const, reduceCtorEq, Nat.reduceAdd, Nat.reduceMul, Nat.reduceLeDiff, Nat.reduceLT, Nat.reduceEqDiff]; try trivial)) ⟨0, x, rfl, by simp, by omega, rfl, rfl⟩ ?_
    rintro n fr L ⟨d, u, rfl, hst, hdb, rfl, rfl⟩
    simp only [ir_thread_apart_L1, ZZ, YY, Zd, ite_true, ite_false, forall_const, reduceCtorEq, Nat.reduceAdd, Nat.reduceMul, Nat.reduceLeDiff, Nat.reduceLT, Nat.reduceEqDiff]
    refine use1 (HasPrefix_ok u [62]) rfl (.inl rfl) ?_
    simp only [ZZ, YY, Zd, ite_true, ite_false, forall_const, reduceCtorEq, Nat.reduceAdd, Nat.reduceMul, Nat.reduceLeDiff, Nat.reduceLT, Nat.reduceEqDiff]
    refine br ?_ ?_
    · intro h2
      have hlen := hasPrefix_len h2
      simp only [List.length_cons, List.length_nil] at hlen
      have hdec := strip_dec h2
      have hy := strip_yes h2
      simp only [ZZ, YY, Zd, ite_true, ite_false, forall_const, reduceCtorEq, Nat.reduceAdd, Nat.reduceMul, Nat.reduceLeDiff, Nat.reduceLT, Nat.reduceEqDiff]
      ((repeat' (with_reducible apply And.intro)) <;> try ((first | first | assumption | trivial | exact (fun hq => by rw [hq]; rfl) | exact i64_of (by omega) (by omega) | omega | (simp; done) | (simp; omega) | (intro hsc; have hs0 := hsc; (try have hsd := of_decide_eq_true hsc); (try simp only [Bool.not_eq_true', Bool.or_eq_false_iff, Bool.and_eq_true, Bool.or_eq_true, decide_eq_true_eq, decide_eq_false_iff_not] at hsc); (repeat' (with_reducible apply And.intro)) <;> (first | assumption | trivial | exact (fun hq => by rw [hq]; rfl) | exact i64_of (by omega) (by omega) | omega | (simp; done) | (simp; omega) | (intro hse; simp [hse, hs0]; done) | (intro hse; simp only [hse, hs0, Bool.true_and, Bool.and_true, Bool.not_false, Bool.not_true, Bool.and_self]; done))))))
      rw [List.take_length, show Int.toNat 1 = 1 from rfl]
      refine use1 (TrimPrefix_ok (u.drop 1) [32] (by simp; omega) (by decide)) rfl (.inl rfl) ?_
      simp only [ZZ, YY, Zd, ite_true, ite_false, forall_const, reduceCtorEq, Nat.reduceAdd, Nat.reduceMul, Nat.reduceLeDiff, Nat.reduceLT, Nat.reduceEqDiff, rowB_len, rowB_get hlt]
      simp only [Zaa, List.set_cons_zero, List.set_cons_succ, rowB_set]
      ((repeat' (with_reducible apply And.intro)) <;> try ((first | first | assumption | trivial | exact (fun hq => by rw [hq]; rfl) | exact i64_of (by omega) (by omega) | omega | (simp; done) | (simp; omega) | (intro hsc; have hs0 := hsc; (try have hsd := of_decide_eq_true hsc); (try simp only [Bool.not_eq_true', Bool.or_eq_false_iff, Bool.and_eq_true, Bool.or_eq_true, decide_eq_true_eq, decide_eq_false_iff_not] at hsc); (repeat' (with_reducible apply And.intro)) <;> (first | assumption | trivial | exact (fun hq => by rw [hq]; rfl) | exact i64_of (by omega) (by omega) | omega | (simp; done) | (simp; omega) | (intro hse; simp [hse, hs0]; done) | (intro hse; simp only [hse, hs0, Bool.true_and, Bool.and_true, Bool.not_false, Bool.not_true, Bool.and_self]; done))))))
      refine end_round (((cutPreF (u.drop 1) [32]).1).length) [.p (.str s), .any, .any, .any, .any, .row (.l 19), .p (int (k : Nat)), .p (.str ((cutPreF (u.drop 1) [32]).1)), .any, .any, .any, .any, .any, .any, .any, .any, .any, .any, .any, .any, .p (.sl 1 (strE l)), .p (int (l.length : Nat)), .p (int (k : Nat)), .any, .any, .any, .any, .any, .any, .any, .any, .any, .any, .any, .any, .any, .any, .any, .any, .any, .any, .any, .any, .any, .any, .any, .any, .any, .any, .any, .any, .any, .any, .any, .any, .any, .any, .any, .any, .any, .any, .any, .any, .any, .any, .any, .any, .any, .any, .any, .any, .any, .any, .any, .any, .any, .any, .any, .any, .any, .any, .any, .any, .any, .any, .any, .any, .any, .any, .any, .any, .any, .any, .any, .any, .any, .any, .any, .any, .any, .any, .any, .any, .any, .any, .any, .any, .any, .any, .any, .any, .any, .any, .any, .any, .any, .any, .any, .any, .any] [(.l 19, .row (rowB l k ((d + 1) : Nat) []) tQ3 3 true)] (by omega) (by (simp only [ZZ, YY, Zd, ite_true, ite_false, forall_const, reduceCtorEq, Nat.reduceAdd, Nat.reduceMul, Nat.reduceLeDiff, Nat.reduceLT, Nat.reduceEqDiff]; try trivial)) (by (simp only [ZZ, YY, Zd, ite_true, ite_false, forall_const, reduceCtorEq, Nat.reduceAdd, Nat.reduceMul, Nat.reduceLeDiff, Nat.reduceLT, Nat.reduceEqDiff]; try trivial)) ⟨d + 1, (cutPreF (u.drop 1) [32]).1, rfl, by rw [hst, hy]; simp only; congr 1; omega, by omega, rfl, rfl⟩
    · intro h2
      have hn := strip_no h2
      rw [hn] at hst
      simp only [Nat.add_zero] at hst
      simp only [ZZ, YY, Zd, ite_true, ite_false, forall_const, reduceCtorEq, Nat.reduceAdd, Nat.reduceMul, Nat.reduceLeDiff, Nat.reduceLT, Nat.reduceEqDiff, rowB_len, rowB_get hlt]
      simp only [Zaa, List.set_cons_zero, List.set_cons_succ, rowB_set]
      ((repeat' (with_reducible apply And.intro)) <;> try ((first | first | assumption | trivial | exact (fun hq => by rw [hq]; rfl) | exact i64_of (by omega) (by omega) | omega | (simp; done) | (simp; omega) | (intro hsc; have hs0 := hsc; (try have hsd := of_decide_eq_true hsc); (try simp only [Bool.not_eq_true', Bool.or_eq_false_iff, Bool.and_eq_true, Bool.or_eq_true, decide_eq_true_eq, decide_eq_false_iff_not] at hsc); (repeat' (with_reducible apply And.intro)) <;> (first | assumption | trivial | exact (fun hq => by rw [hq]; rfl) | exact i64_of (by omega) (by omega) | omega | (simp; done) | (simp; omega) | (intro hse; simp [hse, hs0]; done) | (intro hse; simp only [hse, hs0, Bool.true_and, Bool.and_true, Bool.not_false, Bool.not_true, Bool.and_self]; done))))))
      have hR := rowB_A hx
      rw [hst] at hR
      simp only at hR
      rw [hR]
      refine end_round (l.length - (k + 1)) [.p (.str s), .any, .any, .any, .any, .row (.l 19), .any, .any, .any, .any, .any, .any, .any, .any, .any, .any, .any, .any, .any, .any, .p (.sl 1 (strE l)), .p (int (l.length : Nat)), .p (int ((k + 1) : Nat)), .any, .any, .any, .any, .any, .any, .any, .any, .any, .any, .any, .any, .any, .any, .any, .any, .any, .any, .any, .any, .any, .any, .any, .any, .any, .any, .any, .any, .any, .any, .any, .any, .any, .any, .any, .any, .any, .any, .any, .any, .any, .any, .any, .any, .any, .any, .any, .any, .any, .any, .any, .any, .any, .any, .any, .any, .any, .any, .any, .any, .any, .any, .any, .any, .any, .any, .any, .any, .any, .any, .any, .any, .any, .any, .any, .any, .any, .any, .any, .any, .any, .any, .any, .any, .any, .any, .any, .any, .any, .any, .any, .any, .any, .any, .any, .any, .any] [(.l 19, .row (rowA l (k + 1)) tQ3 3 true)] (by omega) (by (simp only [ZZ, YY, Zd, ite_true, ite_false, forall_const, reduceCtorEq, Nat.reduceAdd, Nat.reduceMul, Nat.reduceLeDiff, Nat.reduceLT, Nat.reduceEqDiff]; try trivial)) (by (simp only [ZZ, YY, Zd, ite_true, ite_false, forall_const, reduceCtorEq, Nat.reduceAdd, Nat.reduceMul, Nat.reduceLeDiff, Nat.reduceLT, Nat.reduceEqDiff]; try trivial)) ⟨k + 1, by omega, rfl, rfl, rfl⟩
  · intro h
    have hge : k = l.length := by have := of_decide_eq_false h; omega
    subst hge
    simp only [ZZ, YY, Zd, ite_true, ite_false, forall_const, reduceCtorEq, Nat.reduceAdd, Nat.reduceMul, Nat.reduceLeDiff, Nat.reduceLT, Nat.reduceEqDiff, rowA_len]
    refine ⟨⟨by omega, by omega, by omega⟩, ?_⟩
    rw [rowS_zero]
    refine loop_intro (fun n fr L => ∃ (k : Nat), k ≤ l.length ∧ n = l.length - k ∧ fr = [.p (.str s), .any, .any, .any, .any, .row (.l 19), .any, .any, .row (.l 51), .any, .any, .any, .any, .any, .any, .any, .any, .any, .any, .any, .any, .any, .any, .any, .any, .any, .any, .any, .any, .any, .any, .any, .any, .any, .any, .any, .any, .any, .any, .any, .any, .any, .any, .any, .any, .any, .any, .any, .any, .any, .any, .any, .any, .p (int (l.length : Nat)), .p (int (k : Nat)), .any, .any, .any, .any, .any, .any, .any, .any, .any, .any, .any, .any, .any, .any, .any, .any, .any, .any, .any, .any, .any, .any, .any, .any, .any, .any, .any, .any, .any, .any, .any, .any, .any, .any, .any, .any, .any, .any, .any, .any, .any, .any, .any, .any, .any, .any, .any, .any, .any, .any, .any, .any, .any, .any, .any, .any, .any, .any, .any, .any, .any, .any, .any, .any, .any] ∧ L = [(.l 19, .row (rowA l l.length) tQ3 3 true), (.l 51, .row (rowS l k) tInt 1 true)]) (l.length) [.p (.str s), .any, .any, .any, .any, .row (.l 19), .any, .any, .row (.l 51), .any, .any, .any, .any, .any, .any, .any, .any, .any, .any, .any, .any, .any, .any, .any, .any, .any, .any, .any, .any, .any, .any, .any, .any, .any, .any, .any, .any, .any, .any, .any, .any, .any, .any, .any, .any, .any, .any, .any, .any, .any, .any, .any, .any, .p (int (l.length : Nat)), .p (int (0 : Nat)), .any, .any, .any, .any, .any, .any, .any, .any, .any, .any, .any, .any, .any, .any, .any, .any, .any, .any, .any, .any, .any, .any, .any, .any, .any, .any, .any, .any, .any, .any, .any, .any, .any, .any, .any, .any, .any, .any, .any, .any, .any, .any, .any, .any, .any, .any, .any, .any, .any, .any, .any, .any, .any, .any, .any, .any, .any, .any, .any, .any, .any, .any, .any, .any, .any] [(.l 19, .row (rowA l l.length) tQ3 3 true), (.l 51, .row (rowS l 0) tInt 1 true)] (by simp only [ZZ, YY, Zd, ite_true, ite_false, forall_const, reduceCtorEq, Nat.reduceAdd, Nat.reduceMul, Nat.reduceLeDiff, Nat.reduceLT, Nat.reduceEqDiff, strE_len]; try trivial) (by (simp only [ZZ, YY, Zd, ite_true, ite_false, forall_const, reduceCtorEq, Nat.reduceAdd, Nat.reduceMul, Nat.reduceLeDiff, Nat.reduceLT, Nat.reduceEqDiff]; try trivial)) ⟨0, by omega, by omega, rfl, rfl⟩ ?_
    rintro n fr L ⟨k, hk, rfl, rfl, rfl⟩
    simp only [ir_thread_apart_L2, ZZ, YY, Zd, ite_true, ite_false, forall_const, reduceCtorEq, Nat.reduceAdd, Nat.reduceMul, Nat.reduceLeDiff, Nat.reduceLT, Nat.reduceEqDiff]
    have hgA : ∀ k, k < l.length → (rowA l l.length).getD k [] = [int (sgF l k), .str (txF l k), .bool false] := fun k h => by rw [rowA, tb_get h, if_pos h]; rfl
    refine br ?_ ?_
    · intro h
      have hlt : k < l.length := by have := of_decide_eq_true h; omega
      have hgS : (rowS l k).getD k [] = [int 0] := by rw [rowS, tb_get hlt]; simp
      simp only [ZZ, YY, Zd, ite_true, ite_false, forall_const, reduceCtorEq, Nat.reduceAdd, Nat.reduceMul, Nat.reduceLeDiff, Nat.reduceLT, Nat.reduceEqDiff, rowA_len, rowS_len, hgA k hlt, hgS]
      ((repeat' (with_reducible apply And.intro)) <;> try ((first | first | assumption | trivial | exact (fun hq => by rw [hq]; rfl) | exact i64_of (by omega) (by omega) | omega | (simp; done) | (simp; omega) | (intro hsc; have hs0 := hsc; (try have hsd := of_decide_eq_true hsc); (try simp only [Bool.not_eq_true', Bool.or_eq_false_iff, Bool.and_eq_true, Bool.or_eq_true, decide_eq_true_eq, decide_eq_false_iff_not] at hsc); (repeat' (with_reducible apply And.intro)) <;> (first | assumption | trivial | exact (fun hq => by rw [hq]; rfl) | exact i64_of (by omega) (by omega) | omega | (simp; done) | (simp; omega) | (intro hse; simp [hse, hs0]; done) | (intro hse; simp only [hse, hs0, Bool.true_and, Bool.and_true, Bool.not_false, Bool.not_true, Bool.and_self]; done))))))
      rw [rowS_set]
      refine end_round (l.length - (k + 1)) [.p (.str s), .any, .any, .any, .any, .row (.l 19), .any, .any, .row (.l 51), .any, .any, .any, .any, .any, .any, .any, .any, .any, .any, .any, .any, .any, .any, .any, .any, .any, .any, .any, .any, .any, .any, .any, .any, .any, .any, .any, .any, .any, .any, .any, .any, .any, .any, .any, .any, .any, .any, .any, .any, .any, .any, .any, .any, .p (int (l.length : Nat)), .p (int ((k + 1) : Nat)), .any, .any, .any, .any, .any, .any, .any, .any, .any, .any, .any, .any, .any, .any, .any, .any, .any, .any, .any, .any, .any, .any, .any, .any, .any, .any, .any, .any, .any, .any, .any, .any, .any, .any, .any, .any, .any, .any, .any, .any, .any, .any, .any, .any, .any, .any, .any, .any, .any, .any, .any, .any, .any, .any, .any, .any, .any, .any, .any, .any, .any, .any, .any, .any, .any] [(.l 19, .row (rowA l l.length) tQ3 3 true), (.l 51, .row (rowS l (k + 1)) tInt 1 true)] (by omega) (by (simp only [ZZ, YY, Zd, ite_true, ite_false, forall_const, reduceCtorEq, Nat.reduceAdd, Nat.reduceMul, Nat.reduceLeDiff, Nat.reduceLT, Nat.reduceEqDiff]; try trivial)) (by (simp only [ZZ, YY, Zd, ite_true, ite_false, forall_const, reduceCtorEq, Nat.reduceAdd, Nat.reduceMul, Nat.reduceLeDiff, Nat.reduceLT, Nat.reduceEqDiff]; try trivial)) ⟨k + 1, by omega, rfl, rfl, rfl⟩
    · intro h
      have hge : k = l.length := by have := of_decide_eq_false h; omega
      subst hge
      rw [rowC_zero]
      simp only [ZZ, YY, Zd, ite_true, ite_false, forall_const, reduceCtorEq, Nat.reduceAdd, Nat.reduceMul, Nat.reduceLeDiff, Nat.reduceLT, Nat.reduceEqDiff, rowC_len]
      refine loop_intro (fun n fr L => ∃ (i : Nat), i ≤ l.length ∧ n = l.length - i ∧ fr = [.p (.str s), .any, .any, .any, .any, .row (.l 19), .any, .any, .row (.l 51), .any, .any, .any, .any, .any, .any, .any, .any, .any, .any, .any, .any, .any, .any, .any, .any, .any, .any, .any, .any, .any, .any, .any, .any, .any, .any, .any, .any, .any, .any, .any, .any, .any, .any, .any, .any, .any, .any, .any, .any, .any, .any, .any, .any, .any, .any, .any, .any, .any, .any, .any, .any, .any, .any, .any, .any, .any, .any, .any, .p (int (l.length : Nat)), .p (int (i : Nat)), .any, .any, .any, .any, .any, .any, .any, .any, .any, .any, .any, .any, .any, .any, .any, .any, .any, .any, .any, .any, .any, .any, .any, .any, .any, .any, .any, .any, .any, .any, .any, .any, .any, .any, .any, .any, .any, .any, .any, .any, .any, .any, .any, .any, .any, .any, .any, .any, .any, .any] ∧ L = [(.l 19, .row (rowC l i) tQ3 3 true), (.l 51, .row (rowS l l.length) tInt 1 true)]) (l.length) [.p (.str s), .any, .any, .any, .any, .row (.l 19), .any, .any, .row (.l 51), .any, .any, .any, .any, .any, .any, .any, .any, .any, .any, .any, .any, .any, .any, .any, .any, .any, .any, .any, .any, .any, .any, .any, .any, .any, .any, .any, .any, .any, .any, .any, .any, .any, .any, .any, .any, .any, .any, .any, .any, .any, .any, .any, .any, .any, .any, .any, .any, .any, .any, .any, .any, .any, .any, .any, .any, .any, .any, .any, .p (int (l.length : Nat)), .p (int (0 : Nat)), .any, .any, .any, .any, .any, .any, .any, .any, .any, .any, .any, .any, .any, .any, .any, .any, .any, .any, .any, .any, .any, .any, .any, .any, .any, .any, .any, .any, .any, .any, .any, .any, .any, .any, .any, .any, .any, .any, .any, .any, .any, .any, .any, .any, .any, .any, .any, .any, .any, .any] [(.l 19, .row (rowC l 0) tQ3 3 true), (.l 51, .row (rowS l l.length) tInt 1 true)] (by simp only [ZZ, YY, Zd, ite_true, ite_false, forall_const, reduceCtorEq, Nat.reduceAdd, Nat.reduceMul, Nat.reduceLeDiff, Nat.reduceLT, Nat.reduceEqDiff, strE_len]; try trivial) (by (simp only [ZZ, YY, Zd, ite_true, ite_false, forall_const, reduceCtorEq, Nat.reduceAdd, Nat.reduceMul, Nat.reduceLeDiff, Nat.reduceLT, Nat.reduceEqDiff]; try trivial)) ⟨0, by omega, by omega, rfl, rfl⟩ ?_
      rintro n fr L ⟨i, hi, rfl, rfl, rfl⟩
      simp only [ir_thread_apart_L3, ZZ, YY, Zd, ite_true, ite_false, forall_const, reduceCtorEq, Nat.reduceAdd, Nat.reduceMul, Nat.reduceLeDiff, Nat.reduceLT, Nat.reduceEqDiff]
      refine br ?_ ?_
      · intro h
        have hlt : i < l.length := by have := of_decide_eq_true h; omega
        have hsb := sgF_bd hlb i
        simp only [ZZ, YY, Zd, ite_true, ite_false, forall_const, reduceCtorEq, Nat.reduceAdd, Nat.reduceMul, Nat.reduceLeDiff, Nat.reduceLT, Nat.reduceEqDiff, rowC_len, rowC_get hlt (Nat.le_refl i)]
        ((repeat' (with_reducible apply And.intro)) <;> try ((first | first | assumption | trivial | exact (fun hq => by rw [hq]; rfl) | exact i64_of (by omega) (by omega) | omega | (simp; done) | (simp; omega) | (intro hsc; have hs0 := hsc; (try have hsd := of_decide_eq_true hsc); (try simp only [Bool.not_eq_true', Bool.or_eq_false_iff, Bool.and_eq_true, Bool.or_eq_true, decide_eq_true_eq, decide_eq_false_iff_not] at hsc); (repeat' (with_reducible apply And.intro)) <;> (first | assumption | trivial | exact (fun hq => by rw [hq]; rfl) | exact i64_of (by omega) (by omega) | omega | (simp; done) | (simp; omega) | (intro hse; simp [hse, hs0]; done) | (intro hse; simp only [hse, hs0, Bool.true_and, Bool.and_true, Bool.not_false, Bool.not_true, Bool.and_self]; done))))))
        refine use1 (says_ok (txF l i) (by omega)) rfl (.inl rfl) ?_
        simp only [ZZ, YY, Zd, ite_true, ite_false, forall_const, reduceCtorEq, Nat.reduceAdd, Nat.reduceMul, Nat.reduceLeDiff, Nat.reduceLT, Nat.reduceEqDiff]
        refine br ?_ ?_
        · intro hn
          have hn : saysF (txF l i) = false := by simpa using hn
          have hq : qF l i = (sgF l i, false) := by simp [qF, hn]
          have hR := rowC_same hq
          simp only [ZZ, YY, Zd, ite_true, ite_false, forall_const, reduceCtorEq, Nat.reduceAdd, Nat.reduceMul, Nat.reduceLeDiff, Nat.reduceLT, Nat.reduceEqDiff]
          refine cut_same (by simp only [ZZ, YY, Zd, ite_true, ite_false, forall_const, reduceCtorEq, Nat.reduceAdd, Nat.reduceMul, Nat.reduceLeDiff, Nat.reduceLT, Nat.reduceEqDiff]) ?_
          simp only [ZZ, YY, Zd, ite_true, ite_false, forall_const, reduceCtorEq, Nat.reduceAdd, Nat.reduceMul, Nat.reduceLeDiff, Nat.reduceLT, Nat.reduceEqDiff]
          ((repeat' (with_reducible apply And.intro)) <;> try ((first | first | assumption | trivial | exact (fun hq => by rw [hq]; rfl) | exact i64_of (by omega) (by omega) | omega | (simp; done) | (simp; omega) | (intro hsc; have hs0 := hsc; (try have hsd := of_decide_eq_true hsc); (try simp only [Bool.not_eq_true', Bool.or_eq_false_iff, Bool.and_eq_true, Bool.or_eq_true, decide_eq_true_eq, decide_eq_false_iff_not] at hsc); (repeat' (with_reducible apply And.intro)) <;> (first | assumption | trivial | exact (fun hq => by rw [hq]; rfl) | exact i64_of (by omega) (by omega) | omega | (simp; done) | (simp; omega) | (intro hse; simp [hse, hs0]; done) | (intro hse; simp only [hse, hs0, Bool.true_and, Bool.and_true, Bool.not_false, Bool.not_true, Bool.and_self]; done))))))
          rw [hR]
          refine end_round (l.length - (i + 1)) [.p (.str s), .any, .any, .any, .any, .row (.l 19), .any, .any, .row (.l 51), .any, .any, .any, .any, .any, .any, .any, .any, .any, .any, .any, .any, .any, .any, .any, .any, .any, .any, .any, .any, .any, .any, .any, .any, .any, .any, .any, .any, .any, .any, .any, .any, .any, .any, .any, .any, .any, .any, .any, .any, .any, .any, .any, .any, .any, .any, .any, .any, .any, .any, .any, .any, .any, .any, .any, .any, .any, .any, .any, .p (int (l.length : Nat)), .p (int ((i + 1) : Nat)), .any, .any, .any, .any, .any, .any, .any, .any, .any, .any, .any, .any, .any, .any, .any, .any, .any, .any, .any, .any, .any, .any, .any, .any, .any, .any, .any, .any, .any, .any, .any, .any, .any, .any, .any, .any, .any, .any, .any, .any, .any, .any, .any, .any, .any, .any, .any, .any, .any, .any] [(.l 19, .row (rowC l (i + 1)) tQ3 3 true), (.l 51, .row (rowS l l.length) tInt 1 true)] (by omega) (by (simp only [ZZ, YY, Zd, ite_true, ite_false, forall_const, reduceCtorEq, Nat.reduceAdd, Nat.reduceMul, Nat.reduceLeDiff, Nat.reduceLT, Nat.reduceEqDiff]; try trivial)) (by (simp only [ZZ, YY, Zd, ite_true, ite_false, forall_const, reduceCtorEq, Nat.reduceAdd, Nat.reduceMul, Nat.reduceLeDiff, Nat.reduceLT, Nat.reduceEqDiff]; try trivial)) ⟨i + 1, by omega, rfl, rfl, rfl⟩
        · intro hy
          have hy : saysF (txF l i) = true := by simpa using hy
          simp only [ZZ, YY, Zd, ite_true, ite_false, forall_const, reduceCtorEq, Nat.reduceAdd, Nat.reduceMul, Nat.reduceLeDiff, Nat.reduceLT, Nat.reduceEqDiff]
          ((repeat' (with_reducible apply And.intro)) <;> try ((first | first | assumption | trivial | exact (fun hq => by rw [hq]; rfl) | exact i64_of (by omega) (by omega) | omega | (simp; done) | (simp; omega) | (intro hsc; have hs0 := hsc; (try have hsd := of_decide_eq_true hsc); (try simp only [Bool.not_eq_true', Bool.or_eq_false_iff, Bool.and_eq_true, Bool.or_eq_true, decide_eq_true_eq, decide_eq_false_iff_not] at hsc); (repeat' (with_reducible apply And.intro)) <;> (first | assumption | trivial | exact (fun hq => by rw [hq]; rfl) | exact i64_of (by omega) (by omega) | omega | (simp; done) | (simp; omega) | (intro hse; simp [hse, hs0]; done) | (intro hse; simp only [hse, hs0, Bool.true_and, Bool.and_true, Bool.not_false, Bool.not_true, Bool.and_self]; done))))))
          refine loop_intro (fun n fr L => ∃ (k : Nat), l.length - k = n ∧ (atF l i (i + 1) = atF l i k) ∧ (i < k ∧ k ≤ l.length) ∧ fr = [.p (.str s), .any, .any, .any, .any, .row (.l 19), .any, .any, .row (.l 51), .any, .p (int (i : Nat)), .p (int (k : Nat)), .any, .any, .any, .any, .any, .any, .any, .any, .any, .any, .any, .any, .any, .any, .any, .any, .any, .any, .any, .any, .any, .any, .any, .any, .any, .any, .any, .any, .any, .any, .any, .any, .any, .any, .any, .any, .any, .any, .any, .any, .any, .any, .any, .any, .any, .any, .any, .any, .any, .any, .any, .any, .any, .any, .any, .any, .p (int (l.length : Nat)), .p (int (i : Nat)), .any, .any, .any, .any, .any, .any, .any, .any, .any, .any, .any, .any, .any, .any, .any, .any, .any, .any, .any, .any, .any, .any, .any, .any, .any, .any, .any, .any, .any, .any, .any, .any, .any, .any, .any, .any, .any, .any, .any, .any, .any, .any, .any, .any, .any, .any, .any, .any, .any, .any] ∧ L = [(.l 19, .row (rowC l i) tQ3 3 true), (.l 51, .row (rowS l l.length) tInt 1 true)]) (l.length - (i + 1)) [.p (.str s), .any, .any, .any, .any, .row (.l 19), .any, .any, .row (.l 51), .any, .p (int (i : Nat)), .p (int ((i + 1) : Nat)), .any, .any, .any, .any, .any, .any, .any, .any, .any, .any, .any, .any, .any, .any, .any, .any, .any, .any, .any, .any, .any, .any, .any, .any, .any, .any, .any, .any, .any, .any, .any, .any, .any, .any, .any, .any, .any, .any, .any, .any, .any, .any, .any, .any, .any, .any, .any, .any, .any, .any, .any, .any, .any, .any, .any, .any, .p (int (l.length : Nat)), .p (int (i : Nat)), .any, .any, .any, .any, .any, .any, .any, .any, .any, .any, .any, .any, .any, .any, .any, .any, .any, .any, .any, .any, .any, .any, .any, .any, .any, .any, .any, .any, .any, .any, .any, .any, .any, .any, .any, .any, .any, .any, .any, .any, .any, .any, .any, .any, .any, .any, .any, .any, .any, .any] [(.l 19, .row (rowC l i) tQ3 3 true), (.l 51, .row (rowS l l.length) tInt 1 true)] (by (simp only [ZZ, YY, Zd, ite_true, ite_false, forall_const, reduceCtorEq, Nat.reduceAdd, Nat.reduceMul, Nat.reduceLeDiff, Nat.reduceLT, Nat.reduceEqDiff]; try trivial)) (by (simp only [ZZ, YY, Zd, ite_true, ite_false, forall_const, reduceCtorEq, Nat.reduceAdd, Nat.reduceMul, Nat.reduceLeDiff, Nat.reduceLT, Nat.reduceEqDiff]; try trivial)) ⟨i + 1, rfl, rfl, by omega, rfl, rfl⟩ ?_
          rintro n fr L ⟨k, rfl, hat, hki, rfl, rfl⟩
          simp only [ir_thread_apart_L4, ZZ, YY, Zd, ite_true, ite_false, forall_const, reduceCtorEq, Nat.reduceAdd, Nat.reduceMul, Nat.reduceLeDiff, Nat.reduceLT, Nat.reduceEqDiff]
          simp only [ZZ, YY, Zd, ite_true, ite_false, forall_const, reduceCtorEq, Nat.reduceAdd, Nat.reduceMul, Nat.reduceLeDiff, Nat.reduceLT, Nat.reduceEqDiff, rowC_len]
          refine br ?_ ?_
          · intro h2
            have hlt2 : k < l.length := by have := of_decide_eq_true h2; omega
            refine drg0 ?_
            simp only [ZZ, YY, Zd, ite_true, ite_false, forall_const, reduceCtorEq, Nat.reduceAdd, Nat.reduceMul, Nat.reduceLeDiff, Nat.reduceLT, Nat.reduceEqDiff, rowS_len, rowS_get hlt2, rowS_get hlt]
            ((repeat' (with_reducible apply And.intro)) <;> try ((first | first | assumption | trivial | exact (fun hq => by rw [hq]; rfl) | exact i64_of (by omega) (by omega) | omega | (simp; done) | (simp; omega) | (intro hsc; have hs0 := hsc; (try have hsd := of_decide_eq_true hsc); (try simp only [Bool.not_eq_true', Bool.or_eq_false_iff, Bool.and_eq_true, Bool.or_eq_true, decide_eq_true_eq, decide_eq_false_iff_not] at hsc); (repeat' (with_reducible apply And.intro)) <;> (first | assumption | trivial | exact (fun hq => by rw [hq]; rfl) | exact i64_of (by omega) (by omega) | omega | (simp; done) | (simp; omega) | (intro hse; simp [hse, hs0]; done) | (intro hse; simp only [hse, hs0, Bool.true_and, Bool.and_true, Bool.not_false, Bool.not_true, Bool.and_self]; done))))))
            refine br ?_ ?_
            · intro h3
              have h3 : sgF l i < sgF l k := by have := of_decide_eq_true h3; omega
              have hq : qF l i = (sgF l k, true) := by
                have : atF l i k = some (sgF l k) := by rw [atF, dif_pos hlt2, if_pos h3]
                simp [qF, hy, hat, this]
              have hR := rowC_set hq
              simp only [ZZ, YY, Zd, ite_true, ite_false, forall_const, reduceCtorEq, Nat.reduceAdd, Nat.reduceMul, Nat.reduceLeDiff, Nat.reduceLT, Nat.reduceEqDiff, rowC_len, rowC_get hlt (Nat.le_refl i), rowS_len, rowS_get hlt2, thenQ, set_get (show i < (rowC l i).length by rw [rowC_len]; exact hlt), List.length_set, List.set_set]
              rw [hR]
              ((repeat' (with_reducible apply And.intro)) <;> try ((first | first | assumption | trivial | exact (fun hq => by rw [hq]; rfl) | exact i64_of (by omega) (by omega) | omega | (simp; done) | (simp; omega) | (intro hsc; have hs0 := hsc; (try have hsd := of_decide_eq_true hsc); (try simp only [Bool.not_eq_true', Bool.or_eq_false_iff, Bool.and_eq_true, Bool.or_eq_true, decide_eq_true_eq, decide_eq_false_iff_not] at hsc); (repeat' (with_reducible apply And.intro)) <;> (first | assumption | trivial | exact (fun hq => by rw [hq]; rfl) | exact i64_of (by omega) (by omega) | omega | (simp; done) | (simp; omega) | (intro hse; simp [hse, hs0]; done) | (intro hse; simp only [hse, hs0, Bool.true_and, Bool.and_true, Bool.not_false, Bool.not_true, Bool.and_self]; done))))))
              refine cut_same (by simp only [ZZ, YY, Zd, ite_true, ite_false, forall_const, reduceCtorEq, Nat.reduceAdd, Nat.reduceMul, Nat.reduceLeDiff, Nat.reduceLT, Nat.reduceEqDiff]) ?_
              simp only [ZZ, YY, Zd, ite_true, ite_false, forall_const, reduceCtorEq, Nat.reduceAdd, Nat.reduceMul, Nat.reduceLeDiff, Nat.reduceLT, Nat.reduceEqDiff]
              ((repeat' (with_reducible apply And.intro)) <;> try ((first | first | assumption | trivial | exact (fun hq => by rw [hq]; rfl) | exact i64_of (by omega) (by omega) | omega | (simp; done) | (simp; omega) | (intro hsc; have hs0 := hsc; (try have hsd := of_decide_eq_true hsc); (try simp only [Bool.not_eq_true', Bool.or_eq_false_iff, Bool.and_eq_true, Bool.or_eq_true, decide_eq_true_eq, decide_eq_false_iff_not] at hsc); (repeat' (with_reducible apply And.intro)) <;> (first | assumption | trivial | exact (fun hq => by rw [hq]; rfl) | exact i64_of (by omega) (by omega) | omega | (simp; done) | (simp; omega) | (intro hse; simp [hse, hs0]; done) | (intro hse; simp only [hse, hs0, Bool.true_and, Bool.and_true, Bool.not_false, Bool.not_true, Bool.and_self]; done))))))
              refine end_round (l.length - (i + 1)) [.p (.str s), .any, .any, .any, .any, .row (.l 19), .any, .any, .row (.l 51), .any, .any, .any, .any, .any, .any, .any, .any, .any, .any, .any, .any, .any, .any, .any, .any, .any, .any, .any, .any, .any, .any, .any, .any, .any, .any, .any, .any, .any, .any, .any, .any, .any, .any, .any, .any, .any, .any, .any, .any, .any, .any, .any, .any, .any, .any, .any, .any, .any, .any, .any, .any, .any, .any, .any, .any, .any, .any, .any, .p (int (l.length : Nat)), .p (int ((i + 1) : Nat)), .any, .any, .any, .any, .any, .any, .any, .any, .any, .any, .any, .any, .any, .any, .any, .any, .any, .any, .any, .any, .any, .any, .any, .any, .any, .any, .any, .any, .any, .any, .any, .any, .any, .any, .any, .any, .any, .any, .any, .any, .any, .any, .any, .any, .any, .any, .any, .any, .any, .any] [(.l 19, .row (rowC l (i + 1)) tQ3 3 true), (.l 51, .row (rowS l l.length) tInt 1 true)] (by omega) (by (simp only [ZZ, YY, Zd, ite_true, ite_false, forall_const, reduceCtorEq, Nat.reduceAdd, Nat.reduceMul, Nat.reduceLeDiff, Nat.reduceLT, Nat.reduceEqDiff]; try trivial)) (by (simp only [ZZ, YY, Zd, ite_true, ite_false, forall_const, reduceCtorEq, Nat.reduceAdd, Nat.reduceMul, Nat.reduceLeDiff, Nat.reduceLT, Nat.reduceEqDiff]; try trivial)) ⟨i + 1, by omega, rfl, rfl, rfl⟩
            · intro h3
              have h3 : ¬ sgF l i < sgF l k := by have := of_decide_eq_false h3; omega
              simp only [ZZ, YY, Zd, ite_true, ite_false, forall_const, reduceCtorEq, Nat.reduceAdd, Nat.reduceMul, Nat.reduceLeDiff, Nat.reduceLT, Nat.reduceEqDiff, rowC_len, rowC_get hlt2 (by omega : i ≤ k), thenQ]
              ((repeat' (with_reducible apply And.intro)) <;> try ((first | first | assumption | trivial | exact (fun hq => by rw [hq]; rfl) | exact i64_of (by omega) (by omega) | omega | (simp; done) | (simp; omega) | (intro hsc; have hs0 := hsc; (try have hsd := of_decide_eq_true hsc); (try simp only [Bool.not_eq_true', Bool.or_eq_false_iff, Bool.and_eq_true, Bool.or_eq_true, decide_eq_true_eq, decide_eq_false_iff_not] at hsc); (repeat' (with_reducible apply And.intro)) <;> (first | assumption | trivial | exact (fun hq => by rw [hq]; rfl) | exact i64_of (by omega) (by omega) | omega | (simp; done) | (simp; omega) | (intro hse; simp [hse, hs0]; done) | (intro hse; simp only [hse, hs0, Bool.true_and, Bool.and_true, Bool.not_false, Bool.not_true, Bool.and_self]; done))))))
              have hsb2 := sgF_bd hlb k
              refine use1 (blank_ok (txF l k) (by omega)) rfl (.inl rfl) ?_
              simp only [ZZ, YY, Zd, ite_true, ite_false, forall_const, reduceCtorEq, Nat.reduceAdd, Nat.reduceMul, Nat.reduceLeDiff, Nat.reduceLT, Nat.reduceEqDiff]
              refine br ?_ ?_
              · intro h4
                have h4 : blankF (txF l k) = false := by simpa using h4
                have hq : qF l i = (sgF l i, false) := by
                  have : atF l i k = none := by rw [atF, dif_pos hlt2, if_neg h3, if_neg (by rw [h4]; simp)]
                  simp [qF, hy, hat, this]
                have hR := rowC_same hq
                simp only [ZZ, YY, Zd, ite_true, ite_false, forall_const, reduceCtorEq, Nat.reduceAdd, Nat.reduceMul, Nat.reduceLeDiff, Nat.reduceLT, Nat.reduceEqDiff]
                refine cut_same (by simp only [ZZ, YY, Zd, ite_true, ite_false, forall_const, reduceCtorEq, Nat.reduceAdd, Nat.reduceMul, Nat.reduceLeDiff, Nat.reduceLT, Nat.reduceEqDiff]) ?_
                simp only [ZZ, YY, Zd, ite_true, ite_false, forall_const, reduceCtorEq, Nat.reduceAdd, Nat.reduceMul, Nat.reduceLeDiff, Nat.reduceLT, Nat.reduceEqDiff]
                ((repeat' (with_reducible apply And.intro)) <;> try ((first | first | assumption | trivial | exact (fun hq => by rw [hq]; rfl) | exact i64_of (by omega) (by omega) | omega | (simp; done) | (simp; omega) | (intro hsc; have hs0 := hsc; (try have hsd := of_decide_eq_true hsc); (try simp only [Bool.not_eq_true', Bool.or_eq_false_iff, Bool.and_eq_true, Bool.or_eq_true, decide_eq_true_eq, decide_eq_false_iff_not] at hsc); (repeat' (with_reducible apply And.intro)) <;> (first | assumption | trivial | exact (fun hq => by rw [hq]; rfl) | exact i64_of (by omega) (by omega) | omega | (simp; done) | (simp; omega) | (intro hse; simp [hse, hs0]; done) | (intro hse; simp only [hse, hs0, Bool.true_and, Bool.and_true, Bool.not_false, Bool.not_true, Bool.and_self]; done))))))
                rw [hR]
                refine end_round (l.length - (i + 1)) [.p (.str s), .any, .any, .any, .any, .row (.l 19), .any, .any, .row (.l 51), .any, .any, .any, .any, .any, .any, .any, .any, .any, .any, .any, .any, .any, .any, .any, .any, .any, .any, .any, .any, .any, .any, .any, .any, .any, .any, .any, .any, .any, .any, .any, .any, .any, .any, .any, .any, .any, .any, .any, .any, .any, .any, .any, .any, .any, .any, .any, .any, .any, .any, .any, .any, .any, .any, .any, .any, .any, .any, .any, .p (int (l.length : Nat)), .p (int ((i + 1) : Nat)), .any, .any, .any, .any, .any, .any, .any, .any, .any, .any, .any, .any, .any, .any, .any, .any, .any, .any, .any, .any, .any, .any, .any, .any, .any, .any, .any, .any, .any, .any, .any, .any, .any, .any, .any, .any, .any, .any, .any, .any, .any, .any, .any, .any, .any, .any, .any, .any, .any, .any] [(.l 19, .row (rowC l (i + 1)) tQ3 3 true), (.l 51, .row (rowS l l.length) tInt 1 true)] (by omega) (by (simp only [ZZ, YY, Zd, ite_true, ite_false, forall_const, reduceCtorEq, Nat.reduceAdd, Nat.reduceMul, Nat.reduceLeDiff, Nat.reduceLT, Nat.reduceEqDiff]; try trivial)) (by (simp only [ZZ, YY, Zd, ite_true, ite_false, forall_const, reduceCtorEq, Nat.reduceAdd, Nat.reduceMul, Nat.reduceLeDiff, Nat.reduceLT, Nat.reduceEqDiff]; try trivial)) ⟨i + 1, by omega, rfl, rfl, rfl⟩
              · intro h4
                have h4 : blankF (txF l k) = true := by simpa using h4
                have hn4 : atF l i k = atF l i (k + 1) := by rw [atF, dif_pos hlt2, if_neg h3, if_pos h4]
                simp only [ZZ, YY, Zd, ite_true, ite_false, forall_const, reduceCtorEq, Nat.reduceAdd, Nat.reduceMul, Nat.reduceLeDiff, Nat.reduceLT, Nat.reduceEqDiff, thenQ]
                ((repeat' (with_reducible apply And.intro)) <;> try ((first | first | assumption | trivial | exact (fun hq => by rw [hq]; rfl) | exact i64_of (by omega) (by omega) | omega | (simp; done) | (simp; omega) | (intro hsc; have hs0 := hsc; (try have hsd := of_decide_eq_true hsc); (try simp only [Bool.not_eq_true', Bool.or_eq_false_iff, Bool.and_eq_true, Bool.or_eq_true, decide_eq_true_eq, decide_eq_false_iff_not] at hsc); (repeat' (with_reducible apply And.intro)) <;> (first | assumption | trivial | exact (fun hq => by rw [hq]; rfl) | exact i64_of (by omega) (by omega) | omega | (simp; done) | (simp; omega) | (intro hse; simp [hse, hs0]; done) | (intro hse; simp only [hse, hs0, Bool.true_and, Bool.and_true, Bool.not_false, Bool.not_true, Bool.and_self]; done))))))
                refine end_round (l.length - (k + 1)) [.p (.str s), .any, .any, .any, .any, .row (.l 19), .any, .any, .row (.l 51), .any, .p (int (i : Nat)), .p (int ((k + 1) : Nat)), .any, .any, .any, .any, .any, .any, .any, .any, .any, .any, .any, .any, .any, .any, .any, .any, .any, .any, .any, .any, .any, .any, .any, .any, .any, .any, .any, .any, .any, .any, .any, .any, .any, .any, .any, .any, .any, .any, .any, .any, .any, .any, .any, .any, .any, .any, .any, .any, .any, .any, .any, .any, .any, .any, .any, .any, .p (int (l.length : Nat)), .p (int (i : Nat)), .any, .any, .any, .any, .any, .any, .any, .any, .any, .any, .any, .any, .any, .any, .any, .any, .any, .any, .any, .any, .any, .any, .any, .any, .any, .any, .any, .any, .any, .any, .any, .any, .any, .any, .any, .any, .any, .any, .any, .any, .any, .any, .any, .any, .any, .any, .any, .any, .any, .any] [(.l 19, .row (rowC l i) tQ3 3 true), (.l 51, .row (rowS l l.length) tInt 1 true)] (by omega) (by (simp only [ZZ, YY, Zd, ite_true, ite_false, forall_const, reduceCtorEq, Nat.reduceAdd, Nat.reduceMul, Nat.reduceLeDiff, Nat.reduceLT, Nat.reduceEqDiff]; try trivial)) (by (simp only [ZZ, YY, Zd, ite_true, ite_false, forall_const, reduceCtorEq, Nat.reduceAdd, Nat.reduceMul, Nat.reduceLeDiff, Nat.reduceLT, Nat.reduceEqDiff]; try trivial)) ⟨k + 1, rfl, by rw [hat, hn4], by omega, rfl, rfl⟩
          · intro h2
            have hge2 : l.length ≤ k := by have := of_decide_eq_false h2; omega
            have hq : qF l i = (sgF l i, false) := by simp [qF, hy, hat]; rw [atF, dif_neg (by omega)]
            have hR := rowC_same hq
            simp only [ZZ, YY, Zd, ite_true, ite_false, forall_const, reduceCtorEq, Nat.reduceAdd, Nat.reduceMul, Nat.reduceLeDiff, Nat.reduceLT, Nat.reduceEqDiff]
            refine cut_same (by simp only [ZZ, YY, Zd, ite_true, ite_false, forall_const, reduceCtorEq, Nat.reduceAdd, Nat.reduceMul, Nat.reduceLeDiff, Nat.reduceLT, Nat.reduceEqDiff]) ?_
            simp only [ZZ, YY, Zd, ite_true, ite_false, forall_const, reduceCtorEq, Nat.reduceAdd, Nat.reduceMul, Nat.reduceLeDiff, Nat.reduceLT, Nat.reduceEqDiff]
            ((repeat' (with_reducible apply And.intro)) <;> try ((first | first | assumption | trivial | exact (fun hq => by rw [hq]; rfl) | exact i64_of (by omega) (by omega) | omega | (simp; done) | (simp; omega) | (intro hsc; have hs0 := hsc; (try have hsd := of_decide_eq_true hsc); (try simp only [Bool.not_eq_true', Bool.or_eq_false_iff, Bool.and_eq_true, Bool.or_eq_true, decide_eq_true_eq, decide_eq_false_iff_not] at hsc); (repeat' (with_reducible apply And.intro)) <;> (first | assumption | trivial | exact (fun hq => by rw [hq]; rfl) | exact i64_of (by omega) (by omega) | omega | (simp; done) | (simp; omega) | (intro hse; simp [hse, hs0]; done) | (intro hse; simp only [hse, hs0, Bool.true_and, Bool.and_true, Bool.not_false, Bool.not_true, Bool.and_self]; done))))))
            rw [hR]
            refine end_round (l.length - (i + 1)) [.p (.str s), .any, .any, .any, .any, .row (.l 19), .any, .any, .row (.l 51), .any, .any, .any, .any, .any, .any, .any, .any, .any, .any, .any, .any, .any, .any, .any, .any, .any, .any, .any, .any, .any, .any, .any, .any, .any, .any, .any, .any, .any, .any, .any, .any, .any, .any, .any, .any, .any, .any, .any, .any, .any, .any, .any, .any, .any, .any, .any, .any, .any, .any, .any, .any, .any, .any, .any, .any, .any, .any, .any, .p (int (l.length : Nat)), .p (int ((i + 1) : Nat)), .any, .any, .any, .any, .any, .any, .any, .any, .any, .any, .any, .any, .any, .any, .any, .any, .any, .any, .any, .any, .any, .any, .any, .any, .any, .any, .any, .any, .any, .any, .any, .any, .any, .any, .any, .any, .any, .any, .any, .any, .any, .any, .any, .any, .any, .any, .any, .any, .any, .any] [(.l 19, .row (rowC l (i + 1)) tQ3 3 true), (.l 51, .row (rowS l l.length) tInt 1 true)] (by omega) (by (simp only [ZZ, YY, Zd, ite_true, ite_false, forall_const, reduceCtorEq, Nat.reduceAdd, Nat.reduceMul, Nat.reduceLeDiff, Nat.reduceLT, Nat.reduceEqDiff]; try trivial)) (by (simp only [ZZ, YY, Zd, ite_true, ite_false, forall_const, reduceCtorEq, Nat.reduceAdd, Nat.reduceMul, Nat.reduceLeDiff, Nat.reduceLT, Nat.reduceEqDiff]; try trivial)) ⟨i + 1, by omega, rfl, rfl, rfl⟩
      · intro h
        have hge : i = l.length := by have := of_decide_eq_false h; omega
        subst hge
        rw [rowC_end]
        simp only [ZZ, YY, Zd, ite_true, ite_false, forall_const, reduceCtorEq, Nat.reduceAdd, Nat.reduceMul, Nat.reduceLeDiff, Nat.reduceLT, Nat.reduceEqDiff]
        exact fin_F 19 _ rfl rfl rfl
end Go.Proofs.YtndjmidmfmcbkaaGreatDoor

/- Pieces of strings, in plain Lean. -/
namespace Go.Proofs.YtndjmidmfmcbkaaGreatDoor
open Go.RowKit
set_option linter.unusedVariables false
set_option linter.unusedSimpArgs false
set_option linter.defProp false

/-- The pieces of a string between bytes c. -/
def sp (c : UInt8) : List UInt8 → List (List UInt8)
  | [] => [[]]
  | x :: s => if x = c then [] :: sp c s else (x :: (sp c s).headD []) :: (sp c s).tail
theorem sp_ne (c : UInt8) (s : List UInt8) : sp c s ≠ [] := by
  cases s with
  | nil => simp [sp]
  | cons x s => unfold sp; split <;> simp
theorem split_miss {s : List UInt8} {c : UInt8} (h : Lib.index s [c] = -1) : Lib.split s [c] = [s] := by
  unfold Lib.split
  rw [Lib.count_miss h]
  rfl
theorem split_hit {s : List UInt8} {c : UInt8} {i : Nat} (h : Lib.index s [c] = i) : Lib.split s [c] = s.take i :: Lib.split (s.drop (i + 1)) [c] := by
  unfold Lib.split
  rw [Lib.count_hit (by simp) h, Nat.add_comm, Lib.splitK, if_neg (by rw [h]; simp), h]
  simp
theorem split_sp (c : UInt8) : ∀ s : List UInt8, Lib.split s [c] = sp c s := by
  intro s
  induction s with
  | nil => rw [split_miss (by rfl)]; rfl
  | cons x s ih =>
    by_cases hx : x = c
    · subst hx
      have h0 : Lib.index (x :: s) [x] = ((0 : Nat) : Int) := by rw [Lib.index_one]; simp [Lib.indexByte]
      rw [split_hit h0, sp, if_pos rfl, ← ih]
      simp
    · have hi : Lib.index (x :: s) [c] = if Lib.index s [c] = -1 then -1 else Lib.index s [c] + 1 := by
        rw [Lib.index_one, Lib.index_one, Lib.indexByte]
        simp [hx]
      rw [sp, if_neg hx, ← ih]
      by_cases hm : Lib.index s [c] = -1
      · rw [if_pos hm] at hi
        rw [split_miss hi, split_miss hm]
        rfl
      · rw [if_neg hm] at hi
        have hge := Lib.indexByte_ge s c
        rw [← Lib.index_one] at hge
        obtain ⟨i, hi2⟩ : ∃ i : Nat, Lib.index s [c] = i := ⟨(Lib.index s [c]).toNat, by omega⟩
        rw [hi2] at hi
        rw [split_hit (i := i + 1) (by rw [hi]; simp), split_hit hi2]
        simp
theorem splF_sp (s : List UInt8) (c : UInt8) : splF s c = sp c s := by
  rw [← split_sp]
  unfold splF Lib.split
  rw [Lib.splitB_data]
theorem sp_app (c : UInt8) (b : List UInt8) : ∀ a : List UInt8, sp c (a ++ c :: b) = sp c a ++ sp c b := by
  intro a
  induction a with
  | nil => simp [sp]
  | cons x a ih =>
    rw [List.cons_append, sp, sp, ih]
    split
    · simp
    · have := sp_ne c a
      cases h : sp c a with
      | nil => exact absurd h this
      | cons y r => simp
theorem sp_free (c : UInt8) : ∀ s : List UInt8, ∀ x ∈ sp c s, c ∉ x := by
  intro s
  induction s with
  | nil => simp [sp]
  | cons y s ih =>
    intro x hx
    rw [sp] at hx
    split at hx
    · rcases List.mem_cons.1 hx with rfl | hx
      · simp
      · exact ih x hx
    · rename_i hy
      cases h : sp c s with
      | nil => exact absurd h (sp_ne c s)
      | cons z r =>
        rw [h] at hx ih
        rcases List.mem_cons.1 hx with rfl | hx
        · have := ih z (by simp)
          simp only [List.headD_cons, List.mem_cons, not_or]
          exact ⟨fun e => hy e.symm, this⟩
        · exact ih x (by simp only [List.tail_cons] at hx; exact List.mem_cons_of_mem _ hx)
theorem sp_one {c : UInt8} : ∀ {s : List UInt8}, c ∉ s → sp c s = [s] := by
  intro s
  induction s with
  | nil => intro _; rfl
  | cons y s ih =>
    intro h
    simp only [List.mem_cons, not_or] at h
    rw [sp, if_neg (fun e => h.1 e.symm), ih h.2]
    rfl
/-- What pieces weigh: their bytes, and one more for each. -/
def wgt : List (List UInt8) → Nat
  | [] => 0
  | x :: r => x.length + 1 + wgt r
theorem wgt_app (a b : List (List UInt8)) : wgt (a ++ b) = wgt a + wgt b := by
  induction a with
  | nil => simp [wgt]
  | cons x a ih => simp only [List.cons_append, wgt, ih]; omega
theorem wgt_filter (p : List UInt8 → Bool) (a : List (List UInt8)) : wgt (a.filter p) ≤ wgt a := by
  induction a with
  | nil => simp [wgt]
  | cons x a ih =>
    rw [List.filter_cons]
    split
    · simp only [wgt]; omega
    · simp only [wgt]; omega
theorem wgt_len (a : List (List UInt8)) : a.length ≤ wgt a := by
  induction a with
  | nil => simp
  | cons x a ih => simp only [wgt, List.length_cons]; omega
theorem sp_wgt (c : UInt8) : ∀ s : List UInt8, wgt (sp c s) = s.length + 1 := by
  intro s
  induction s with
  | nil => simp [sp, wgt]
  | cons y s ih =>
    rw [sp]
    split
    · simp only [wgt, ih, List.length_cons, List.length_nil]; omega
    · cases h : sp c s with
      | nil => exact absurd h (sp_ne c s)
      | cons z r =>
        rw [h] at ih
        simp only [wgt, List.headD_cons, List.tail_cons, List.length_cons] at ih ⊢
        omega
theorem joinF_cons (x y : List UInt8) (r : List (List UInt8)) : joinF (x :: y :: r) = x ++ 32 :: joinF (y :: r) := by
  unfold joinF
  rw [Lib.join_cons, Lib.join_cons]
  simp [Lib.joinTail]
theorem joinF_wgt : ∀ (l : List (List UInt8)), (joinF l).length ≤ wgt l - 1
  | [] => by simp [joinF, Lib.join_nil]
  | [x] => by simp [joinF, Lib.join_one, wgt]
  | x :: y :: r => by
    have := joinF_wgt (y :: r)
    rw [joinF_cons]
    simp only [wgt, List.length_append, List.length_cons] at this ⊢
    omega
theorem bits_nil : bits [] = [] := by rw [bits, splF_sp]; rfl
theorem bits_app (a b : List UInt8) : bits (a ++ 32 :: b) = bits a ++ bits b := by
  unfold bits
  rw [splF_sp, splF_sp, splF_sp, sp_app, List.filter_append]
theorem bits_join : ∀ ws : List (List UInt8), bits (joinF ws) = (ws.map bits).flatten
  | [] => by simp [joinF, Lib.join_nil, bits_nil]
  | [x] => by simp [joinF, Lib.join_one]
  | x :: y :: r => by
    have := bits_join (y :: r)
    rw [joinF_cons, bits_app, this]
    simp
theorem bits_wgt (s : List UInt8) : wgt (bits s) ≤ s.length + 1 := by
  unfold bits
  rw [splF_sp]
  have := wgt_filter (fun x : List UInt8 => !x.isEmpty) (sp 32 s)
  rw [sp_wgt] at this
  exact this
theorem sqF_len (s : List UInt8) : (sqF s).length ≤ s.length := by
  have h1 := joinF_wgt (bits s)
  have h2 := bits_wgt s
  unfold sqF
  omega
/-- Words: no blank in them, and not empty. -/
def isW (ws : List (List UInt8)) : Prop := ∀ w ∈ ws, 32 ∉ w ∧ w ≠ []
theorem bits_isW (s : List UInt8) : isW (bits s) := by
  intro w hw
  unfold bits at hw
  rw [splF_sp] at hw
  have h := List.mem_filter.1 hw
  exact ⟨sp_free 32 s w h.1, by intro e; subst e; simp at h⟩
theorem bits_word {w : List UInt8} (h1 : 32 ∉ w) (h2 : w ≠ []) : bits w = [w] := by
  unfold bits
  rw [splF_sp, sp_one h1]
  cases w with
  | nil => exact absurd rfl h2
  | cons x r => rfl
theorem bits_words : ∀ {ws : List (List UInt8)}, isW ws → bits (joinF ws) = ws := by
  intro ws h
  rw [bits_join]
  induction ws with
  | nil => rfl
  | cons x r ih =>
    have hx := h x (by simp)
    rw [List.map_cons, List.flatten_cons, bits_word hx.1 hx.2, ih (fun w hw => h w (by simp [hw]))]
    rfl
theorem joinF_nil {ws : List (List UInt8)} (h : isW ws) : joinF ws = [] ↔ ws = [] := by
  constructor
  · intro e
    have := bits_words h
    rw [e, bits_nil] at this
    exact this.symm
  · rintro rfl; rfl
theorem sqF_nil (s : List UInt8) : sqF s = [] ↔ bits s = [] := joinF_nil (bits_isW s)
theorem bits_none (s : List UInt8) : bits s = [] ↔ s.all (fun c => [(32 : UInt8)].contains c) = true := by
  induction s with
  | nil => simp [bits_nil]
  | cons x s ih =>
    by_cases hx : x = 32
    · subst hx
      have := bits_app [] s
      rw [List.nil_append, bits_nil, List.nil_append] at this
      rw [this, ih]
      simp
    · constructor
      · intro h
        exfalso
        unfold bits at h
        rw [splF_sp, sp, if_neg hx] at h
        simp at h
      · intro h
        simp [hx] at h
theorem sq_blank (s : List UInt8) : decide (sqF s = []) = blankF s := by
  have h : blankF s = madeF s [32] := rfl
  rw [h, madeF_all, Bool.eq_iff_iff, decide_eq_true_iff, sqF_nil, bits_none]
theorem low32 (c : UInt8) : lowB c = 32 ↔ c = 32 := by
  revert c
  refine all256 ?_
  decide +kernel
theorem sp_low (s : List UInt8) : sp 32 (lowF s) = (sp 32 s).map lowF := by
  induction s with
  | nil => rfl
  | cons x s ih =>
    have e : lowF (x :: s) = lowB x :: lowF s := rfl
    rw [e, sp, sp, ih]
    by_cases hx : x = 32
    · rw [if_pos hx, if_pos ((low32 x).2 hx)]; rfl
    · rw [if_neg hx, if_neg (fun h => hx ((low32 x).1 h))]
      cases h : sp 32 s with
      | nil => exact absurd h (sp_ne 32 s)
      | cons z r => rfl
theorem bits_low (s : List UInt8) : bits (lowF s) = (bits s).map lowF := by
  unfold bits
  rw [splF_sp, splF_sp, sp_low, List.filter_map]
  congr 1
  refine congrArg (fun f => List.filter f _) ?_
  funext x
  cases x <;> rfl
theorem low_join : ∀ ws : List (List UInt8), lowF (joinF ws) = joinF (ws.map lowF)
  | [] => rfl
  | [x] => by simp [joinF, Lib.join_one]
  | x :: y :: r => by
    have := low_join (y :: r)
    rw [joinF_cons, List.map_cons, List.map_cons, joinF_cons, ← List.map_cons, ← this]
    simp [lowF]
    rfl
theorem lowF_nil (s : List UInt8) : lowF s = [] ↔ s = [] := by simp [lowF]
end Go.Proofs.YtndjmidmfmcbkaaGreatDoor

/- Bodies taken apart: the reference's lines. -/
namespace Go.Proofs.YtndjmidmfmcbkaaGreatDoor
open Go.RowKit
set_option linter.unusedVariables false
set_option linter.unusedSimpArgs false
set_option linter.defProp false

/- paperchase/chaseref1.QuotedOf -/
def ir_chaseref1_QuotedOf_L4 : IC :=
  (.seq (.seq (.drg [⟨some 68, .mov (.t 12), none⟩,
      ⟨some 69, .mov (.t 3), none⟩,
      ⟨some 70, .len (.t 69), none⟩,
      ⟨some 71, .bin .lss (.t 68) (.t 70), none⟩,
      ⟨some 72, .mov (.t 71), none⟩,
      ⟨some 73, .mov (.t 3), (some (72, true))⟩,
      ⟨some 74, .mov (.t 12), (some (72, true))⟩,
      ⟨some 75, .ixa 2 (.t 73) (.t 74), (some (72, true))⟩,
      ⟨some 76, .fla 1 (.t 75), (some (72, true))⟩,
      ⟨some 77, .ld 1 false (.t 76), (some (72, true))⟩,
      ⟨some 78, .pcall 0 111 [.t 77], (some (72, true))⟩,
      ⟨some 79, .bin .eql (.t 78) (.c (.str [])), (some (72, true))⟩,
      ⟨some 80, .pick (.t 72) (.t 79) (.c (.bool false)), none⟩,
      ⟨some 81, .mov (.t 80), none⟩,
      ⟨some 82, .mov (.t 7), (some (81, true))⟩,
      ⟨some 83, .mov (.t 12), (some (81, true))⟩,
      ⟨some 84, .ixa 1 (.t 82) (.t 83), (some (81, true))⟩,
      ⟨some 85, .ld 1 false (.t 84), (some (81, true))⟩,
      ⟨some 86, .fla 0 (.t 11), (some (81, true))⟩,
      ⟨some 87, .ld 1 false (.t 86), (some (81, true))⟩,
      ⟨some 88, .bin .leq (.t 85) (.t 87), (some (81, true))⟩,
      ⟨some 89, .pick (.t 81) (.t 88) (.c (.bool false)), none⟩])
    (.cond (.t 89) .skip (.exit 8)))
    (.block 9 (.reg [⟨some 90, .mov (.t 12), none⟩,
      ⟨some 91, .bin .add (.t 90) (.c (.int .i64 1)), none⟩,
      ⟨some 12, .mov (.t 91), none⟩])))
def ir_chaseref1_QuotedOf_L3 : IC :=
  (.seq (.reg [⟨some 58, .bin .lss (.t 57) (.t 56), none⟩])
    (.seq (.cond (.t 58) .skip (.exit 6))
    (.seq (.block 7 (.seq (.reg [⟨some 59, .mov (.t 57), none⟩,
      ⟨some 60, .ixa 2 (.t 55) (.t 57), none⟩,
      ⟨some 61, .ld 2 true (.t 60), none⟩,
      ⟨some 11, .alc 72 [.int .i64 0, .str []], none⟩,
      ⟨some 10, .mov (.t 59), none⟩,
      ⟨none, .st 2 (.t 11) (.t 61), none⟩])
    (.seq (.seq (.reg [⟨some 62, .fla 1 (.t 11), none⟩,
      ⟨some 63, .ld 1 false (.t 62), none⟩,
      ⟨some 64, .call 110 [.t 63], none⟩,
      ⟨some 65, .not (.t 64), none⟩])
    (.cond (.t 65) (.exit 7) .skip))
    (.seq (.reg [⟨some 66, .mov (.t 10), none⟩,
      ⟨some 67, .bin .add (.t 66) (.c (.int .i64 1)), none⟩,
      ⟨some 12, .mov (.t 67), none⟩])
    (.seq (.block 8 (.loop ir_chaseref1_QuotedOf_L4))
    (.seq (.drg [⟨some 92, .mov (.t 12), none⟩,
      ⟨some 93, .mov (.t 3), none⟩,
      ⟨some 94, .len (.t 93), none⟩,
      ⟨some 95, .bin .lss (.t 92) (.t 94), none⟩,
      ⟨some 96, .mov (.t 95), none⟩,
      ⟨some 97, .mov (.t 7), (some (96, true))⟩,
      ⟨some 98, .mov (.t 12), (some (96, true))⟩,
      ⟨some 99, .ixa 1 (.t 97) (.t 98), (some (96, true))⟩,
      ⟨some 100, .ld 1 false (.t 99), (some (96, true))⟩,
      ⟨some 101, .fla 0 (.t 11), (some (96, true))⟩,
      ⟨some 102, .ld 1 false (.t 101), (some (96, true))⟩,
      ⟨some 103, .bin .gtr (.t 100) (.t 102), (some (96, true))⟩,
      ⟨some 104, .pick (.t 96) (.t 103) (.c (.bool false)), none⟩])
    (.cond (.t 104) (.reg [⟨some 105, .mov (.t 3), none⟩,
      ⟨some 106, .mov (.t 10), none⟩,
      ⟨some 107, .mov (.t 7), none⟩,
      ⟨some 108, .mov (.t 12), none⟩,
      ⟨some 109, .ixa 1 (.t 107) (.t 108), none⟩,
      ⟨some 110, .ld 1 false (.t 109), none⟩,
      ⟨some 111, .ixa 2 (.t 105) (.t 106), none⟩,
      ⟨some 112, .fla 0 (.t 111), none⟩,
      ⟨none, .st 1 (.t 112) (.t 110), none⟩]) .skip)))))))
    (.cut (.reg [⟨some 113, .bin .add (.t 57) (.c (.int .i64 1)), none⟩,
      ⟨some 57, .mov (.t 113), none⟩])))))
def ir_chaseref1_QuotedOf_L2 : IC :=
  (.seq (.reg [⟨some 45, .bin .lss (.t 44) (.t 43), none⟩])
    (.seq (.cond (.t 45) .skip (.exit 4))
    (.seq (.block 5 (.seq (.reg [⟨some 46, .mov (.t 44), none⟩,
      ⟨some 47, .ixa 2 (.t 42) (.t 44), none⟩,
      ⟨some 48, .ld 2 true (.t 47), none⟩,
      ⟨some 9, .alc 72 [.int .i64 0, .str []], none⟩,
      ⟨some 8, .mov (.t 46), none⟩,
      ⟨none, .st 2 (.t 9) (.t 48), none⟩])
    (.reg [⟨some 49, .mov (.t 7), none⟩,
      ⟨some 50, .mov (.t 8), none⟩,
      ⟨some 51, .fla 0 (.t 9), none⟩,
      ⟨some 52, .ld 1 false (.t 51), none⟩,
      ⟨some 53, .ixa 1 (.t 49) (.t 50), none⟩,
      ⟨none, .st 1 (.t 53) (.t 52), none⟩])))
    (.reg [⟨some 54, .bin .add (.t 44) (.c (.int .i64 1)), none⟩,
      ⟨some 44, .mov (.t 54), none⟩]))))
def ir_chaseref1_QuotedOf_L1 : IC :=
  (.seq (.seq (.reg [⟨some 22, .fla 1 (.t 6), none⟩,
      ⟨some 23, .ld 1 false (.t 22), none⟩,
      ⟨some 24, .call 108 [.t 23, .c (.str [62])], none⟩])
    (.cond (.t 24) .skip (.exit 2)))
    (.block 3 (.seq (.reg [⟨some 25, .fla 0 (.t 6), none⟩,
      ⟨some 26, .ld 1 false (.t 25), none⟩,
      ⟨some 27, .bin .add (.t 26) (.c (.int .i64 1)), none⟩,
      ⟨some 28, .fla 0 (.t 6), none⟩,
      ⟨none, .st 1 (.t 28) (.t 27), none⟩])
    (.reg [⟨some 29, .fla 1 (.t 6), none⟩,
      ⟨some 30, .ld 1 false (.t 29), none⟩,
      ⟨some 31, .ssl (.t 30) (some (.c (.int .i64 1))) none, none⟩,
      ⟨some 32, .call 109 [.t 31, .c (.str [32])], none⟩,
      ⟨some 33, .fla 1 (.t 6), none⟩,
      ⟨none, .st 1 (.t 33) (.t 32), none⟩]))))
def ir_chaseref1_QuotedOf_L0 : IC :=
  (.seq (.reg [⟨some 17, .bin .lss (.t 16) (.t 15), none⟩])
    (.seq (.cond (.t 17) .skip (.exit 0))
    (.seq (.block 1 (.seq (.reg [⟨some 18, .ixa 1 (.t 14) (.t 16), none⟩,
      ⟨some 19, .ld 1 false (.t 18), none⟩,
      ⟨some 5, .mov (.t 19), none⟩])
    (.seq (.reg [⟨some 20, .mov (.t 5), none⟩,
      ⟨some 21, .bld [.int .i64 0, .str []] [(1, 1, .t 20)], none⟩,
      ⟨some 6, .alc 72 [.int .i64 0, .str []], none⟩,
      ⟨none, .st 2 (.t 6) (.t 21), none⟩])
    (.seq (.block 2 (.loop ir_chaseref1_QuotedOf_L1))
    (.reg [⟨some 34, .mov (.t 3), none⟩,
      ⟨some 35, .ld 2 true (.t 6), none⟩,
      ⟨some 36, .bsl 2 [.t 35], none⟩,
      ⟨some 37, .app 72 2 24 (.t 34) (.t 36), none⟩,
      ⟨some 3, .mov (.t 37), none⟩])))))
    (.reg [⟨some 38, .bin .add (.t 16) (.c (.int .i64 1)), none⟩,
      ⟨some 16, .mov (.t 38), none⟩]))))
def ir_chaseref1_QuotedOf : IC :=
  (.seq (.reg [⟨some 2, .mov (.c (.nl 2)), none⟩])
    (.seq (.reg [⟨some 3, .nilr 72 2, none⟩])
    (.seq (.seq (.reg [⟨some 13, .mov (.t 0), none⟩,
      ⟨some 14, .call 107 [.t 13], none⟩,
      ⟨some 15, .len (.t 14), none⟩,
      ⟨some 16, .mov (.c (.int .i64 0)), none⟩])
    (.block 0 (.loop ir_chaseref1_QuotedOf_L0)))
    (.seq (.reg [⟨some 39, .mov (.t 3), none⟩,
      ⟨some 40, .len (.t 39), none⟩,
      ⟨some 41, .mks 3 1 8 [.int .i64 0] (.t 40) (.t 40), none⟩,
      ⟨some 7, .mov (.t 41), none⟩])
    (.seq (.seq (.reg [⟨some 42, .mov (.t 3), none⟩,
      ⟨some 43, .len (.t 42), none⟩,
      ⟨some 44, .mov (.c (.int .i64 0)), none⟩])
    (.block 4 (.loop ir_chaseref1_QuotedOf_L2)))
    (.seq (.seq (.reg [⟨some 55, .mov (.t 3), none⟩,
      ⟨some 56, .len (.t 55), none⟩,
      ⟨some 57, .mov (.c (.int .i64 0)), none⟩])
    (.block 6 (.loop ir_chaseref1_QuotedOf_L3)))
    (.seq (.reg [⟨some 114, .mov (.t 3), none⟩,
      ⟨some 2, .mov (.t 114), none⟩])
    .ret)))))))
def rs_chaseref1_QuotedOf : List IRes := [.t 2]
theorem ck_chaseref1_QuotedOf : chkF Tryz.prog Tryz.f38 ir_chaseref1_QuotedOf rs_chaseref1_QuotedOf 115 = true := by kernel_rfl


theorem lines_eq {s : List UInt8} (h : textE s = true) : rlinesF s = (linesF s).1 := by
  by_cases h0 : s = []
  · subst h0
    rw [linesF, if_pos rfl, rlinesF, splF_sp]
    rfl
  · have h1 : sufE s [10] = true := by
      simp only [textE, h0, decide_false, Bool.false_or, Bool.and_eq_true] at h
      exact h.2
    have h2 := h1
    simp only [sufE, Bool.and_eq_true, decide_eq_true_eq, List.length_cons, List.length_nil] at h2
    have e : s = s.take (s.length - 1) ++ 10 :: [] := by
      conv => lhs; rw [← List.take_append_drop (s.length - 1) s]
      rw [h2.2]
    rw [linesF, if_neg h0]
    simp only [cutSufF, if_pos h1, List.length_cons, List.length_nil]
    rw [rlinesF, splF_sp, splF_sp]
    generalize ht : s.take (s.length - (0 + 1)) = t
    rw [show s.length - (0 + 1) = s.length - 1 from rfl] at ht
    rw [ht] at e
    rw [e, sp_app]
    simp [sp]
theorem rhit_eq (s : List UInt8) : rhitF s = hitF s := by
  funext w
  unfold rhitF hitF
  rw [sq_blank]
theorem attr_eq (s : List UInt8) : attrF s = saysF s := by
  unfold attrF saysF
  rw [rhit_eq, Bool.or_comm]
abbrev tQ2 : Nat := 72
def rowO (l : List (List UInt8)) (k : Nat) : List (List PV) := tb k fun j => [int (sgF l j), .str (txF l j)]
theorem rowO_len (l : List (List UInt8)) (k : Nat) : (rowO l k).length = k := tb_len _ _
theorem rowO_get {l : List (List UInt8)} {n k : Nat} (h : k < n) : (rowO l n).getD k [] = [int (sgF l k), .str (txF l k)] := tb_get h
theorem rowO_app {l : List (List UInt8)} {k d : Nat} {x t : List UInt8} (hx : l[k]? = some x) (h : strip x = (d, t)) : rowO l k ++ [[int d, .str t]] = rowO l (k + 1) := by
  unfold rowO tb
  rw [List.range_succ, List.map_append]
  simp [sgF, txF, List.getD, hx, h]
def rowP (l : List (List UInt8)) (i : Nat) : List (List PV) := tb l.length fun j => if j < i then [int (qF l j).1, .str (txF l j)] else [int (sgF l j), .str (txF l j)]
theorem rowP_zero (l : List (List UInt8)) : rowO l l.length = rowP l 0 := tb_ext fun j hj => by simp
theorem rowP_len (l : List (List UInt8)) (k : Nat) : (rowP l k).length = l.length := tb_len _ _
theorem rowP_get {l : List (List UInt8)} {i k : Nat} (h : k < l.length) (hik : i ≤ k) : (rowP l i).getD k [] = [int (sgF l k), .str (txF l k)] := by
  rw [rowP, tb_get h, if_neg (by omega)]
theorem rowP_set {l : List (List UInt8)} {i d : Nat} (h : (qF l i).1 = d) : (rowP l i).set i [int d, .str (txF l i)] = rowP l (i + 1) := by
  rw [rowP, tb_set]
  refine tb_ext fun j _ => ?_
  by_cases e : j = i
  · subst e; simp [h]
  · simp only [if_neg e, show (j < i + 1) = (j < i) from by simp; omega]
theorem rowP_same {l : List (List UInt8)} {i : Nat} (h : (qF l i).1 = sgF l i) : rowP l i = rowP l (i + 1) := by
  refine tb_ext fun j _ => ?_
  by_cases e : j = i
  · subst e; simp [h]
  · simp only [show (j < i + 1) = (j < i) from by simp; omega]
/-- What QuotedOf answers. -/
def quF (l : List (List UInt8)) : List (List PV) := tb l.length fun j => [int (qF l j).1, .str (txF l j)]
theorem rowP_end (l : List (List UInt8)) : rowP l l.length = quF l := tb_ext fun j hj => by simp [hj]
theorem rlinesF_bd (s : List UInt8) : (rlinesF s).length ≤ s.length ∧ ∀ x ∈ rlinesF s, x.length ≤ s.length := by
  unfold rlinesF
  have h2 := splF_len s 10
  exact ⟨by simp; omega, fun x hx => splF_mem s 10 x (List.mem_of_mem_take hx)⟩
set_option maxHeartbeats 4000000 in
theorem QuotedOf_ok (s : List UInt8) (hs : s.length ≤ 25000) : FCall Tryz.prog E0 38 [.str s] tQ2 2 (· = quF (rlinesF s)) := by
  unfold FCall
  refine gcallR mixed Tryz.func38 ck_chaseref1_QuotedOf ?_
  simp only [a0, l0, OS.ao, List.map_cons, List.map_nil, List.length_cons, List.length_nil, List.cons_append, List.nil_append, Nat.reduceSub, Nat.reduceAdd, List.replicate_succ, List.replicate_zero, ir_chaseref1_QuotedOf, rs_chaseref1_QuotedOf, ZZ, YY, Zd, ite_true, ite_false, forall_const, reduceCtorEq, Nat.reduceAdd, Nat.reduceMul, Nat.reduceLeDiff, Nat.reduceLT, Nat.reduceEqDiff]
  refine use1 (linesOf_ok s (by omega)) rfl (.inl rfl) ?_
  rw [strs_eq]
  obtain ⟨hll, hlb⟩ := rlinesF_bd s
  generalize rlinesF s = l at *
  simp only [ZZ, YY, Zd, ite_true, ite_false, forall_const, reduceCtorEq, Nat.reduceAdd, Nat.reduceMul, Nat.reduceLeDiff, Nat.reduceLT, Nat.reduceEqDiff, strE_len]
  rw [show ([] : List (List PV)) = rowO l 0 from rfl]
  refine loop_intro (fun n fr L => ∃ (k : Nat), k ≤ l.length ∧ n = l.length - k ∧ fr = [.p (.str s), .any, .any, .row (.l 3), .any, .any, .any, .any, .any, .any, .any, .any, .any, .any, .p (.sl 1 (strE l)), .p (int (l.length : Nat)), .p (int (k : Nat)), .any, .any, .any, .any, .any, .any, .any, .any, .any, .any, .any, .any, .any, .any, .any, .any, .any, .any, .any, .any, .any, .any, .any, .any, .any, .any, .any, .any, .any, .any, .any, .any, .any, .any, .any, .any, .any, .any, .any, .any, .any, .any, .any, .any, .any, .any, .any, .any, .any, .any, .any, .any, .any, .any, .any, .any, .any, .any, .any, .any, .any, .any, .any, .any, .any, .any, .any, .any, .any, .any, .any, .any, .any, .any, .any, .any, .any, .any, .any, .any, .any, .any, .any, .any, .any, .any, .any, .any, .any, .any, .any, .any, .any, .any, .any, .any, .any, .any] ∧ L = [(.l 3, .row (rowO l k) tQ2 2 true)]) (l.length) [.p (.str s), .any, .any, .row (.l 3), .any, .any, .any, .any, .any, .any, .any, .any, .any, .any, .p (.sl 1 (strE l)), .p (int (l.length : Nat)), .p (int (0 : Nat)), .any, .any, .any, .any, .any, .any, .any, .any, .any, .any, .any, .any, .any, .any, .any, .any, .any, .any, .any, .any, .any, .any, .any, .any, .any, .any, .any, .any, .any, .any, .any, .any, .any, .any, .any, .any, .any, .any, .any, .any, .any, .any, .any, .any, .any, .any, .any, .any, .any, .any, .any, .any, .any, .any, .any, .any, .any, .any, .any, .any, .any, .any, .any, .any, .any, .any, .any, .any, .any, .any, .any, .any, .any, .any, .any, .any, .any, .any, .any, .any, .any, .any, .any, .any, .any, .any, .any, .any, .any, .any, .any, .any, .any, .any, .any, .any, .any, .any] [(.l 3, .row (rowO l 0) tQ2 2 true)] (by simp only [ZZ, YY, Zd, ite_true, ite_false, forall_const, reduceCtorEq, Nat.reduceAdd, Nat.reduceMul, Nat.reduceLeDiff, Nat.reduceLT, Nat.reduceEqDiff, strE_len]; try trivial) (by (simp only [ZZ, YY, Zd, ite_true, ite_false, forall_const, reduceCtorEq, Nat.reduceAdd, Nat.reduceMul, Nat.reduceLeDiff, Nat.reduceLT, Nat.reduceEqDiff]; try trivial)) ⟨0, by omega, by omega, rfl, rfl⟩ ?_
  rintro n fr L ⟨k, hk, rfl, rfl, rfl⟩
  simp only [ir_chaseref1_QuotedOf_L0, ZZ, YY, Zd, ite_true, ite_false, forall_const, reduceCtorEq, Nat.reduceAdd, Nat.reduceMul, Nat.reduceLeDiff, Nat.reduceLT, Nat.reduceEqDiff]
  refine br ?_ ?_
  · intro h
    have hlt : k < l.length := by have := of_decide_eq_true h; omega
    obtain ⟨x, hx⟩ : ∃ x, l[k]? = some x := ⟨_, List.getElem?_eq_getElem hlt⟩
    have hg := strE_get hx
    have hxb := hlb x (List.mem_of_getElem? hx)
    simp only [ZZ, YY, Zd, ite_true, ite_false, forall_const, reduceCtorEq, Nat.reduceAdd, Nat.reduceMul, Nat.reduceLeDiff, Nat.reduceLT, Nat.reduceEqDiff, hg, strE_len]
    ((repeat' (with_reducible apply And.intro)) <;> try ((first | first | assumption | trivial | exact (fun hq => by rw [hq]; rfl) | exact i64_of (by omega) (by omega) | omega | (simp; done) | (simp; omega) | (intro hsc; have hs0 := hsc; (try have hsd := of_decide_eq_true hsc); (try simp only [Bool.not_eq_true', Bool.or_eq_false_iff, Bool.and_eq_true, Bool.or_eq_true, decide_eq_true_eq, decide_eq_false_iff_not] at hsc); (repeat' (with_reducible apply And.intro)) <;> (first | assumption | trivial | exact (fun hq => by rw [hq]; rfl) | exact i64_of (by omega) (by omega) | omega | (simp; done) | (simp; omega) | (intro hse; simp [hse, hs0]; done) | (intro hse; simp only [hse, hs0, Bool.true_and, Bool.and_true, Bool.not_false, Bool.not_true, Bool.and_self]; done))))))
    refine loop_intro (fun n fr L => ∃ (d : Nat) (u : List UInt8), u.length = n ∧ (strip x = (d + (strip u).1, (strip u).2)) ∧ (d + u.length ≤ x.length) ∧ fr = [.p (.str s), .any, .any, .row (.l 3), .any, .any, .adr (.l 6) 0, .any, .any, .any, .any, .any, .any, .any, .p (.sl 1 (strE l)), .p (int (l.length : Nat)), .p (int (k : Nat)), .any, .any, .any, .any, .any, .any, .any, .any, .any, .any, .any, .any, .any, .any, .any, .any, .any, .any, .any, .any, .any, .any, .any, .any, .any, .any, .any, .any, .any, .any, .any, .any, .any, .any, .any, .any, .any, .any, .any, .any, .any, .any, .any, .any, .any, .any, .any, .any, .any, .any, .any, .any, .any, .any, .any, .any, .any, .any, .any, .any, .any, .any, .any, .any, .any, .any, .any, .any, .any, .any, .any, .any, .any, .any, .any, .any, .any, .any, .any, .any, .any, .any, .any, .any, .any, .any, .any, .any, .any, .any, .any, .any, .any, .any, .any, .any, .any, .any] ∧ L = [(.l 3, .row (rowO l k) tQ2 2 true), (.l 6, .box [.p (int (d : Nat)), .p (.str u)] tQ2)]) (x.length) [.p (.str s), .any, .any, .row (.l 3), .any, .any, .adr (.l 6) 0, .any, .any, .any, .any, .any, .any, .any, .p (.sl 1 (strE l)), .p (int (l.length : Nat)), .p (int (k : Nat)), .any, .any, .any, .any, .any, .any, .any, .any, .any, .any, .any, .any, .any, .any, .any, .any, .any, .any, .any, .any, .any, .any, .any, .any, .any, .any, .any, .any, .any, .any, .any, .any, .any, .any, .any, .any, .any, .any, .any, .any, .any, .any, .any, .any, .any, .any, .any, .any, .any, .any, .any, .any, .any, .any, .any, .any, .any, .any, .any, .any, .any, .any, .any, .any, .any, .any, .any, .any, .any, .any, .any, .any, .any, .any, .any, .any, .any, .any, .any, .any, .any, .any, .any, .any, .any, .any, .any, .any, .any, .any, .any, .any, .any, .any, .any, .any, .any, .any] [(.l 3, .row (rowO l k) tQ2 2 true), (.l 6, .box [.p (int (0 : Nat)), .p (.str x)] tQ2)] (by (simp only [ZZ, YY, Zd, ite_true, ite_false, forall_const, reduceCtorEq, Nat.reduceAdd, Nat.reduceMul, Nat.reduceLeDiff, Nat.reduceLT, Nat.reduceEqDiff]; try trivial)) (by (simp only [ZZ, YY, Zd, ite_true, ite_false, forall_const, reduceCtorEq, Nat.reduceAdd, Nat.reduceMul, Nat.reduceLeDiff, Nat.reduceLT, Nat.reduceEqDiff]; try trivial)) ⟨0, x, rfl, by simp, by omega, rfl, rfl⟩ ?_
    rintro n fr L ⟨d, u, rfl, hst, hdb, rfl, rfl⟩
    simp only [ir_chaseref1_QuotedOf_L1, ZZ, YY, Zd, ite_true, ite_false, forall_const, reduceCtorEq, Nat.reduceAdd, Nat.reduceMul, Nat.reduceLeDiff, Nat.reduceLT, Nat.reduceEqDiff]
    refine use1 (HasPrefix_ok u [62]) rfl (.inl rfl) ?_
    simp only [ZZ, YY, Zd, ite_true, ite_false, forall_const, reduceCtorEq, Nat.reduceAdd, Nat.reduceMul, Nat.reduceLeDiff, Nat.reduceLT, Nat.reduceEqDiff]
    refine br ?_ ?_
    · intro h2
      have hlen := hasPrefix_len h2
      simp only [List.length_cons, List.length_nil] at hlen
      have hdec := strip_dec h2
      have hy := strip_yes h2
      simp only [ZZ, YY, Zd, ite_true, ite_false, forall_const, reduceCtorEq, Nat.reduceAdd, Nat.reduceMul, Nat.reduceLeDiff, Nat.reduceLT, Nat.reduceEqDiff]
      ((repeat' (with_reducible apply And.intro)) <;> try ((first | first | assumption | trivial | exact (fun hq => by rw [hq]; rfl) | exact i64_of (by omega) (by omega) | omega | (simp; done) | (simp; omega) | (intro hsc; have hs0 := hsc; (try have hsd := of_decide_eq_true hsc); (try simp only [Bool.not_eq_true', Bool.or_eq_false_iff, Bool.and_eq_true, Bool.or_eq_true, decide_eq_true_eq, decide_eq_false_iff_not] at hsc); (repeat' (with_reducible apply And.intro)) <;> (first | assumption | trivial | exact (fun hq => by rw [hq]; rfl) | exact i64_of (by omega) (by omega) | omega | (simp; done) | (simp; omega) | (intro hse; simp [hse, hs0]; done) | (intro hse; simp only [hse, hs0, Bool.true_and, Bool.and_true, Bool.not_false, Bool.not_true, Bool.and_self]; done))))))
      rw [List.take_length, show Int.toNat 1 = 1 from rfl]
      refine use1 (TrimPrefix_ok (u.drop 1) [32] (by simp; omega) (by decide)) rfl (.inl rfl) ?_
      simp only [ZZ, YY, Zd, ite_true, ite_false, forall_const, reduceCtorEq, Nat.reduceAdd, Nat.reduceMul, Nat.reduceLeDiff, Nat.reduceLT, Nat.reduceEqDiff]
      ((repeat' (with_reducible apply And.intro)) <;> try ((first | first | assumption | trivial | exact (fun hq => by rw [hq]; rfl) | exact i64_of (by omega) (by omega) | omega | (simp; done) | (simp; omega) | (intro hsc; have hs0 := hsc; (try have hsd := of_decide_eq_true hsc); (try simp only [Bool.not_eq_true', Bool.or_eq_false_iff, Bool.and_eq_true, Bool.or_eq_true, decide_eq_true_eq, decide_eq_false_iff_not] at hsc); (repeat' (with_reducible apply And.intro)) <;> (first | assumption | trivial | exact (fun hq => by rw [hq]; rfl) | exact i64_of (by omega) (by omega) | omega | (simp; done) | (simp; omega) | (intro hse; simp [hse, hs0]; done) | (intro hse; simp only [hse, hs0, Bool.true_and, Bool.and_true, Bool.not_false, Bool.not_true, Bool.and_self]; done))))))
      refine end_round (((cutPreF (u.drop 1) [32]).1).length) [.p (.str s), .any, .any, .row (.l 3), .any, .any, .adr (.l 6) 0, .any, .any, .any, .any, .any, .any, .any, .p (.sl 1 (strE l)), .p (int (l.length : Nat)), .p (int (k : Nat)), .any, .any, .any, .any, .any, .any, .any, .any, .any, .any, .any, .any, .any, .any, .any, .any, .any, .any, .any, .any, .any, .any, .any, .any, .any, .any, .any, .any, .any, .any, .any, .any, .any, .any, .any, .any, .any, .any, .any, .any, .any, .any, .any, .any, .any, .any, .any, .any, .any, .any, .any, .any, .any, .any, .any, .any, .any, .any, .any, .any, .any, .any, .any, .any, .any, .any, .any, .any, .any, .any, .any, .any, .any, .any, .any, .any, .any, .any, .any, .any, .any, .any, .any, .any, .any, .any, .any, .any, .any, .any, .any, .any, .any, .any, .any, .any, .any, .any] [(.l 3, .row (rowO l k) tQ2 2 true), (.l 6, .box [.p (int ((d + 1) : Nat)), .p (.str ((cutPreF (u.drop 1) [32]).1))] tQ2)] (by omega) (by (simp only [ZZ, YY, Zd, ite_true, ite_false, forall_const, reduceCtorEq, Nat.reduceAdd, Nat.reduceMul, Nat.reduceLeDiff, Nat.reduceLT, Nat.reduceEqDiff]; try trivial)) (by (simp only [ZZ, YY, Zd, ite_true, ite_false, forall_const, reduceCtorEq, Nat.reduceAdd, Nat.reduceMul, Nat.reduceLeDiff, Nat.reduceLT, Nat.reduceEqDiff]; try trivial)) ⟨d + 1, (cutPreF (u.drop 1) [32]).1, rfl, by rw [hst, hy]; simp only; congr 1; omega, by omega, rfl, rfl⟩
    · intro h2
      have hn := strip_no h2
      rw [hn] at hst
      simp only [Nat.add_zero] at hst
      simp only [ZZ, YY, Zd, ite_true, ite_false, forall_const, reduceCtorEq, Nat.reduceAdd, Nat.reduceMul, Nat.reduceLeDiff, Nat.reduceLT, Nat.reduceEqDiff, rowO_len]
      ((repeat' (with_reducible apply And.intro)) <;> try ((first | first | assumption | trivial | exact (fun hq => by rw [hq]; rfl) | exact i64_of (by omega) (by omega) | omega | (simp; done) | (simp; omega) | (intro hsc; have hs0 := hsc; (try have hsd := of_decide_eq_true hsc); (try simp only [Bool.not_eq_true', Bool.or_eq_false_iff, Bool.and_eq_true, Bool.or_eq_true, decide_eq_true_eq, decide_eq_false_iff_not] at hsc); (repeat' (with_reducible apply And.intro)) <;> (first | assumption | trivial | exact (fun hq => by rw [hq]; rfl) | exact i64_of (by omega) (by omega) | omega | (simp; done) | (simp; omega) | (intro hse; simp [hse, hs0]; done) | (intro hse; simp only [hse, hs0, Bool.true_and, Bool.and_true, Bool.not_false, Bool.not_true, Bool.and_self]; done))))))
      rw [rowO_app hx hst]
      refine end_round (l.length - (k + 1)) [.p (.str s), .any, .any, .row (.l 3), .any, .any, .any, .any, .any, .any, .any, .any, .any, .any, .p (.sl 1 (strE l)), .p (int (l.length : Nat)), .p (int ((k + 1) : Nat)), .any, .any, .any, .any, .any, .any, .any, .any, .any, .any, .any, .any, .any, .any, .any, .any, .any, .any, .any, .any, .any, .any, .any, .any, .any, .any, .any, .any, .any, .any, .any, .any, .any, .any, .any, .any, .any, .any, .any, .any, .any, .any, .any, .any, .any, .any, .any, .any, .any, .any, .any, .any, .any, .any, .any, .any, .any, .any, .any, .any, .any, .any, .any, .any, .any, .any, .any, .any, .any, .any, .any, .any, .any, .any, .any, .any, .any, .any, .any, .any, .any, .any, .any, .any, .any, .any, .any, .any, .any, .any, .any, .any, .any, .any, .any, .any, .any, .any] [(.l 3, .row (rowO l (k + 1)) tQ2 2 true)] (by omega) (by (simp only [ZZ, YY, Zd, ite_true, ite_false, forall_const, reduceCtorEq, Nat.reduceAdd, Nat.reduceMul, Nat.reduceLeDiff, Nat.reduceLT, Nat.reduceEqDiff]; try trivial)) (by (simp only [ZZ, YY, Zd, ite_true, ite_false, forall_const, reduceCtorEq, Nat.reduceAdd, Nat.reduceMul, Nat.reduceLeDiff, Nat.reduceLT, Nat.reduceEqDiff]; try trivial)) ⟨k + 1, by omega, rfl, rfl, rfl⟩
  · intro h
    have hge : k = l.length := by have := of_decide_eq_false h; omega
    subst hge
    simp only [ZZ, YY, Zd, ite_true, ite_false, forall_const, reduceCtorEq, Nat.reduceAdd, Nat.reduceMul, Nat.reduceLeDiff, Nat.reduceLT, Nat.reduceEqDiff, rowO_len]
    refine ⟨⟨by omega, by omega, by omega⟩, ?_⟩
    rw [rowS_zero]
    refine loop_intro (fun n fr L => ∃ (k : Nat), k ≤ l.length ∧ n = l.length - k ∧ fr = [.p (.str s), .any, .any, .row (.l 3), .any, .any, .any, .row (.l 41), .any, .any, .any, .any, .any, .any, .any, .any, .any, .any, .any, .any, .any, .any, .any, .any, .any, .any, .any, .any, .any, .any, .any, .any, .any, .any, .any, .any, .any, .any, .any, .any, .any, .any, .row (.l 3), .p (int (l.length : Nat)), .p (int (k : Nat)), .any, .any, .any, .any, .any, .any, .any, .any, .any, .any, .any, .any, .any, .any, .any, .any, .any, .any, .any, .any, .any, .any, .any, .any, .any, .any, .any, .any, .any, .any, .any, .any, .any, .any, .any, .any, .any, .any, .any, .any, .any, .any, .any, .any, .any, .any, .any, .any, .any, .any, .any, .any, .any, .any, .any, .any, .any, .any, .any, .any, .any, .any, .any, .any, .any, .any, .any, .any, .any, .any] ∧ L = [(.l 3, .row (rowO l l.length) tQ2 2 true), (.l 41, .row (rowS l k) tInt 1 true)]) (l.length) [.p (.str s), .any, .any, .row (.l 3), .any, .any, .any, .row (.l 41), .any, .any, .any, .any, .any, .any, .any, .any, .any, .any, .any, .any, .any, .any, .any, .any, .any, .any, .any, .any, .any, .any, .any, .any, .any, .any, .any, .any, .any, .any, .any, .any, .any, .any, .row (.l 3), .p (int (l.length : Nat)), .p (int (0 : Nat)), .any, .any, .any, .any, .any, .any, .any, .any, .any, .any, .any, .any, .any, .any, .any, .any, .any, .any, .any, .any, .any, .any, .any, .any, .any, .any, .any, .any, .any, .any, .any, .any, .any, .any, .any, .any, .any, .any, .any, .any, .any, .any, .any, .any, .any, .any, .any, .any, .any, .any, .any, .any, .any, .any, .any, .any, .any, .any, .any, .any, .any, .any, .any, .any, .any, .any, .any, .any, .any, .any] [(.l 3, .row (rowO l l.length) tQ2 2 true), (.l 41, .row (rowS l 0) tInt 1 true)] (by simp only [ZZ, YY, Zd, ite_true, ite_false, forall_const, reduceCtorEq, Nat.reduceAdd, Nat.reduceMul, Nat.reduceLeDiff, Nat.reduceLT, Nat.reduceEqDiff, strE_len]; try trivial) (by (simp only [ZZ, YY, Zd, ite_true, ite_false, forall_const, reduceCtorEq, Nat.reduceAdd, Nat.reduceMul, Nat.reduceLeDiff, Nat.reduceLT, Nat.reduceEqDiff]; try trivial)) ⟨0, by omega, by omega, rfl, rfl⟩ ?_
    rintro n fr L ⟨k, hk, rfl, rfl, rfl⟩
    simp only [ir_chaseref1_QuotedOf_L2, ZZ, YY, Zd, ite_true, ite_false, forall_const, reduceCtorEq, Nat.reduceAdd, Nat.reduceMul, Nat.reduceLeDiff, Nat.reduceLT, Nat.reduceEqDiff]
    refine br ?_ ?_
    · intro h
      have hlt : k < l.length := by have := of_decide_eq_true h; omega
      have hgS : (rowS l k).getD k [] = [int 0] := by rw [rowS, tb_get hlt]; simp
      simp only [ZZ, YY, Zd, ite_true, ite_false, forall_const, reduceCtorEq, Nat.reduceAdd, Nat.reduceMul, Nat.reduceLeDiff, Nat.reduceLT, Nat.reduceEqDiff, rowO_len, rowS_len, rowO_get hlt, hgS]
      ((repeat' (with_reducible apply And.intro)) <;> try ((first | first | assumption | trivial | exact (fun hq => by rw [hq]; rfl) | exact i64_of (by omega) (by omega) | omega | (simp; done) | (simp; omega) | (intro hsc; have hs0 := hsc; (try have hsd := of_decide_eq_true hsc); (try simp only [Bool.not_eq_true', Bool.or_eq_false_iff, Bool.and_eq_true, Bool.or_eq_true, decide_eq_true_eq, decide_eq_false_iff_not] at hsc); (repeat' (with_reducible apply And.intro)) <;> (first | assumption | trivial | exact (fun hq => by rw [hq]; rfl) | exact i64_of (by omega) (by omega) | omega | (simp; done) | (simp; omega) | (intro hse; simp [hse, hs0]; done) | (intro hse; simp only [hse, hs0, Bool.true_and, Bool.and_true, Bool.not_false, Bool.not_true, Bool.and_self]; done))))))
      rw [rowS_set]
      refine end_round (l.length - (k + 1)) [.p (.str s), .any, .any, .row (.l 3), .any, .any, .any, .row (.l 41), .any, .any, .any, .any, .any, .any, .any, .any, .any, .any, .any, .any, .any, .any, .any, .any, .any, .any, .any, .any, .any, .any, .any, .any, .any, .any, .any, .any, .any, .any, .any, .any, .any, .any, .row (.l 3), .p (int (l.length : Nat)), .p (int ((k + 1) : Nat)), .any, .any, .any, .any, .any, .any, .any, .any, .any, .any, .any, .any, .any, .any, .any, .any, .any, .any, .any, .any, .any, .any, .any, .any, .any, .any, .any, .any, .any, .any, .any, .any, .any, .any, .any, .any, .any, .any, .any, .any, .any, .any, .any, .any, .any, .any, .any, .any, .any, .any, .any, .any, .any, .any, .any, .any, .any, .any, .any, .any, .any, .any, .any, .any, .any, .any, .any, .any, .any, .any] [(.l 3, .row (rowO l l.length) tQ2 2 true), (.l 41, .row (rowS l (k + 1)) tInt 1 true)] (by omega) (by (simp only [ZZ, YY, Zd, ite_true, ite_false, forall_const, reduceCtorEq, Nat.reduceAdd, Nat.reduceMul, Nat.reduceLeDiff, Nat.reduceLT, Nat.reduceEqDiff]; try trivial)) (by (simp only [ZZ, YY, Zd, ite_true, ite_false, forall_const, reduceCtorEq, Nat.reduceAdd, Nat.reduceMul, Nat.reduceLeDiff, Nat.reduceLT, Nat.reduceEqDiff]; try trivial)) ⟨k + 1, by omega, rfl, rfl, rfl⟩
    · intro h
      have hge : k = l.length := by have := of_decide_eq_false h; omega
      subst hge
      rw [rowP_zero]
      simp only [ZZ, YY, Zd, ite_true, ite_false, forall_const, reduceCtorEq, Nat.reduceAdd, Nat.reduceMul, Nat.reduceLeDiff, Nat.reduceLT, Nat.reduceEqDiff, rowP_len]
      refine loop_intro (fun n fr L => ∃ (i : Nat), i ≤ l.length ∧ n = l.length - i ∧ fr = [.p (.str s), .any, .any, .row (.l 3), .any, .any, .any, .row (.l 41), .any, .any, .any, .any, .any, .any, .any, .any, .any, .any, .any, .any, .any, .any, .any, .any, .any, .any, .any, .any, .any, .any, .any, .any, .any, .any, .any, .any, .any, .any, .any, .any, .any, .any, .any, .any, .any, .any, .any, .any, .any, .any, .any, .any, .any, .any, .any, .row (.l 3), .p (int (l.length : Nat)), .p (int (i : Nat)), .any, .any, .any, .any, .any, .any, .any, .any, .any, .any, .any, .any, .any, .any, .any, .any, .any, .any, .any, .any, .any, .any, .any, .any, .any, .any, .any, .any, .any, .any, .any, .any, .any, .any, .any, .any, .any, .any, .any, .any, .any, .any, .any, .any, .any, .any, .any, .any, .any, .any, .any, .any, .any, .any, .any, .any, .any] ∧ L = [(.l 3, .row (rowP l i) tQ2 2 true), (.l 41, .row (rowS l l.length) tInt 1 true)]) (l.length) [.p (.str s), .any, .any, .row (.l 3), .any, .any, .any, .row (.l 41), .any, .any, .any, .any, .any, .any, .any, .any, .any, .any, .any, .any, .any, .any, .any, .any, .any, .any, .any, .any, .any, .any, .any, .any, .any, .any, .any, .any, .any, .any, .any, .any, .any, .any, .any, .any, .any, .any, .any, .any, .any, .any, .any, .any, .any, .any, .any, .row (.l 3), .p (int (l.length : Nat)), .p (int (0 : Nat)), .any, .any, .any, .any, .any, .any, .any, .any, .any, .any, .any, .any, .any, .any, .any, .any, .any, .any, .any, .any, .any, .any, .any, .any, .any, .any, .any, .any, .any, .any, .any, .any, .any, .any, .any, .any, .any, .any, .any, .any, .any, .any, .any, .any, .any, .any, .any, .any, .any, .any, .any, .any, .any, .any, .any, .any, .any] [(.l 3, .row (rowP l 0) tQ2 2 true), (.l 41, .row (rowS l l.length) tInt 1 true)] (by simp only [ZZ, YY, Zd, ite_true, ite_false, forall_const, reduceCtorEq, Nat.reduceAdd, Nat.reduceMul, Nat.reduceLeDiff, Nat.reduceLT, Nat.reduceEqDiff, strE_len]; try trivial) (by (simp only [ZZ, YY, Zd, ite_true, ite_false, forall_const, reduceCtorEq, Nat.reduceAdd, Nat.reduceMul, Nat.reduceLeDiff, Nat.reduceLT, Nat.reduceEqDiff]; try trivial)) ⟨0, by omega, by omega, rfl, rfl⟩ ?_
      rintro n fr L ⟨i, hi, rfl, rfl, rfl⟩
      simp only [ir_chaseref1_QuotedOf_L3, ZZ, YY, Zd, ite_true, ite_false, forall_const, reduceCtorEq, Nat.reduceAdd, Nat.reduceMul, Nat.reduceLeDiff, Nat.reduceLT, Nat.reduceEqDiff]
      refine br ?_ ?_
      · intro h
        have hlt : i < l.length := by have := of_decide_eq_true h; omega
        have hsb := sgF_bd hlb i
        simp only [ZZ, YY, Zd, ite_true, ite_false, forall_const, reduceCtorEq, Nat.reduceAdd, Nat.reduceMul, Nat.reduceLeDiff, Nat.reduceLT, Nat.reduceEqDiff, rowP_len, rowP_get hlt (Nat.le_refl i)]
        ((repeat' (with_reducible apply And.intro)) <;> try ((first | first | assumption | trivial | exact (fun hq => by rw [hq]; rfl) | exact i64_of (by omega) (by omega) | omega | (simp; done) | (simp; omega) | (intro hsc; have hs0 := hsc; (try have hsd := of_decide_eq_true hsc); (try simp only [Bool.not_eq_true', Bool.or_eq_false_iff, Bool.and_eq_true, Bool.or_eq_true, decide_eq_true_eq, decide_eq_false_iff_not] at hsc); (repeat' (with_reducible apply And.intro)) <;> (first | assumption | trivial | exact (fun hq => by rw [hq]; rfl) | exact i64_of (by omega) (by omega) | omega | (simp; done) | (simp; omega) | (intro hse; simp [hse, hs0]; done) | (intro hse; simp only [hse, hs0, Bool.true_and, Bool.and_true, Bool.not_false, Bool.not_true, Bool.and_self]; done))))))
        refine use1 (attribution_ok (txF l i) (by omega)) rfl (.inl rfl) ?_
        rw [attr_eq]
        simp only [ZZ, YY, Zd, ite_true, ite_false, forall_const, reduceCtorEq, Nat.reduceAdd, Nat.reduceMul, Nat.reduceLeDiff, Nat.reduceLT, Nat.reduceEqDiff]
        refine br ?_ ?_
        · intro hn
          have hn : saysF (txF l i) = false := by simpa using hn
          have hq : (qF l i).1 = sgF l i := by simp [qF, hn]
          have hR := rowP_same hq
          simp only [ZZ, YY, Zd, ite_true, ite_false, forall_const, reduceCtorEq, Nat.reduceAdd, Nat.reduceMul, Nat.reduceLeDiff, Nat.reduceLT, Nat.reduceEqDiff]
          refine cut_same (by simp only [ZZ, YY, Zd, ite_true, ite_false, forall_const, reduceCtorEq, Nat.reduceAdd, Nat.reduceMul, Nat.reduceLeDiff, Nat.reduceLT, Nat.reduceEqDiff]) ?_
          simp only [ZZ, YY, Zd, ite_true, ite_false, forall_const, reduceCtorEq, Nat.reduceAdd, Nat.reduceMul, Nat.reduceLeDiff, Nat.reduceLT, Nat.reduceEqDiff]
          ((repeat' (with_reducible apply And.intro)) <;> try ((first | first | assumption | trivial | exact (fun hq => by rw [hq]; rfl) | exact i64_of (by omega) (by omega) | omega | (simp; done) | (simp; omega) | (intro hsc; have hs0 := hsc; (try have hsd := of_decide_eq_true hsc); (try simp only [Bool.not_eq_true', Bool.or_eq_false_iff, Bool.and_eq_true, Bool.or_eq_true, decide_eq_true_eq, decide_eq_false_iff_not] at hsc); (repeat' (with_reducible apply And.intro)) <;> (first | assumption | trivial | exact (fun hq => by rw [hq]; rfl) | exact i64_of (by omega) (by omega) | omega | (simp; done) | (simp; omega) | (intro hse; simp [hse, hs0]; done) | (intro hse; simp only [hse, hs0, Bool.true_and, Bool.and_true, Bool.not_false, Bool.not_true, Bool.and_self]; done))))))
          rw [hR]
          refine end_round (l.length - (i + 1)) [.p (.str s), .any, .any, .row (.l 3), .any, .any, .any, .row (.l 41), .any, .any, .any, .any, .any, .any, .any, .any, .any, .any, .any, .any, .any, .any, .any, .any, .any, .any, .any, .any, .any, .any, .any, .any, .any, .any, .any, .any, .any, .any, .any, .any, .any, .any, .any, .any, .any, .any, .any, .any, .any, .any, .any, .any, .any, .any, .any, .row (.l 3), .p (int (l.length : Nat)), .p (int ((i + 1) : Nat)), .any, .any, .any, .any, .any, .any, .any, .any, .any, .any, .any, .any, .any, .any, .any, .any, .any, .any, .any, .any, .any, .any, .any, .any, .any, .any, .any, .any, .any, .any, .any, .any, .any, .any, .any, .any, .any, .any, .any, .any, .any, .any, .any, .any, .any, .any, .any, .any, .any, .any, .any, .any, .any, .any, .any, .any, .any] [(.l 3, .row (rowP l (i + 1)) tQ2 2 true), (.l 41, .row (rowS l l.length) tInt 1 true)] (by omega) (by (simp only [ZZ, YY, Zd, ite_true, ite_false, forall_const, reduceCtorEq, Nat.reduceAdd, Nat.reduceMul, Nat.reduceLeDiff, Nat.reduceLT, Nat.reduceEqDiff]; try trivial)) (by (simp only [ZZ, YY, Zd, ite_true, ite_false, forall_const, reduceCtorEq, Nat.reduceAdd, Nat.reduceMul, Nat.reduceLeDiff, Nat.reduceLT, Nat.reduceEqDiff]; try trivial)) ⟨i + 1, by omega, rfl, rfl, rfl⟩
        · intro hy
          have hy : saysF (txF l i) = true := by simpa using hy
          simp only [ZZ, YY, Zd, ite_true, ite_false, forall_const, reduceCtorEq, Nat.reduceAdd, Nat.reduceMul, Nat.reduceLeDiff, Nat.reduceLT, Nat.reduceEqDiff]
          ((repeat' (with_reducible apply And.intro)) <;> try ((first | first | assumption | trivial | exact (fun hq => by rw [hq]; rfl) | exact i64_of (by omega) (by omega) | omega | (simp; done) | (simp; omega) | (intro hsc; have hs0 := hsc; (try have hsd := of_decide_eq_true hsc); (try simp only [Bool.not_eq_true', Bool.or_eq_false_iff, Bool.and_eq_true, Bool.or_eq_true, decide_eq_true_eq, decide_eq_false_iff_not] at hsc); (repeat' (with_reducible apply And.intro)) <;> (first | assumption | trivial | exact (fun hq => by rw [hq]; rfl) | exact i64_of (by omega) (by omega) | omega | (simp; done) | (simp; omega) | (intro hse; simp [hse, hs0]; done) | (intro hse; simp only [hse, hs0, Bool.true_and, Bool.and_true, Bool.not_false, Bool.not_true, Bool.and_self]; done))))))
          refine loop_intro (fun n fr L => ∃ (k : Nat), l.length - k = n ∧ (atF l i (i + 1) = atF l i k) ∧ (i < k ∧ k ≤ l.length) ∧ fr = [.p (.str s), .any, .any, .row (.l 3), .any, .any, .any, .row (.l 41), .any, .any, .p (int (i : Nat)), .adr (.l 11) 0, .p (int (k : Nat)), .any, .any, .any, .any, .any, .any, .any, .any, .any, .any, .any, .any, .any, .any, .any, .any, .any, .any, .any, .any, .any, .any, .any, .any, .any, .any, .any, .any, .any, .any, .any, .any, .any, .any, .any, .any, .any, .any, .any, .any, .any, .any, .row (.l 3), .p (int (l.length : Nat)), .p (int (i : Nat)), .any, .any, .any, .any, .any, .any, .any, .any, .any, .any, .any, .any, .any, .any, .any, .any, .any, .any, .any, .any, .any, .any, .any, .any, .any, .any, .any, .any, .any, .any, .any, .any, .any, .any, .any, .any, .any, .any, .any, .any, .any, .any, .any, .any, .any, .any, .any, .any, .any, .any, .any, .any, .any, .any, .any, .any, .any] ∧ L = [(.l 3, .row (rowP l i) tQ2 2 true), (.l 41, .row (rowS l l.length) tInt 1 true), (.l 11, .box [.p (int (sgF l i : Nat)), .p (.str (txF l i))] tQ2)]) (l.length - (i + 1)) [.p (.str s), .any, .any, .row (.l 3), .any, .any, .any, .row (.l 41), .any, .any, .p (int (i : Nat)), .adr (.l 11) 0, .p (int ((i + 1) : Nat)), .any, .any, .any, .any, .any, .any, .any, .any, .any, .any, .any, .any, .any, .any, .any, .any, .any, .any, .any, .any, .any, .any, .any, .any, .any, .any, .any, .any, .any, .any, .any, .any, .any, .any, .any, .any, .any, .any, .any, .any, .any, .any, .row (.l 3), .p (int (l.length : Nat)), .p (int (i : Nat)), .any, .any, .any, .any, .any, .any, .any, .any, .any, .any, .any, .any, .any, .any, .any, .any, .any, .any, .any, .any, .any, .any, .any, .any, .any, .any, .any, .any, .any, .any, .any, .any, .any, .any, .any, .any, .any, .any, .any, .any, .any, .any, .any, .any, .any, .any, .any, .any, .any, .any, .any, .any, .any, .any, .any, .any, .any] [(.l 3, .row (rowP l i) tQ2 2 true), (.l 41, .row (rowS l l.length) tInt 1 true), (.l 11, .box [.p (int (sgF l i : Nat)), .p (.str (txF l i))] tQ2)] (by (simp only [ZZ, YY, Zd, ite_true, ite_false, forall_const, reduceCtorEq, Nat.reduceAdd, Nat.reduceMul, Nat.reduceLeDiff, Nat.reduceLT, Nat.reduceEqDiff]; try trivial)) (by (simp only [ZZ, YY, Zd, ite_true, ite_false, forall_const, reduceCtorEq, Nat.reduceAdd, Nat.reduceMul, Nat.reduceLeDiff, Nat.reduceLT, Nat.reduceEqDiff]; try trivial)) ⟨i + 1, rfl, rfl, by omega, rfl, rfl⟩ ?_
          rintro n fr L ⟨k, rfl, hat, hki, rfl, rfl⟩
          simp only [ir_chaseref1_QuotedOf_L4, ZZ, YY, Zd, ite_true, ite_false, forall_const, reduceCtorEq, Nat.reduceAdd, Nat.reduceMul, Nat.reduceLeDiff, Nat.reduceLT, Nat.reduceEqDiff]
          have hsb2 := sgF_bd hlb k
          refine drg1 (x1 := .str (sqF (txF l k))) ?_
          by_cases hkn : k < l.length
          · have hd : decide ((k : Int) < l.length) = true := by simp; omega
            simp only [ZZ, YY, Zd, ite_true, ite_false, forall_const, reduceCtorEq, Nat.reduceAdd, Nat.reduceMul, Nat.reduceLeDiff, Nat.reduceLT, Nat.reduceEqDiff, rowP_len, rowS_len, rowP_get hkn (by omega : i ≤ k), rowS_get hkn, hd]
            ((repeat' (with_reducible apply And.intro)) <;> try (first | exact usep (squeezed_ok (txF l k) (by omega)) rfl (.inl rfl) | (first | first | assumption | trivial | exact (fun hq => by rw [hq]; rfl) | exact i64_of (by omega) (by omega) | omega | (simp; done) | (simp; omega) | (intro hsc; have hs0 := hsc; (try have hsd := of_decide_eq_true hsc); (try simp only [Bool.not_eq_true', Bool.or_eq_false_iff, Bool.and_eq_true, Bool.or_eq_true, decide_eq_true_eq, decide_eq_false_iff_not] at hsc); (repeat' (with_reducible apply And.intro)) <;> (first | assumption | trivial | exact (fun hq => by rw [hq]; rfl) | exact i64_of (by omega) (by omega) | omega | (simp; done) | (simp; omega) | (intro hse; simp [hse, hs0]; done) | (intro hse; simp only [hse, hs0, Bool.true_and, Bool.and_true, Bool.not_false, Bool.not_true, Bool.and_self]; done))))))
            rw [sq_blank]
            refine br ?_ ?_
            · intro hc
              have hc : blankF (txF l k) = true ∧ sgF l k ≤ sgF l i := by simpa using hc
              have hn4 : atF l i k = atF l i (k + 1) := by rw [atF, dif_pos hkn, if_neg (by omega), if_pos hc.1]
              simp only [ZZ, YY, Zd, ite_true, ite_false, forall_const, reduceCtorEq, Nat.reduceAdd, Nat.reduceMul, Nat.reduceLeDiff, Nat.reduceLT, Nat.reduceEqDiff, thenQ]
              ((repeat' (with_reducible apply And.intro)) <;> try ((first | first | assumption | trivial | exact (fun hq => by rw [hq]; rfl) | exact i64_of (by omega) (by omega) | omega | (simp; done) | (simp; omega) | (intro hsc; have hs0 := hsc; (try have hsd := of_decide_eq_true hsc); (try simp only [Bool.not_eq_true', Bool.or_eq_false_iff, Bool.and_eq_true, Bool.or_eq_true, decide_eq_true_eq, decide_eq_false_iff_not] at hsc); (repeat' (with_reducible apply And.intro)) <;> (first | assumption | trivial | exact (fun hq => by rw [hq]; rfl) | exact i64_of (by omega) (by omega) | omega | (simp; done) | (simp; omega) | (intro hse; simp [hse, hs0]; done) | (intro hse; simp only [hse, hs0, Bool.true_and, Bool.and_true, Bool.not_false, Bool.not_true, Bool.and_self]; done))))))
              refine end_round (l.length - (k + 1)) [.p (.str s), .any, .any, .row (.l 3), .any, .any, .any, .row (.l 41), .any, .any, .p (int (i : Nat)), .adr (.l 11) 0, .p (int ((k + 1) : Nat)), .any, .any, .any, .any, .any, .any, .any, .any, .any, .any, .any, .any, .any, .any, .any, .any, .any, .any, .any, .any, .any, .any, .any, .any, .any, .any, .any, .any, .any, .any, .any, .any, .any, .any, .any, .any, .any, .any, .any, .any, .any, .any, .row (.l 3), .p (int (l.length : Nat)), .p (int (i : Nat)), .any, .any, .any, .any, .any, .any, .any, .any, .any, .any, .any, .any, .any, .any, .any, .any, .any, .any, .any, .any, .any, .any, .any, .any, .any, .any, .any, .any, .any, .any, .any, .any, .any, .any, .any, .any, .any, .any, .any, .any, .any, .any, .any, .any, .any, .any, .any, .any, .any, .any, .any, .any, .any, .any, .any, .any, .any] [(.l 3, .row (rowP l i) tQ2 2 true), (.l 41, .row (rowS l l.length) tInt 1 true), (.l 11, .box [.p (int (sgF l i : Nat)), .p (.str (txF l i))] tQ2)] (by omega) (by (simp only [ZZ, YY, Zd, ite_true, ite_false, forall_const, reduceCtorEq, Nat.reduceAdd, Nat.reduceMul, Nat.reduceLeDiff, Nat.reduceLT, Nat.reduceEqDiff]; try trivial)) (by (simp only [ZZ, YY, Zd, ite_true, ite_false, forall_const, reduceCtorEq, Nat.reduceAdd, Nat.reduceMul, Nat.reduceLeDiff, Nat.reduceLT, Nat.reduceEqDiff]; try trivial)) ⟨k + 1, rfl, by rw [hat, hn4], by omega, rfl, rfl⟩
            · intro hc
              simp only [ZZ, YY, Zd, ite_true, ite_false, forall_const, reduceCtorEq, Nat.reduceAdd, Nat.reduceMul, Nat.reduceLeDiff, Nat.reduceLT, Nat.reduceEqDiff, thenQ]
              refine drg0 ?_
              simp only [ZZ, YY, Zd, ite_true, ite_false, forall_const, reduceCtorEq, Nat.reduceAdd, Nat.reduceMul, Nat.reduceLeDiff, Nat.reduceLT, Nat.reduceEqDiff, rowP_len, rowS_len, rowP_get hkn (by omega : i ≤ k), rowS_get hkn, hd]
              ((repeat' (with_reducible apply And.intro)) <;> try ((first | first | assumption | trivial | exact (fun hq => by rw [hq]; rfl) | exact i64_of (by omega) (by omega) | omega | (simp; done) | (simp; omega) | (intro hsc; have hs0 := hsc; (try have hsd := of_decide_eq_true hsc); (try simp only [Bool.not_eq_true', Bool.or_eq_false_iff, Bool.and_eq_true, Bool.or_eq_true, decide_eq_true_eq, decide_eq_false_iff_not] at hsc); (repeat' (with_reducible apply And.intro)) <;> (first | assumption | trivial | exact (fun hq => by rw [hq]; rfl) | exact i64_of (by omega) (by omega) | omega | (simp; done) | (simp; omega) | (intro hse; simp [hse, hs0]; done) | (intro hse; simp only [hse, hs0, Bool.true_and, Bool.and_true, Bool.not_false, Bool.not_true, Bool.and_self]; done))))))
              refine br ?_ ?_
              · intro h3
                have h3 : sgF l i < sgF l k := by have := of_decide_eq_true h3; omega
                have hq : (qF l i).1 = sgF l k := by
                  have : atF l i k = some (sgF l k) := by rw [atF, dif_pos hkn, if_pos h3]
                  simp [qF, hy, hat, this]
                have hR := rowP_set hq
                simp only [ZZ, YY, Zd, ite_true, ite_false, forall_const, reduceCtorEq, Nat.reduceAdd, Nat.reduceMul, Nat.reduceLeDiff, Nat.reduceLT, Nat.reduceEqDiff, thenQ, rowP_len, rowS_len, rowP_get hlt (Nat.le_refl i), rowS_get hkn]
                rw [hR]
                ((repeat' (with_reducible apply And.intro)) <;> try ((first | first | assumption | trivial | exact (fun hq => by rw [hq]; rfl) | exact i64_of (by omega) (by omega) | omega | (simp; done) | (simp; omega) | (intro hsc; have hs0 := hsc; (try have hsd := of_decide_eq_true hsc); (try simp only [Bool.not_eq_true', Bool.or_eq_false_iff, Bool.and_eq_true, Bool.or_eq_true, decide_eq_true_eq, decide_eq_false_iff_not] at hsc); (repeat' (with_reducible apply And.intro)) <;> (first | assumption | trivial | exact (fun hq => by rw [hq]; rfl) | exact i64_of (by omega) (by omega) | omega | (simp; done) | (simp; omega) | (intro hse; simp [hse, hs0]; done) | (intro hse; simp only [hse, hs0, Bool.true_and, Bool.and_true, Bool.not_false, Bool.not_true, Bool.and_self]; done))))))
                refine cut_same (by simp only [ZZ, YY, Zd, ite_true, ite_false, forall_const, reduceCtorEq, Nat.reduceAdd, Nat.reduceMul, Nat.reduceLeDiff, Nat.reduceLT, Nat.reduceEqDiff]) ?_
                simp only [ZZ, YY, Zd, ite_true, ite_false, forall_const, reduceCtorEq, Nat.reduceAdd, Nat.reduceMul, Nat.reduceLeDiff, Nat.reduceLT, Nat.reduceEqDiff]
                ((repeat' (with_reducible apply And.intro)) <;> try ((first | first | assumption | trivial | exact (fun hq => by rw [hq]; rfl) | exact i64_of (by omega) (by omega) | omega | (simp; done) | (simp; omega) | (intro hsc; have hs0 := hsc; (try have hsd := of_decide_eq_true hsc); (try simp only [Bool.not_eq_true', Bool.or_eq_false_iff, Bool.and_eq_true, Bool.or_eq_true, decide_eq_true_eq, decide_eq_false_iff_not] at hsc); (repeat' (with_reducible apply And.intro)) <;> (first | assumption | trivial | exact (fun hq => by rw [hq]; rfl) | exact i64_of (by omega) (by omega) | omega | (simp; done) | (simp; omega) | (intro hse; simp [hse, hs0]; done) | (intro hse; simp only [hse, hs0, Bool.true_and, Bool.and_true, Bool.not_false, Bool.not_true, Bool.and_self]; done))))))
                refine end_round (l.length - (i + 1)) [.p (.str s), .any, .any, .row (.l 3), .any, .any, .any, .row (.l 41), .any, .any, .any, .any, .any, .any, .any, .any, .any, .any, .any, .any, .any, .any, .any, .any, .any, .any, .any, .any, .any, .any, .any, .any, .any, .any, .any, .any, .any, .any, .any, .any, .any, .any, .any, .any, .any, .any, .any, .any, .any, .any, .any, .any, .any, .any, .any, .row (.l 3), .p (int (l.length : Nat)), .p (int ((i + 1) : Nat)), .any, .any, .any, .any, .any, .any, .any, .any, .any, .any, .any, .any, .any, .any, .any, .any, .any, .any, .any, .any, .any, .any, .any, .any, .any, .any, .any, .any, .any, .any, .any, .any, .any, .any, .any, .any, .any, .any, .any, .any, .any, .any, .any, .any, .any, .any, .any, .any, .any, .any, .any, .any, .any, .any, .any, .any, .any] [(.l 3, .row (rowP l (i + 1)) tQ2 2 true), (.l 41, .row (rowS l l.length) tInt 1 true)] (by omega) (by (simp only [ZZ, YY, Zd, ite_true, ite_false, forall_const, reduceCtorEq, Nat.reduceAdd, Nat.reduceMul, Nat.reduceLeDiff, Nat.reduceLT, Nat.reduceEqDiff]; try trivial)) (by (simp only [ZZ, YY, Zd, ite_true, ite_false, forall_const, reduceCtorEq, Nat.reduceAdd, Nat.reduceMul, Nat.reduceLeDiff, Nat.reduceLT, Nat.reduceEqDiff]; try trivial)) ⟨i + 1, by omega, rfl, rfl, rfl⟩
              · intro h3
                have h3 : ¬ sgF l i < sgF l k := by have := of_decide_eq_false h3; omega
                have h5 : blankF (txF l k) = false := by
                  cases hb : blankF (txF l k) with
                  | false => rfl
                  | true => rw [hb] at hc; simp at hc; omega
                have hq : (qF l i).1 = sgF l i := by
                  have : atF l i k = none := by rw [atF, dif_pos hkn, if_neg h3, if_neg (by rw [h5]; simp)]
                  simp [qF, hy, hat, this]
                have hR := rowP_same hq
                simp only [ZZ, YY, Zd, ite_true, ite_false, forall_const, reduceCtorEq, Nat.reduceAdd, Nat.reduceMul, Nat.reduceLeDiff, Nat.reduceLT, Nat.reduceEqDiff, thenQ]
                refine cut_same (by simp only [ZZ, YY, Zd, ite_true, ite_false, forall_const, reduceCtorEq, Nat.reduceAdd, Nat.reduceMul, Nat.reduceLeDiff, Nat.reduceLT, Nat.reduceEqDiff]) ?_
                simp only [ZZ, YY, Zd, ite_true, ite_false, forall_const, reduceCtorEq, Nat.reduceAdd, Nat.reduceMul, Nat.reduceLeDiff, Nat.reduceLT, Nat.reduceEqDiff]
                ((repeat' (with_reducible apply And.intro)) <;> try ((first | first | assumption | trivial | exact (fun hq => by rw [hq]; rfl) | exact i64_of (by omega) (by omega) | omega | (simp; done) | (simp; omega) | (intro hsc; have hs0 := hsc; (try have hsd := of_decide_eq_true hsc); (try simp only [Bool.not_eq_true', Bool.or_eq_false_iff, Bool.and_eq_true, Bool.or_eq_true, decide_eq_true_eq, decide_eq_false_iff_not] at hsc); (repeat' (with_reducible apply And.intro)) <;> (first | assumption | trivial | exact (fun hq => by rw [hq]; rfl) | exact i64_of (by omega) (by omega) | omega | (simp; done) | (simp; omega) | (intro hse; simp [hse, hs0]; done) | (intro hse; simp only [hse, hs0, Bool.true_and, Bool.and_true, Bool.not_false, Bool.not_true, Bool.and_self]; done))))))
                rw [hR]
                refine end_round (l.length - (i + 1)) [.p (.str s), .any, .any, .row (.l 3), .any, .any, .any, .row (.l 41), .any, .any, .any, .any, .any, .any, .any, .any, .any, .any, .any, .any, .any, .any, .any, .any, .any, .any, .any, .any, .any, .any, .any, .any, .any, .any, .any, .any, .any, .any, .any, .any, .any, .any, .any, .any, .any, .any, .any, .any, .any, .any, .any, .any, .any, .any, .any, .row (.l 3), .p (int (l.length : Nat)), .p (int ((i + 1) : Nat)), .any, .any, .any, .any, .any, .any, .any, .any, .any, .any, .any, .any, .any, .any, .any, .any, .any, .any, .any, .any, .any, .any, .any, .any, .any, .any, .any, .any, .any, .any, .any, .any, .any, .any, .any, .any, .any, .any, .any, .any, .any, .any, .any, .any, .any, .any, .any, .any, .any, .any, .any, .any, .any, .any, .any, .any, .any] [(.l 3, .row (rowP l (i + 1)) tQ2 2 true), (.l 41, .row (rowS l l.length) tInt 1 true)] (by omega) (by (simp only [ZZ, YY, Zd, ite_true, ite_false, forall_const, reduceCtorEq, Nat.reduceAdd, Nat.reduceMul, Nat.reduceLeDiff, Nat.reduceLT, Nat.reduceEqDiff]; try trivial)) (by (simp only [ZZ, YY, Zd, ite_true, ite_false, forall_const, reduceCtorEq, Nat.reduceAdd, Nat.reduceMul, Nat.reduceLeDiff, Nat.reduceLT, Nat.reduceEqDiff]; try trivial)) ⟨i + 1, by omega, rfl, rfl, rfl⟩
          · have hd : decide ((k : Int) < l.length) = false := by simp; omega
            have hgn : (rowS l l.length).getD k [] = [] := by simp [List.getD, rowS_len, hkn]
            have hgp : (rowP l i).getD k [] = [] := by simp [List.getD, rowP_len, hkn]
            simp only [ZZ, YY, Zd, ite_true, ite_false, forall_const, reduceCtorEq, Nat.reduceAdd, Nat.reduceMul, Nat.reduceLeDiff, Nat.reduceLT, Nat.reduceEqDiff, rowP_len, rowS_len, hd, false_implies, Bool.false_and, hgn, hgp]
            have hq : (qF l i).1 = sgF l i := by
              have : atF l i k = none := by rw [atF, dif_neg hkn]
              simp [qF, hy, hat, this]
            have hR := rowP_same hq
            refine drg0 ?_
            simp only [ZZ, YY, Zd, ite_true, ite_false, forall_const, reduceCtorEq, Nat.reduceAdd, Nat.reduceMul, Nat.reduceLeDiff, Nat.reduceLT, Nat.reduceEqDiff, rowP_len, rowS_len, hd, false_implies, Bool.false_and, hgn, hgp, thenQ]
            refine cut_same (by simp only [ZZ, YY, Zd, ite_true, ite_false, forall_const, reduceCtorEq, Nat.reduceAdd, Nat.reduceMul, Nat.reduceLeDiff, Nat.reduceLT, Nat.reduceEqDiff]) ?_
            simp only [ZZ, YY, Zd, ite_true, ite_false, forall_const, reduceCtorEq, Nat.reduceAdd, Nat.reduceMul, Nat.reduceLeDiff, Nat.reduceLT, Nat.reduceEqDiff]
            ((repeat' (with_reducible apply And.intro)) <;> try ((first | first | assumption | trivial | exact (fun hq => by rw [hq]; rfl) | exact i64_of (by omega) (by omega) | omega | (simp; done) | (simp; omega) | (intro hsc; have hs0 := hsc; (try have hsd := of_decide_eq_true hsc); (try simp only [Bool.not_eq_true', Bool.or_eq_false_iff, Bool.and_eq_true, Bool.or_eq_true, decide_eq_true_eq, decide_eq_false_iff_not] at hsc); (repeat' (with_reducible apply And.intro)) <;> (first | assumption | trivial | exact (fun hq => by rw [hq]; rfl) | exact i64_of (by omega) (by omega) | omega | (simp; done) | (simp; omega) | (intro hse; simp [hse, hs0]; done) | (intro hse; simp only [hse, hs0, Bool.true_and, Bool.and_true, Bool.not_false, Bool.not_true, Bool.and_self]; done))))))
            rw [hR]
            refine end_round (l.length - (i + 1)) [.p (.str s), .any, .any, .row (.l 3), .any, .any, .any, .row (.l 41), .any, .any, .any, .any, .any, .any, .any, .any, .any, .any, .any, .any, .any, .any, .any, .any, .any, .any, .any, .any, .any, .any, .any, .any, .any, .any, .any, .any, .any, .any, .any, .any, .any, .any, .any, .any, .any, .any, .any, .any, .any, .any, .any, .any, .any, .any, .any, .row (.l 3), .p (int (l.length : Nat)), .p (int ((i + 1) : Nat)), .any, .any, .any, .any, .any, .any, .any, .any, .any, .any, .any, .any, .any, .any, .any, .any, .any, .any, .any, .any, .any, .any, .any, .any, .any, .any, .any, .any, .any, .any, .any, .any, .any, .any, .any, .any, .any, .any, .any, .any, .any, .any, .any, .any, .any, .any, .any, .any, .any, .any, .any, .any, .any, .any, .any, .any, .any] [(.l 3, .row (rowP l (i + 1)) tQ2 2 true), (.l 41, .row (rowS l l.length) tInt 1 true)] (by omega) (by (simp only [ZZ, YY, Zd, ite_true, ite_false, forall_const, reduceCtorEq, Nat.reduceAdd, Nat.reduceMul, Nat.reduceLeDiff, Nat.reduceLT, Nat.reduceEqDiff]; try trivial)) (by (simp only [ZZ, YY, Zd, ite_true, ite_false, forall_const, reduceCtorEq, Nat.reduceAdd, Nat.reduceMul, Nat.reduceLeDiff, Nat.reduceLT, Nat.reduceEqDiff]; try trivial)) ⟨i + 1, by omega, rfl, rfl, rfl⟩
      · intro h
        have hge : i = l.length := by have := of_decide_eq_false h; omega
        subst hge
        rw [rowP_end]
        simp only [ZZ, YY, Zd, ite_true, ite_false, forall_const, reduceCtorEq, Nat.reduceAdd, Nat.reduceMul, Nat.reduceLeDiff, Nat.reduceLT, Nat.reduceEqDiff]
        exact fin_F 3 _ rfl rfl rfl
end Go.Proofs.YtndjmidmfmcbkaaGreatDoor
