
/- Own texts, put together: P9 P10 P11 P12. -/
import Derived.Test.YthfpehmbellmcaaDoorZ7
import Derived.Test.YthfpehmbellmcaaDoorZ4
import Derived.Laws.Cover4
/- The law RowsOverlaid, given the maker of tables and Overlay. -/
namespace Go.Proofs.YthfpehmbellmcaaDoor
open Go.RowKit
set_option linter.unusedVariables false
set_option linter.unusedSimpArgs false
set_option linter.defProp false

/- paperchase/chaselaw1.RowsOverlaid -/
def ir_chaselaw1_RowsOverlaid : IC :=
  (.seq (.reg [⟨some 2, .mov (.c (.bool false)), none⟩])
    (.seq (.reg [⟨some 10, .mov (.t 0), none⟩,
      ⟨some 11, .bld [.nl 1, .int .i64 0] [(0, 1, .t 10)], none⟩,
      ⟨some 12, .box 25 (.t 11), none⟩,
      ⟨some 3, .mov (.t 12), none⟩])
    (.seq (.reg [⟨some 13, .mov (.t 3), none⟩,
      ⟨some 14, .call 4 [.t 13], none⟩,
      ⟨some 4, .mov (.t 14), none⟩])
    (.seq (.reg [⟨some 15, .mov (.t 3), none⟩,
      ⟨some 16, .mov (.t 4), none⟩,
      ⟨none, .fz (.t 16), none⟩,
      ⟨some 17, .call 5 [.t 15, .t 16], none⟩,
      ⟨some 5, .mov (.t 17), none⟩])
    (.seq (.reg [⟨some 19, .mov (.t 4), none⟩,
      ⟨some 20, .mov (.t 5), none⟩,
      ⟨none, .fz (.t 19), none⟩,
      ⟨none, .fz (.t 20), none⟩,
      ⟨some 21, .call 6 [.t 19, .t 20], none⟩,
      ⟨some 18, .mov (.t 21), none⟩,
      ⟨some 22, .ext 0 (.t 18), none⟩,
      ⟨some 23, .ext 1 (.t 18), none⟩,
      ⟨some 6, .mov (.t 22), none⟩,
      ⟨some 7, .mov (.t 23), none⟩])
    (.seq (.reg [⟨some 25, .mov (.t 4), none⟩,
      ⟨some 26, .mov (.t 5), none⟩,
      ⟨none, .fz (.t 25), none⟩,
      ⟨none, .fz (.t 26), none⟩,
      ⟨some 27, .call 7 [.t 25, .t 26], none⟩,
      ⟨some 24, .mov (.t 27), none⟩,
      ⟨some 28, .ext 0 (.t 24), none⟩,
      ⟨some 29, .ext 1 (.t 24), none⟩,
      ⟨some 8, .mov (.t 28), none⟩,
      ⟨some 9, .mov (.t 29), none⟩])
    (.seq (.reg [⟨some 30, .call 8 [], none⟩,
      ⟨some 31, .mov (.t 30), none⟩,
      ⟨some 32, .mov (.t 7), (some (31, true))⟩,
      ⟨some 33, .mov (.t 9), (some (31, true))⟩,
      ⟨some 34, .bin .eql (.t 32) (.t 33), (some (31, true))⟩,
      ⟨some 35, .pick (.t 31) (.t 34) (.c (.bool false)), none⟩,
      ⟨some 36, .mov (.t 35), none⟩,
      ⟨some 37, .mov (.t 6), (some (36, true))⟩,
      ⟨some 38, .mov (.t 8), (some (36, true))⟩,
      ⟨some 39, .call 9 [.t 37, .t 38], (some (36, true))⟩,
      ⟨some 40, .pick (.t 36) (.t 39) (.c (.bool false)), none⟩,
      ⟨some 2, .mov (.t 40), none⟩])
    .ret)))))))
def rs_chaselaw1_RowsOverlaid : List IRes := [.t 2]
theorem ck_chaselaw1_RowsOverlaid : chkF Tryd.prog Tryd.f3 ir_chaselaw1_RowsOverlaid rs_chaselaw1_RowsOverlaid 41 = true := by kernel_rfl

/-- What Overlay is to be. -/
def OvOk : Prop := ∀ (a b : Tab), TabB a → TabB b → PCall Tryd.prog E4 6 [.sl 1 (tbE a), .sl 1 (tbE b)] (· = ovR a b)
theorem tabS_B {n : Nat} {t : Tab} (hn : n ≤ 200) (h : TabS n t) : TabB t := ⟨by have := h.1; omega, fun r hr => ⟨by have := (h.2 r hr).1; omega, fun s hs => by have := (h.2 r hr).2 s hs; omega⟩⟩
theorem ovT_len {a b : Tab} (ha : TabS 200 a) (hH : (ovH a b).length ≤ 30) : (ovT a b).length ≤ 1000000000 ∧ ∀ r ∈ ovT a b, r.length ≤ 1000000000 := by
  refine ⟨?_, fun r hr => ?_⟩
  · have := ha.1
    simp only [ovT, List.length_cons, List.length_map, List.length_drop]
    omega
  · simp only [ovT, List.mem_cons, List.mem_map] at hr
    rcases hr with rfl | ⟨q, hq, rfl⟩
    · omega
    · have := (ha.2 q (List.mem_of_mem_drop hq)).1
      rw [rowO, overK_len, rowB, List.length_append, List.length_replicate]
      omega
theorem ovR_form {a b : Tab} (ha : TabS 200 a) : ∃ t e, ovR a b = .tup [.sl 1 (tbE t), int e] ∧ t.length ≤ 1000000000 ∧ ∀ r ∈ t, r.length ≤ 1000000000 := by
  unfold ovR
  split
  · split
    · exact ⟨[], 2, rfl, by simp, by simp⟩
    · rename_i h
      have := ovT_len (b := b) ha (by omega)
      exact ⟨_, 0, rfl, this.1, this.2⟩
  · exact ⟨[], _, rfl, by simp, by simp⟩
theorem rowsOverlaid_ok (hLR : LrOk E4) (hOv : OvOk) (z : List Int) (hl : z.length ≤ 9223372036854775807) : PCall Tryd.prog E4 3 [ints z] (· = .bool true) := by
  refine pcallF mixed Tryd.func3 ck_chaselaw1_RowsOverlaid ?_
  simp only [a0, l0, OS.ao, List.map_cons, List.map_nil, List.length_cons, List.length_nil, List.cons_append, List.nil_append, Nat.reduceSub, Nat.reduceAdd, List.replicate_succ, List.replicate_zero, ir_chaselaw1_RowsOverlaid, rs_chaselaw1_RowsOverlaid, ZZ, YY, Ze, ite_true, ite_false, forall_const, reduceCtorEq, Nat.reduceAdd, Nat.reduceMul, Nat.reduceLeDiff, Nat.reduceLT, Nat.reduceEqDiff]
  simp only [ints, ZZ, YY, Ze, ite_true, ite_false, forall_const, reduceCtorEq, Nat.reduceAdd, Nat.reduceMul, Nat.reduceLeDiff, Nat.reduceLT, Nat.reduceEqDiff]
  refine useS (k := .l 12) (hLR z 0 (by omega) hl) rfl rfl rfl (by simp only [ZZ, YY, Ze, ite_true, ite_false, forall_const, reduceCtorEq, Nat.reduceAdd, Nat.reduceMul, Nat.reduceLeDiff, Nat.reduceLT, Nat.reduceEqDiff]) ?_
  rintro x cs' ⟨a, k1, rfl, ha, rfl, hk1⟩
  simp only [ZZ, YY, Ze, ite_true, ite_false, forall_const, reduceCtorEq, Nat.reduceAdd, Nat.reduceMul, Nat.reduceLeDiff, Nat.reduceLT, Nat.reduceEqDiff]
  refine useS (k := .l 12) (OverRows_ok hLR z k1 a ha (by omega) hl) rfl rfl rfl (by simp only [ZZ, YY, Ze, ite_true, ite_false, forall_const, reduceCtorEq, Nat.reduceAdd, Nat.reduceMul, Nat.reduceLeDiff, Nat.reduceLT, Nat.reduceEqDiff]) ?_
  rintro x cs' ⟨b, k2, rfl, hb, rfl, hk2⟩
  have ha2 : TabS 200 a := ⟨by have := ha.1; omega, fun r hr => ⟨by have := (ha.2 r hr).1; omega, fun s hs => by have := (ha.2 r hr).2 s hs; omega⟩⟩
  have hA := tabS_B (by omega) ha
  have hB := tabS_B (by omega) hb
  obtain ⟨t, e, hR, ht1, ht2⟩ := ovR_form (b := b) ha2
  have hov := hOv a b hA hB
  have href := up4 (OverlayOf_ok a b hA hB)
  rw [hR] at hov href
  simp only [ZZ, YY, Ze, ite_true, ite_false, forall_const, reduceCtorEq, Nat.reduceAdd, Nat.reduceMul, Nat.reduceLeDiff, Nat.reduceLT, Nat.reduceEqDiff]
  refine use1 hov rfl (.inl rfl) ?_
  simp only [ZZ, YY, Ze, ite_true, ite_false, forall_const, reduceCtorEq, Nat.reduceAdd, Nat.reduceMul, Nat.reduceLeDiff, Nat.reduceLT, Nat.reduceEqDiff]
  refine use1 href rfl (.inl rfl) ?_
  simp only [ZZ, YY, Ze, ite_true, ite_false, forall_const, reduceCtorEq, Nat.reduceAdd, Nat.reduceMul, Nat.reduceLeDiff, Nat.reduceLT, Nat.reduceEqDiff]
  refine use1 produces_okP rfl (.inl rfl) ?_
  simp only [ZZ, YY, Ze, ite_true, ite_false, forall_const, reduceCtorEq, Nat.reduceAdd, Nat.reduceMul, Nat.reduceLeDiff, Nat.reduceLT, Nat.reduceEqDiff]
  refine useG (fun _ => SameTable_ok t ht1 ht2) rfl (.inl rfl) ?_
  simp only [ZZ, YY, Ze, ite_true, ite_false, forall_const, reduceCtorEq, Nat.reduceAdd, Nat.reduceMul, Nat.reduceLeDiff, Nat.reduceLT, Nat.reduceEqDiff]
  simp
end Go.Proofs.YthfpehmbellmcaaDoor

/- Rows that are live in a table, and how they are given up; maps that tell places. Plain. -/
namespace Go.Proofs.YthfpehmbellmcaaDoor
open Go.RowKit
set_option linter.unusedVariables false
set_option linter.unusedSimpArgs false
set_option linter.defProp false

/-- A map that tells where strings are. -/
def atOf (kv : List (List UInt8 × PV)) (l : SRow) : Prop := ∀ x, mpD kv x (int 0) = int (if x ∈ l then ((ixO x l : Nat) : Int) + 1 else 0)
theorem atOf_nil : atOf [] [] := fun x => by simp [mpD, mpF]
theorem atOf_put {kv : List (List UInt8 × PV)} {l : SRow} (h : atOf kv l) {s : List UInt8} (hs : s ∉ l) : atOf (mpS kv s (int ((l.length : Nat) + 1))) (l ++ [s]) := fun x => by
  have h := h x
  unfold mpD at h ⊢
  rw [mpF_mpS]
  by_cases e : s = x
  · subst e
    rw [if_pos rfl, if_pos (by simp), ixO_new [] hs]
    rfl
  · rw [if_neg e, h]
    have e' : ¬ x = s := fun h => e h.symm
    by_cases hm : x ∈ l
    · rw [if_pos hm, if_pos (List.mem_append_left _ hm), ixO_app [s] hm]
    · rw [if_neg hm, if_neg (by simp [hm, e'])]
/-- The cells of a table of which the first m rows are given up. -/
def liveC (f : Nat → SRow) (n m : Nat) : List (List AV) := (List.range n).map fun q => [if q < m then AV.p (.sl 1 (strE (f q))) else .row (.l (1000 + q))]
theorem liveC_len (f : Nat → SRow) (n m : Nat) : (liveC f n m).length = n := by simp [liveC]
theorem liveC_get {f : Nat → SRow} {n m q : Nat} (h : q < n) : (liveC f n m).getD q [] = [if q < m then AV.p (.sl 1 (strE (f q))) else .row (.l (1000 + q))] := by simp [liveC, List.getD, h]
theorem liveC_get? {f : Nat → SRow} {n m q : Nat} : (liveC f n m)[q]? = if q < n then some [if q < m then AV.p (.sl 1 (strE (f q))) else .row (.l (1000 + q))] else none := by
  unfold liveC
  rw [List.getElem?_map]
  by_cases h : q < n <;> simp [h]
theorem liveC_ext {f g : Nat → SRow} {n m : Nat} (h : ∀ q, q < m → f q = g q) : liveC f n m = liveC g n m := by
  unfold liveC
  refine List.map_congr_left fun q _ => ?_
  split
  · rename_i hq; rw [h q hq]
  · rfl
theorem liveC_kill {f : Nat → SRow} {n m d : Nat} (hd : d < 1000) : (liveC f n m).map (fun x => x.map fun y => AV.kill (.l d) y) = liveC f n m := by
  unfold liveC
  rw [List.map_map]
  refine List.map_congr_left fun q _ => ?_
  simp only [Function.comp_apply, List.map_cons, List.map_nil]
  split
  · rfl
  · rw [AV.kill, if_neg (by intro e; cases e; omega)]
/-- A row more, under its new name. -/
theorem liveC_ren {f : Nat → SRow} {n m d : Nat} (hd : d < 1000) (hm : m ≤ n) : (liveC f n m ++ [[AV.row (.l d)]]).map (fun x => x.map fun y => AV.ren (r1 d (1000 + n)) y) = liveC f (n + 1) m := by
  apply List.ext_getElem?
  intro j
  rw [List.getElem?_map, List.getElem?_append, liveC_len, liveC_get?, liveC_get?]
  by_cases hj : j < n
  · rw [if_pos hj, if_pos hj, if_pos (show j < n + 1 by omega)]
    simp only [Option.map_some, List.map_cons, List.map_nil]
    split
    · rfl
    · have h1 : ¬ Key.l (1000 + j) = .l d := by simp; omega
      have h2 : ¬ Key.l (1000 + j) = .l (1000 + n) := by simp; omega
      simp [AV.ren, r1, h1, h2]
  · rw [if_neg hj]
    by_cases hjn : j = n
    · subst hjn
      rw [if_pos (show j < j + 1 by omega), if_neg (show ¬ j < m by omega)]
      simp [AV.ren, r1]
    · rw [if_neg (show ¬ j < n + 1 by omega)]
      have : ¬ (j - n) = 0 := by omega
      cases hk : j - n with
      | zero => omega
      | succ k => simp
/-- A plain row more in front of all live ones. -/
theorem liveC_thaw {f : Nat → SRow} {n m : Nat} : (liveC f n m).map (fun x => x.map fun y => AV.thaw (.l (1000 + m)) (.sl 1 (strE (f m))) y) = liveC f n (m + 1) := by
  unfold liveC
  rw [List.map_map]
  refine List.map_congr_left fun q _ => ?_
  simp only [Function.comp_apply, List.map_cons, List.map_nil]
  by_cases h : q < m
  · rw [if_pos h, if_pos (by omega)]; rfl
  · rw [if_neg h]
    by_cases h2 : q = m
    · subst h2; rw [if_pos (by omega)]; simp [AV.thaw]
    · rw [if_neg (show ¬ q < m + 1 by omega), AV.thaw, if_neg (by intro e; injection e; omega)]
def tabF (f : Nat → SRow) (n : Nat) : Tab := (List.range n).map f
theorem liveC_plain (f : Nat → SRow) (n : Nat) : Zbb (liveC f n n) = some (tbE (tabF f n)) := by
  have : ∀ (l : List Nat), (∀ q ∈ l, q < n) → Zbb (l.map fun q => [if q < n then AV.p (.sl 1 (strE (f q))) else .row (.l (1000 + q))]) = some (tbE (l.map f)) := by
    intro l
    induction l with
    | nil => intro _; rfl
    | cons q r ih =>
      intro h
      have h1 := ih fun x hx => h x (by simp [hx])
      rw [List.map_cons, Zbb, h1, if_pos (h q (by simp))]
      rfl
  exact this (List.range n) fun q hq => List.mem_range.1 hq
/-- Numbers in a row. -/
def coR (n : Nat) (f : Nat → Nat) : List (List PV) := (List.range n).map fun q => [int (f q : Nat)]
theorem coR_len (n : Nat) (f : Nat → Nat) : (coR n f).length = n := by simp [coR]
theorem coR_get {n q : Nat} {f : Nat → Nat} (h : q < n) : (coR n f).getD q [] = [int (f q : Nat)] := by simp [coR, List.getD, h]
theorem coR_ext {n : Nat} {f g : Nat → Nat} (h : ∀ q, q < n → f q = g q) : coR n f = coR n g := by
  unfold coR
  exact List.map_congr_left fun q hq => by rw [h q (by simpa using hq)]
theorem coR_set {n q : Nat} {f : Nat → Nat} {v : Nat} : (coR n f).set q [int (v : Nat)] = coR n fun r => if r = q then v else f r := by
  unfold coR
  apply List.ext_getElem?
  intro i
  rw [List.getElem?_set]
  simp only [List.getElem?_map, List.length_map, List.length_range]
  by_cases h : q = i
  · subst h
    by_cases hq : q < n
    · simp [hq]
    · simp [hq]
  · rw [if_neg h]
    by_cases hi : i < n
    · simp [hi, Ne.symm h]
    · simp [hi]
theorem coR_zero (n : Nat) : List.replicate n [PV.int .i64 0] = coR n fun _ => 0 := by
  unfold coR
  apply List.ext_getElem?
  intro i
  simp only [List.getElem?_map, List.getElem?_replicate]
  by_cases h : i < n <;> simp [h]
/-- The table is there: its cells, and its live rows. -/
def LiveI (L : Objs) (o n m : Nat) (f : Nat → SRow) : Prop :=
  Zas L (.l o) = some (.rowv (liveC f n m) tStrs 1) ∧ ∀ q, m ≤ q → q < n → Zas L (.l (1000 + q)) = some (.row (strE (f q)) tStr 1 true)
theorem LiveI.ext {L : Objs} {o n m : Nat} {f g : Nat → SRow} (h : LiveI L o n m f) (hm : m ≤ n) (he : ∀ q, q < n → f q = g q) : LiveI L o n m g :=
  ⟨by rw [h.1, liveC_ext fun q hq => he q (by omega)], fun q h1 h2 => by rw [h.2 q h1 h2, he q h2]⟩
section
variable {E : Envt} {fr : List AV}
/-- All live rows of a table are given up. -/
theorem thaw_live (o n : Nat) (f : Nat → SRow) (te t1 : Nat) (ho : o < 1000) (hfr : ∀ q y, fr.map (·.thaw (.l (1000 + q)) y) = fr) : ∀ (d m : Nat) (L : Objs), m + d = n → Zas L (.l o) = some (.rowv (liveC f n m) te 1) → (∀ q, m ≤ q → q < n → Zas L (.l (1000 + q)) = some (.row (strE (f q)) t1 1 true)) →
    ∃ L', ReOk E fr L fr L' ∧ Zas L' (.l o) = some (.row (tbE (tabF f n)) te 1 true) ∧ ∀ k ao, (∀ q, k ≠ .l (1000 + q)) → k ≠ .l o → (∀ q y, AO.thaw (.l (1000 + q)) y ao = ao) → Zas L k = some ao → Zas L' k = some ao
  | 0, m, L, h, h1, h2 => by
    have : m = n := by omega
    subst this
    refine ⟨_, re_plain h1 (liveC_plain f m), by rw [look_putO, if_pos rfl], fun k ao g1 g2 g3 g4 => by rw [look_putO, if_neg g2, g4]⟩
  | d + 1, m, L, h, h1, h2 => by
    have hr := re_row (E := E) (fr := fr) (h2 m (Nat.le_refl _) (by omega))
    rw [hfr] at hr
    obtain ⟨L', g1, g2, g3⟩ := thaw_live o n f te t1 ho hfr d (m + 1) (Zaw (.l (1000 + m)) (.sl 1 (strE (f m))) L) (by omega) (by
      rw [look_thawO, if_neg (by intro e; injection e; omega), h1, Option.map_some, AO.thaw]; exact congrArg (fun c => some (AO.rowv c te 1)) liveC_thaw) (fun q hq1 hq2 => by
      rw [look_thawO, if_neg (by intro e; injection e; omega), h2 q (by omega) hq2, Option.map_some, AO.thaw])
    refine ⟨L', ReOk.trans hr g1, g2, fun k ao c1 c2 c3 c4 => g3 k ao c1 c2 c3 ?_⟩
    rw [look_thawO, if_neg (c1 m), c4, Option.map_some, c3]
end
end Go.Proofs.YthfpehmbellmcaaDoor

/- One table over another: the program's side. -/
namespace Go.Proofs.YthfpehmbellmcaaDoor
open Go.RowKit
set_option linter.unusedVariables false
set_option linter.unusedSimpArgs false
set_option linter.defProp false

/- paperchase/produce.Overlay -/
def ir_produce_Overlay_L5 : IC :=
  (.seq (.reg [⟨some 128, .bin .lss (.t 127) (.t 126), none⟩])
    (.seq (.cond (.t 128) .skip (.exit 10))
    (.seq (.block 11 (.seq (.reg [⟨some 129, .mov (.t 127), none⟩,
      ⟨some 130, .ixa 1 (.t 125) (.t 127), none⟩,
      ⟨some 131, .ld 1 false (.t 130), none⟩,
      ⟨some 21, .mov (.t 129), none⟩,
      ⟨some 22, .mov (.t 131), none⟩])
    (.seq (.reg [⟨some 132, .mov (.t 21), none⟩,
      ⟨some 133, .bin .gtr (.t 132) (.c (.int .i64 0)), none⟩])
    (.cond (.t 133) (.drg [⟨some 134, .mov (.t 16), none⟩,
      ⟨some 135, .mov (.t 7), none⟩,
      ⟨some 136, .mov (.t 20), none⟩,
      ⟨some 137, .ixa 1 (.t 136) (.c (.int .i64 0)), none⟩,
      ⟨some 138, .ld 1 false (.t 137), none⟩,
      ⟨some 139, .mpl false (.int .i64 0) (.t 135) (.t 138), none⟩,
      ⟨some 140, .ixa 1 (.t 134) (.t 139), none⟩,
      ⟨some 141, .ld 1 false (.t 140), none⟩,
      ⟨some 142, .mov (.t 13), none⟩,
      ⟨some 143, .mov (.t 21), none⟩,
      ⟨some 144, .ixa 1 (.t 142) (.t 143), none⟩,
      ⟨some 145, .ld 1 false (.t 144), none⟩,
      ⟨some 146, .mov (.t 22), none⟩,
      ⟨some 147, .ixa 1 (.t 141) (.t 145), none⟩,
      ⟨none, .st 1 (.t 147) (.t 146), none⟩]) .skip))))
    (.cut (.reg [⟨some 148, .bin .add (.t 127) (.c (.int .i64 1)), none⟩,
      ⟨some 127, .mov (.t 148), none⟩])))))
def ir_produce_Overlay_L4 : IC :=
  (.seq (.reg [⟨some 122, .bin .lss (.t 121) (.t 120), none⟩])
    (.seq (.cond (.t 122) .skip (.exit 8))
    (.seq (.block 9 (.seq (.reg [⟨some 123, .ixa 1 (.t 119) (.t 121), none⟩,
      ⟨some 124, .ld 1 false (.t 123), none⟩,
      ⟨some 20, .mov (.t 124), none⟩])
    (.seq (.reg [⟨some 125, .mov (.t 20), none⟩,
      ⟨some 126, .len (.t 125), none⟩,
      ⟨some 127, .mov (.c (.int .i64 0)), none⟩])
    (.block 10 (.loop ir_produce_Overlay_L5)))))
    (.reg [⟨some 149, .bin .add (.t 121) (.c (.int .i64 1)), none⟩,
      ⟨some 121, .mov (.t 149), none⟩]))))
def ir_produce_Overlay_L3 : IC :=
  (.seq (.reg [⟨some 103, .bin .lss (.t 102) (.t 101), none⟩])
    (.seq (.cond (.t 103) .skip (.exit 6))
    (.seq (.block 7 (.seq (.reg [⟨some 104, .ixa 1 (.t 100) (.t 102), none⟩,
      ⟨some 105, .ld 1 false (.t 104), none⟩,
      ⟨some 18, .mov (.t 105), none⟩])
    (.reg [⟨some 106, .mov (.t 16), none⟩,
      ⟨some 107, .mov (.t 18), none⟩,
      ⟨some 108, .call 11 [.t 107], none⟩,
      ⟨some 109, .mov (.t 12), none⟩,
      ⟨some 110, .len (.t 109), none⟩,
      ⟨some 111, .mov (.t 18), none⟩,
      ⟨some 112, .len (.t 111), none⟩,
      ⟨some 113, .bin .sub (.t 110) (.t 112), none⟩,
      ⟨some 114, .apz 9 1 16 [.str []] (.t 108) (.t 113), none⟩,
      ⟨some 115, .bsr 36 1 [.t 114], none⟩,
      ⟨some 116, .app 36 1 24 (.t 106) (.t 115), none⟩,
      ⟨some 16, .mov (.t 116), none⟩])))
    (.reg [⟨some 117, .bin .add (.t 102) (.c (.int .i64 1)), none⟩,
      ⟨some 102, .mov (.t 117), none⟩]))))
def ir_produce_Overlay_L2 : IC :=
  (.seq (.reg [⟨some 69, .bin .lss (.t 68) (.t 67), none⟩])
    (.seq (.cond (.t 69) .skip (.exit 4))
    (.seq (.block 5 (.seq (.reg [⟨some 70, .mov (.t 68), none⟩,
      ⟨some 71, .ixa 1 (.t 66) (.t 68), none⟩,
      ⟨some 72, .ld 1 false (.t 71), none⟩,
      ⟨some 14, .mov (.t 70), none⟩,
      ⟨some 15, .mov (.t 72), none⟩])
    (.seq (.reg [⟨some 73, .mov (.t 13), none⟩,
      ⟨some 74, .mov (.t 14), none⟩,
      ⟨some 75, .mov (.t 12), none⟩,
      ⟨some 76, .mov (.t 15), none⟩,
      ⟨some 77, .call 18 [.t 75, .t 76], none⟩,
      ⟨some 78, .ixa 1 (.t 73) (.t 74), none⟩,
      ⟨none, .st 1 (.t 78) (.t 77), none⟩])
    (.seq (.reg [⟨some 79, .mov (.t 13), none⟩,
      ⟨some 80, .mov (.t 14), none⟩,
      ⟨some 81, .ixa 1 (.t 79) (.t 80), none⟩,
      ⟨some 82, .ld 1 false (.t 81), none⟩,
      ⟨some 83, .bin .lss (.t 82) (.c (.int .i64 0)), none⟩])
    (.cond (.t 83) (.seq (.reg [⟨some 84, .mov (.t 13), none⟩,
      ⟨some 85, .mov (.t 14), none⟩,
      ⟨some 86, .mov (.t 12), none⟩,
      ⟨some 87, .len (.t 86), none⟩,
      ⟨some 88, .ixa 1 (.t 84) (.t 85), none⟩,
      ⟨none, .st 1 (.t 88) (.t 87), none⟩])
    (.reg [⟨some 89, .mov (.t 12), none⟩,
      ⟨some 90, .mov (.t 15), none⟩,
      ⟨some 91, .bsl 1 [.t 90], none⟩,
      ⟨some 92, .app 9 1 16 (.t 89) (.t 91), none⟩,
      ⟨some 12, .mov (.t 92), none⟩])) .skip)))))
    (.cut (.reg [⟨some 93, .bin .add (.t 68) (.c (.int .i64 1)), none⟩,
      ⟨some 68, .mov (.t 93), none⟩])))))
def ir_produce_Overlay_L1 : IC :=
  (.seq (.reg [⟨some 47, .bin .lss (.t 46) (.t 45), none⟩])
    (.seq (.cond (.t 47) .skip (.exit 2))
    (.seq (.block 3 (.seq (.reg [⟨some 48, .ixa 1 (.t 44) (.t 46), none⟩,
      ⟨some 49, .ld 1 false (.t 48), none⟩,
      ⟨some 11, .mov (.t 49), none⟩])
    (.seq (.reg [⟨some 50, .mov (.t 7), none⟩,
      ⟨some 51, .mov (.t 11), none⟩,
      ⟨some 52, .mpl false (.int .i64 0) (.t 50) (.t 51), none⟩,
      ⟨some 53, .bin .eql (.t 52) (.c (.int .i64 0)), none⟩])
    (.cond (.t 53) (.seq (.reg [⟨some 4, .mov (.c (.nl 1)), none⟩,
      ⟨some 5, .mov (.c (.int .i64 8)), none⟩])
    .ret) .skip))))
    (.reg [⟨some 54, .bin .add (.t 46) (.c (.int .i64 1)), none⟩,
      ⟨some 46, .mov (.t 54), none⟩]))))
def ir_produce_Overlay_L0 : IC :=
  (.seq (.reg [⟨some 34, .bin .lss (.t 33) (.t 32), none⟩])
    (.seq (.cond (.t 34) .skip (.exit 0))
    (.seq (.block 1 (.seq (.reg [⟨some 35, .mov (.t 33), none⟩,
      ⟨some 36, .ixa 1 (.t 31) (.t 33), none⟩,
      ⟨some 37, .ld 1 false (.t 36), none⟩,
      ⟨some 8, .mov (.t 35), none⟩,
      ⟨some 9, .mov (.t 37), none⟩])
    (.reg [⟨some 38, .mov (.t 7), none⟩,
      ⟨some 39, .mov (.t 9), none⟩,
      ⟨some 40, .mov (.t 8), none⟩,
      ⟨some 41, .bin .add (.t 40) (.c (.int .i64 1)), none⟩,
      ⟨none, .mpu (.t 38) (.t 39) (.t 41), none⟩])))
    (.reg [⟨some 42, .bin .add (.t 33) (.c (.int .i64 1)), none⟩,
      ⟨some 33, .mov (.t 42), none⟩]))))
def ir_produce_Overlay : IC :=
  (.seq (.reg [⟨some 4, .mov (.c (.nl 1)), none⟩,
      ⟨some 5, .mov (.c (.int .i64 0)), none⟩])
    (.seq (.seq (.reg [⟨some 23, .mov (.t 0), none⟩,
      ⟨some 24, .mov (.t 1), none⟩,
      ⟨some 25, .call 16 [.t 23, .t 24], none⟩,
      ⟨some 6, .mov (.t 25), none⟩])
    (.seq (.reg [⟨some 26, .mov (.t 6), none⟩,
      ⟨some 27, .bin .neq (.t 26) (.c (.int .i64 0)), none⟩])
    (.cond (.t 27) (.seq (.reg [⟨some 28, .mov (.t 6), none⟩,
      ⟨some 4, .mov (.c (.nl 1)), none⟩,
      ⟨some 5, .mov (.t 28), none⟩])
    .ret) .skip)))
    (.seq (.reg [⟨some 29, .mkm 9 3, none⟩,
      ⟨some 7, .mov (.t 29), none⟩])
    (.seq (.seq (.reg [⟨some 30, .mov (.t 0), none⟩,
      ⟨some 31, .call 17 [.t 30], none⟩,
      ⟨some 32, .len (.t 31), none⟩,
      ⟨some 33, .mov (.c (.int .i64 0)), none⟩])
    (.block 0 (.loop ir_produce_Overlay_L0)))
    (.seq (.seq (.reg [⟨some 43, .mov (.t 1), none⟩,
      ⟨some 44, .call 17 [.t 43], none⟩,
      ⟨some 45, .len (.t 44), none⟩,
      ⟨some 46, .mov (.c (.int .i64 0)), none⟩])
    (.block 2 (.loop ir_produce_Overlay_L1)))
    (.seq (.reg [⟨some 55, .mov (.t 0), none⟩,
      ⟨some 56, .ixa 1 (.t 55) (.c (.int .i64 0)), none⟩,
      ⟨some 57, .ld 1 false (.t 56), none⟩,
      ⟨some 58, .call 11 [.t 57], none⟩,
      ⟨some 12, .mov (.t 58), none⟩])
    (.seq (.reg [⟨some 59, .mov (.t 1), none⟩,
      ⟨some 60, .ixa 1 (.t 59) (.c (.int .i64 0)), none⟩,
      ⟨some 61, .ld 1 false (.t 60), none⟩,
      ⟨some 62, .len (.t 61), none⟩,
      ⟨some 63, .mks 3 1 8 [.int .i64 0] (.t 62) (.t 62), none⟩,
      ⟨some 13, .mov (.t 63), none⟩])
    (.seq (.seq (.reg [⟨some 64, .mov (.t 1), none⟩,
      ⟨some 65, .ixa 1 (.t 64) (.c (.int .i64 0)), none⟩,
      ⟨some 66, .ld 1 false (.t 65), none⟩,
      ⟨some 67, .len (.t 66), none⟩,
      ⟨some 68, .mov (.c (.int .i64 0)), none⟩])
    (.block 4 (.loop ir_produce_Overlay_L2)))
    (.seq (.seq (.reg [⟨some 94, .mov (.t 12), none⟩,
      ⟨some 95, .len (.t 94), none⟩,
      ⟨some 96, .bin .gtr (.t 95) (.c (.int .i64 30)), none⟩])
    (.cond (.t 96) (.seq (.reg [⟨some 4, .mov (.c (.nl 1)), none⟩,
      ⟨some 5, .mov (.c (.int .i64 2)), none⟩])
    .ret) .skip))
    (.seq (.reg [⟨some 97, .mov (.t 12), none⟩,
      ⟨none, .fz (.t 97), none⟩,
      ⟨some 98, .bsr 36 1 [.t 97], none⟩,
      ⟨some 16, .mov (.t 98), none⟩])
    (.seq (.seq (.reg [⟨some 99, .mov (.t 0), none⟩,
      ⟨some 100, .vsl 1 (.t 99) (some (.c (.int .i64 1))) none, none⟩,
      ⟨some 101, .len (.t 100), none⟩,
      ⟨some 102, .mov (.c (.int .i64 0)), none⟩])
    (.block 6 (.loop ir_produce_Overlay_L3)))
    (.seq (.seq (.reg [⟨some 118, .mov (.t 1), none⟩,
      ⟨some 119, .vsl 1 (.t 118) (some (.c (.int .i64 1))) none, none⟩,
      ⟨some 120, .len (.t 119), none⟩,
      ⟨some 121, .mov (.c (.int .i64 0)), none⟩])
    (.block 8 (.loop ir_produce_Overlay_L4)))
    (.seq (.reg [⟨some 150, .mov (.t 16), none⟩,
      ⟨some 4, .mov (.t 150), none⟩,
      ⟨some 5, .mov (.c (.int .i64 0)), none⟩])
    .ret)))))))))))))
def rs_produce_Overlay : List IRes := [.t 4, .t 5]
theorem ck_produce_Overlay : chkF Tryd.prog Tryd.f6 ir_produce_Overlay rs_produce_Overlay 151 = true := by kernel_rfl

abbrev tIntP : Nat := 3
theorem ovE_zero {a b : Tab} (h : ovE a b = 0) : ov0 a b = 0 ∧ dupT a = false ∧ dupT b = false ∧ key0 a = key0 b := by
  unfold ovE at h
  by_cases h2 : ov0 a b = 0
  · rw [if_pos h2] at h
    by_cases h3 : (dupT a || dupT b) = true
    · rw [if_pos h3] at h; cases h
    · rw [if_neg h3] at h
      by_cases h4 : key0 a = key0 b
      · have h3 : (dupT a || dupT b) = false := by simpa using h3
        rw [Bool.or_eq_false_iff] at h3
        exact ⟨h2, h3.1, h3.2, h4⟩
      · rw [if_neg h4] at h; cases h
  · rw [if_neg h2] at h; exact absurd h h2
theorem miss_any (a b : Tab) : missT a b = (colF (b.drop 1)).any fun s => !decide (s ∈ colF (a.drop 1)) := by
  rw [colF, List.any_map]; rfl
theorem take_nodup {l : SRow} (hn : l.Nodup) {k : Nat} {x : List UInt8} (hx : l[k]? = some x) : x ∉ l.take k := by
  have htk : l.take (k + 1) = l.take k ++ [x] := by rw [List.take_add_one, hx]; rfl
  have h2 : (l.take (k + 1)).Nodup := hn.sublist (List.take_sublist _ _)
  rw [htk, List.nodup_append] at h2
  intro hm
  exact h2.2.2 x hm x (by simp) rfl
theorem ixO_get' {x : List UInt8} : ∀ {l : SRow}, ixO x l < l.length → l[ixO x l]? = some x
  | [], h => by simp at h
  | y :: r, h => by
    rw [ixO] at h ⊢
    split at h
    · rename_i e; simp [e]
    · rename_i e
      rw [if_neg e]
      simpa using ixO_get' (l := r) (by simpa using h)
theorem nearK_len (H b0 : SRow) (u v t : Tab) : ∀ m, (nearK H b0 u v m t).length = t.length
  | 0 => rfl
  | m + 1 => by rw [nearK, List.length_set, nearK_len H b0 u v t m]
theorem tab_getD (t : Tab) : tabF (fun q => t.getD q []) t.length = t := by
  apply List.ext_getElem?
  intro j
  unfold tabF
  rw [List.getElem?_map]
  by_cases h : j < t.length
  · simp [h, List.getD]
  · simp [h]
/-- Columns that are found already. -/
def fcK (H b0 : SRow) (k q : Nat) : Nat := if q < k then ixO (b0.getD q []) H else 0
theorem fcK_step {H b0 : SRow} {k v : Nat} (hv : v = ixO (b0.getD k []) H) (n : Nat) : coR n (fun r => if r = k then v else fcK H b0 k r) = coR n (fcK H b0 (k + 1)) := by
  refine coR_ext fun q _ => ?_
  unfold fcK
  by_cases h : q = k
  · subst h; rw [if_pos rfl, if_pos (by omega), hv]
  · rw [if_neg h]
    by_cases h2 : q < k
    · rw [if_pos h2, if_pos (by omega)]
    · rw [if_neg h2, if_neg (by omega)]
/-- The table's first rows. -/
def f3 (H : SRow) (u : Tab) (q : Nat) : SRow := (H :: u.map (rowB H.length)).getD q []
/-- The rest of the objects. -/
def OvM (L : Objs) (kv : List (List UInt8 × PV)) (n : Nat) (g : Nat → Nat) : Prop := Zas L (.l 29) = some (.map kv 9 tIntP) ∧ Zas L (.l 63) = some (.row (coR n g) tIntP 1 true)
set_option maxHeartbeats 8000000 in
set_option maxRecDepth 100000 in
theorem Overlay_ok : OvOk := by
  intro a b ha hb
  refine pcallF mixed Tryd.func6 ck_produce_Overlay ?_
  simp only [a0, l0, OS.ao, List.map_cons, List.map_nil, List.length_cons, List.length_nil, List.cons_append, List.nil_append, Nat.reduceSub, Nat.reduceAdd, List.replicate_succ, List.replicate_zero, ir_produce_Overlay, rs_produce_Overlay, ZZ, YY, Ze, ite_true, ite_false, forall_const, reduceCtorEq, Nat.reduceAdd, Nat.reduceMul, Nat.reduceLeDiff, Nat.reduceLT, Nat.reduceEqDiff]
  refine use1 (up4 (overlayError_ok a b ha hb)) rfl (.inl rfl) ?_
  by_cases h0 : ovE a b = 0
  rotate_left
  · have hd : decide (ovE a b = 0) = false := decide_eq_false h0
    simp only [ZZ, YY, Ze, ite_true, ite_false, forall_const, reduceCtorEq, Nat.reduceAdd, Nat.reduceMul, Nat.reduceLeDiff, Nat.reduceLT, Nat.reduceEqDiff, hd]
    rw [ovR, if_neg (by rw [ovF, if_neg h0]; exact h0), ovF, if_neg h0]
  have hd : decide (ovE a b = 0) = true := decide_eq_true h0
  obtain ⟨hv0, da, db, _⟩ := ovE_zero h0
  obtain ⟨la, lb, na, nb⟩ := ov0_zero hv0
  obtain ⟨a1, a2⟩ := loadE_zero la
  obtain ⟨b1, b2⟩ := loadE_zero lb
  have ga : (tbE a).getD (Int.toNat 0) [] = _ := tbE_get (head_some na)
  have gb : (tbE b).getD (Int.toNat 0) [] = _ := tbE_get (head_some nb)
  have ra := a2 _ (List.mem_of_getElem? (head_some na))
  have rb := b2 _ (List.mem_of_getElem? (head_some nb))
  have hkn : (colF (a.drop 1)).Nodup := by
    simp only [dupT, Bool.or_eq_false_iff, Bool.not_eq_false', decide_eq_true_eq] at da
    exact da.2
  have k1 : (colF (a.drop 1)).length ≤ 2001 := by rw [colF_len]; simp; omega
  have k2 : (colF (b.drop 1)).length ≤ 2001 := by rw [colF_len]; simp; omega
  simp only [ZZ, YY, Ze, ite_true, ite_false, forall_const, reduceCtorEq, Nat.reduceAdd, Nat.reduceMul, Nat.reduceLeDiff, Nat.reduceLT, Nat.reduceEqDiff, hd]
  refine use1 (plainR (keys_ok a na (by omega) fun r hr => (a2 r hr).1)) rfl (.inl rfl) ?_
  simp only [ZZ, YY, Ze, ite_true, ite_false, forall_const, reduceCtorEq, Nat.reduceAdd, Nat.reduceMul, Nat.reduceLeDiff, Nat.reduceLT, Nat.reduceEqDiff, strE_len]
  have hms := miss_any a b
  have hks : ∀ x, x ∈ colF (a.drop 1) ↔ x ∈ colF (a.drop 1) := fun _ => Iff.rfl
  generalize hka : colF (a.drop 1) = ks at *
  refine loop_intro (fun n fr L => ∃ (k : Nat) (kv : List (List UInt8 × PV)), k ≤ ks.length ∧ n = ks.length - k ∧ (atOf kv (ks.take k)) ∧ fr = [.p (.sl 1 (tbE a)), .p (.sl 1 (tbE b)), .any, .any, .any, .any, .any, .mp (.l 29), .any, .any, .any, .any, .any, .any, .any, .any, .any, .any, .any, .any, .any, .any, .any, .any, .any, .any, .any, .any, .any, .any, .any, .p (.sl 1 (strE ks)), .p (int (ks.length : Nat)), .p (int (k : Nat)), .any, .any, .any, .any, .any, .any, .any, .any, .any, .any, .any, .any, .any, .any, .any, .any, .any, .any, .any, .any, .any, .any, .any, .any, .any, .any, .any, .any, .any, .any, .any, .any, .any, .any, .any, .any, .any, .any, .any, .any, .any, .any, .any, .any, .any, .any, .any, .any, .any, .any, .any, .any, .any, .any, .any, .any, .any, .any, .any, .any, .any, .any, .any, .any, .any, .any, .any, .any, .any, .any, .any, .any, .any, .any, .any, .any, .any, .any, .any, .any, .any, .any, .any, .any, .any, .any, .any, .any, .any, .any, .any, .any, .any, .any, .any, .any, .any, .any, .any, .any, .any, .any, .any, .any, .any, .any, .any, .any, .any, .any, .any, .any, .any, .any, .any, .any, .any] ∧ L = [(.l 29, .map kv 9 tIntP)]) (ks.length) [.p (.sl 1 (tbE a)), .p (.sl 1 (tbE b)), .any, .any, .any, .any, .any, .mp (.l 29), .any, .any, .any, .any, .any, .any, .any, .any, .any, .any, .any, .any, .any, .any, .any, .any, .any, .any, .any, .any, .any, .any, .any, .p (.sl 1 (strE ks)), .p (int (ks.length : Nat)), .p (int (0 : Nat)), .any, .any, .any, .any, .any, .any, .any, .any, .any, .any, .any, .any, .any, .any, .any, .any, .any, .any, .any, .any, .any, .any, .any, .any, .any, .any, .any, .any, .any, .any, .any, .any, .any, .any, .any, .any, .any, .any, .any, .any, .any, .any, .any, .any, .any, .any, .any, .any, .any, .any, .any, .any, .any, .any, .any, .any, .any, .any, .any, .any, .any, .any, .any, .any, .any, .any, .any, .any, .any, .any, .any, .any, .any, .any, .any, .any, .any, .any, .any, .any, .any, .any, .any, .any, .any, .any, .any, .any, .any, .any, .any, .any, .any, .any, .any, .any, .any, .any, .any, .any, .any, .any, .any, .any, .any, .any, .any, .any, .any, .any, .any, .any, .any, .any, .any, .any, .any] [(.l 29, .map [] 9 tIntP)] (by simp only [ZZ, YY, Ze, ite_true, ite_false, forall_const, reduceCtorEq, Nat.reduceAdd, Nat.reduceMul, Nat.reduceLeDiff, Nat.reduceLT, Nat.reduceEqDiff, strE_len]; try trivial) (by (simp only [ZZ, YY, Ze, ite_true, ite_false, forall_const, reduceCtorEq, Nat.reduceAdd, Nat.reduceMul, Nat.reduceLeDiff, Nat.reduceLT, Nat.reduceEqDiff]; try trivial)) ⟨0, [], by omega, by omega, atOf_nil, rfl, rfl⟩ ?_
  rintro n fr L ⟨k, kv, hk, rfl, hkv, rfl, rfl⟩
  simp only [ir_produce_Overlay_L0, ZZ, YY, Ze, ite_true, ite_false, forall_const, reduceCtorEq, Nat.reduceAdd, Nat.reduceMul, Nat.reduceLeDiff, Nat.reduceLT, Nat.reduceEqDiff]
  refine br ?_ ?_
  · intro h
    have hlt : k < ks.length := by have := of_decide_eq_true h; omega
    obtain ⟨x, hx⟩ : ∃ x, ks[k]? = some x := ⟨_, List.getElem?_eq_getElem hlt⟩
    have hg := strE_get hx
    have htk : ks.take (k + 1) = ks.take k ++ [x] := by rw [List.take_add_one, hx]; rfl
    have hput := atOf_put hkv (take_nodup hkn hx)
    rw [← htk, List.length_take, Nat.min_eq_left (by omega)] at hput
    simp only [ZZ, YY, Ze, ite_true, ite_false, forall_const, reduceCtorEq, Nat.reduceAdd, Nat.reduceMul, Nat.reduceLeDiff, Nat.reduceLT, Nat.reduceEqDiff, hg, strE_len]
    ((repeat' (with_reducible apply And.intro)) <;> try ((first | first | assumption | trivial | exact (fun hq => by rw [hq]; rfl) | exact i64_of (by omega) (by omega) | omega | (simp; done) | (simp; omega) | (intro hsc; have hs0 := hsc; (try have hsd := of_decide_eq_true hsc); (try simp only [Bool.not_eq_true', Bool.or_eq_false_iff, Bool.and_eq_true, Bool.or_eq_true, decide_eq_true_eq, decide_eq_false_iff_not] at hsc); (repeat' (with_reducible apply And.intro)) <;> (first | assumption | trivial | exact (fun hq => by rw [hq]; rfl) | exact i64_of (by omega) (by omega) | omega | (simp; done) | (simp; omega) | (intro hse; simp [hse, hs0]; done) | (intro hse; simp only [hse, hs0, Bool.true_and, Bool.and_true, Bool.not_false, Bool.not_true, Bool.and_self]; done))))))
    refine end_round (ks.length - (k + 1)) [.p (.sl 1 (tbE a)), .p (.sl 1 (tbE b)), .any, .any, .any, .any, .any, .mp (.l 29), .any, .any, .any, .any, .any, .any, .any, .any, .any, .any, .any, .any, .any, .any, .any, .any, .any, .any, .any, .any, .any, .any, .any, .p (.sl 1 (strE ks)), .p (int (ks.length : Nat)), .p (int ((k + 1) : Nat)), .any, .any, .any, .any, .any, .any, .any, .any, .any, .any, .any, .any, .any, .any, .any, .any, .any, .any, .any, .any, .any, .any, .any, .any, .any, .any, .any, .any, .any, .any, .any, .any, .any, .any, .any, .any, .any, .any, .any, .any, .any, .any, .any, .any, .any, .any, .any, .any, .any, .any, .any, .any, .any, .any, .any, .any, .any, .any, .any, .any, .any, .any, .any, .any, .any, .any, .any, .any, .any, .any, .any, .any, .any, .any, .any, .any, .any, .any, .any, .any, .any, .any, .any, .any, .any, .any, .any, .any, .any, .any, .any, .any, .any, .any, .any, .any, .any, .any, .any, .any, .any, .any, .any, .any, .any, .any, .any, .any, .any, .any, .any, .any, .any, .any, .any, .any, .any] [(.l 29, .map (mpS kv x (int ((k : Nat) + 1))) 9 tIntP)] (by omega) (by (simp only [ZZ, YY, Ze, ite_true, ite_false, forall_const, reduceCtorEq, Nat.reduceAdd, Nat.reduceMul, Nat.reduceLeDiff, Nat.reduceLT, Nat.reduceEqDiff]; try trivial)) (by (simp only [ZZ, YY, Ze, ite_true, ite_false, forall_const, reduceCtorEq, Nat.reduceAdd, Nat.reduceMul, Nat.reduceLeDiff, Nat.reduceLT, Nat.reduceEqDiff]; try trivial)) ⟨k + 1, mpS kv x (int ((k : Nat) + 1)), by omega, rfl, hput, rfl, rfl⟩
  intro h
  have hge : k = ks.length := by have := of_decide_eq_false h; omega
  rw [hge, List.take_length] at hkv
  clear h hge hk
  simp only [ZZ, YY, Ze, ite_true, ite_false, forall_const, reduceCtorEq, Nat.reduceAdd, Nat.reduceMul, Nat.reduceLeDiff, Nat.reduceLT, Nat.reduceEqDiff]
  refine use1 (plainR (keys_ok b nb (by omega) fun r hr => (b2 r hr).1)) rfl (.inl rfl) ?_
  simp only [ZZ, YY, Ze, ite_true, ite_false, forall_const, reduceCtorEq, Nat.reduceAdd, Nat.reduceMul, Nat.reduceLeDiff, Nat.reduceLT, Nat.reduceEqDiff, strE_len]
  generalize hkb : colF (b.drop 1) = kb at *
  refine loop_intro (fun n fr L => ∃ (k : Nat), k ≤ kb.length ∧ n = kb.length - k ∧ (missT a b = (kb.drop k).any fun s => !decide (s ∈ ks)) ∧ fr = [.p (.sl 1 (tbE a)), .p (.sl 1 (tbE b)), .any, .any, .any, .any, .any, .mp (.l 29), .any, .any, .any, .any, .any, .any, .any, .any, .any, .any, .any, .any, .any, .any, .any, .any, .any, .any, .any, .any, .any, .any, .any, .any, .any, .any, .any, .any, .any, .any, .any, .any, .any, .any, .any, .any, .p (.sl 1 (strE kb)), .p (int (kb.length : Nat)), .p (int (k : Nat)), .any, .any, .any, .any, .any, .any, .any, .any, .any, .any, .any, .any, .any, .any, .any, .any, .any, .any, .any, .any, .any, .any, .any, .any, .any, .any, .any, .any, .any, .any, .any, .any, .any, .any, .any, .any, .any, .any, .any, .any, .any, .any, .any, .any, .any, .any, .any, .any, .any, .any, .any, .any, .any, .any, .any, .any, .any, .any, .any, .any, .any, .any, .any, .any, .any, .any, .any, .any, .any, .any, .any, .any, .any, .any, .any, .any, .any, .any, .any, .any, .any, .any, .any, .any, .any, .any, .any, .any, .any, .any, .any, .any, .any, .any, .any, .any, .any, .any, .any, .any, .any, .any, .any, .any] ∧ L = [(.l 29, .map kv 9 tIntP)]) (kb.length) [.p (.sl 1 (tbE a)), .p (.sl 1 (tbE b)), .any, .any, .any, .any, .any, .mp (.l 29), .any, .any, .any, .any, .any, .any, .any, .any, .any, .any, .any, .any, .any, .any, .any, .any, .any, .any, .any, .any, .any, .any, .any, .any, .any, .any, .any, .any, .any, .any, .any, .any, .any, .any, .any, .any, .p (.sl 1 (strE kb)), .p (int (kb.length : Nat)), .p (int (0 : Nat)), .any, .any, .any, .any, .any, .any, .any, .any, .any, .any, .any, .any, .any, .any, .any, .any, .any, .any, .any, .any, .any, .any, .any, .any, .any, .any, .any, .any, .any, .any, .any, .any, .any, .any, .any, .any, .any, .any, .any, .any, .any, .any, .any, .any, .any, .any, .any, .any, .any, .any, .any, .any, .any, .any, .any, .any, .any, .any, .any, .any, .any, .any, .any, .any, .any, .any, .any, .any, .any, .any, .any, .any, .any, .any, .any, .any, .any, .any, .any, .any, .any, .any, .any, .any, .any, .any, .any, .any, .any, .any, .any, .any, .any, .any, .any, .any, .any, .any, .any, .any, .any, .any, .any, .any] [(.l 29, .map kv 9 tIntP)] (by simp only [ZZ, YY, Ze, ite_true, ite_false, forall_const, reduceCtorEq, Nat.reduceAdd, Nat.reduceMul, Nat.reduceLeDiff, Nat.reduceLT, Nat.reduceEqDiff, strE_len]; try trivial) (by (simp only [ZZ, YY, Ze, ite_true, ite_false, forall_const, reduceCtorEq, Nat.reduceAdd, Nat.reduceMul, Nat.reduceLeDiff, Nat.reduceLT, Nat.reduceEqDiff]; try trivial)) ⟨0, by omega, by omega, by simpa using hms, rfl, rfl⟩ ?_
  rintro n fr L ⟨k, hk, rfl, hf, rfl, rfl⟩
  simp only [ir_produce_Overlay_L1, ZZ, YY, Ze, ite_true, ite_false, forall_const, reduceCtorEq, Nat.reduceAdd, Nat.reduceMul, Nat.reduceLeDiff, Nat.reduceLT, Nat.reduceEqDiff]
  refine br ?_ ?_
  · intro h
    have hlt : k < kb.length := by have := of_decide_eq_true h; omega
    obtain ⟨x, hx⟩ : ∃ x, kb[k]? = some x := ⟨_, List.getElem?_eq_getElem hlt⟩
    have hg := strE_get hx
    rw [drop_cons hx, List.any_cons] at hf
    have hc : decide ((if x ∈ ks then ((ixO x ks : Nat) : Int) + 1 else 0) = 0) = !decide (x ∈ ks) := by
      by_cases hm : x ∈ ks
      · rw [if_pos hm, decide_eq_true hm]; exact decide_eq_false (by omega)
      · rw [if_neg hm, decide_eq_false hm]; rfl
    simp only [ZZ, YY, Ze, ite_true, ite_false, forall_const, reduceCtorEq, Nat.reduceAdd, Nat.reduceMul, Nat.reduceLeDiff, Nat.reduceLT, Nat.reduceEqDiff, hg, strE_len]
    ((repeat' (with_reducible apply And.intro)) <;> try ((first | first | assumption | trivial | exact (fun hq => by rw [hq]; rfl) | exact i64_of (by omega) (by omega) | omega | (simp; done) | (simp; omega) | (intro hsc; have hs0 := hsc; (try have hsd := of_decide_eq_true hsc); (try simp only [Bool.not_eq_true', Bool.or_eq_false_iff, Bool.and_eq_true, Bool.or_eq_true, decide_eq_true_eq, decide_eq_false_iff_not] at hsc); (repeat' (with_reducible apply And.intro)) <;> (first | assumption | trivial | exact (fun hq => by rw [hq]; rfl) | exact i64_of (by omega) (by omega) | omega | (simp; done) | (simp; omega) | (intro hse; simp [hse, hs0]; done) | (intro hse; simp only [hse, hs0, Bool.true_and, Bool.and_true, Bool.not_false, Bool.not_true, Bool.and_self]; done))))))
    simp only [ZZ, YY, Ze, ite_true, ite_false, forall_const, reduceCtorEq, Nat.reduceAdd, Nat.reduceMul, Nat.reduceLeDiff, Nat.reduceLT, Nat.reduceEqDiff, hkv x, hc]
    refine br ?_ ?_
    · intro hm
      rw [hm, Bool.true_or] at hf
      simp only [ZZ, YY, Ze, ite_true, ite_false, forall_const, reduceCtorEq, Nat.reduceAdd, Nat.reduceMul, Nat.reduceLeDiff, Nat.reduceLT, Nat.reduceEqDiff]
      have h8 : ovF a b = 8 := by rw [ovF, if_pos h0, hf]; rfl
      rw [ovR, if_neg (by rw [h8]; decide), h8]
    · intro hm
      rw [hm, Bool.false_or] at hf
      simp only [ZZ, YY, Ze, ite_true, ite_false, forall_const, reduceCtorEq, Nat.reduceAdd, Nat.reduceMul, Nat.reduceLeDiff, Nat.reduceLT, Nat.reduceEqDiff]
      ((repeat' (with_reducible apply And.intro)) <;> try ((first | first | assumption | trivial | exact (fun hq => by rw [hq]; rfl) | exact i64_of (by omega) (by omega) | omega | (simp; done) | (simp; omega) | (intro hsc; have hs0 := hsc; (try have hsd := of_decide_eq_true hsc); (try simp only [Bool.not_eq_true', Bool.or_eq_false_iff, Bool.and_eq_true, Bool.or_eq_true, decide_eq_true_eq, decide_eq_false_iff_not] at hsc); (repeat' (with_reducible apply And.intro)) <;> (first | assumption | trivial | exact (fun hq => by rw [hq]; rfl) | exact i64_of (by omega) (by omega) | omega | (simp; done) | (simp; omega) | (intro hse; simp [hse, hs0]; done) | (intro hse; simp only [hse, hs0, Bool.true_and, Bool.and_true, Bool.not_false, Bool.not_true, Bool.and_self]; done))))))
      refine end_round (kb.length - (k + 1)) [.p (.sl 1 (tbE a)), .p (.sl 1 (tbE b)), .any, .any, .any, .any, .any, .mp (.l 29), .any, .any, .any, .any, .any, .any, .any, .any, .any, .any, .any, .any, .any, .any, .any, .any, .any, .any, .any, .any, .any, .any, .any, .any, .any, .any, .any, .any, .any, .any, .any, .any, .any, .any, .any, .any, .p (.sl 1 (strE kb)), .p (int (kb.length : Nat)), .p (int ((k + 1) : Nat)), .any, .any, .any, .any, .any, .any, .any, .any, .any, .any, .any, .any, .any, .any, .any, .any, .any, .any, .any, .any, .any, .any, .any, .any, .any, .any, .any, .any, .any, .any, .any, .any, .any, .any, .any, .any, .any, .any, .any, .any, .any, .any, .any, .any, .any, .any, .any, .any, .any, .any, .any, .any, .any, .any, .any, .any, .any, .any, .any, .any, .any, .any, .any, .any, .any, .any, .any, .any, .any, .any, .any, .any, .any, .any, .any, .any, .any, .any, .any, .any, .any, .any, .any, .any, .any, .any, .any, .any, .any, .any, .any, .any, .any, .any, .any, .any, .any, .any, .any, .any, .any, .any, .any, .any] [(.l 29, .map kv 9 tIntP)] (by omega) (by (simp only [ZZ, YY, Ze, ite_true, ite_false, forall_const, reduceCtorEq, Nat.reduceAdd, Nat.reduceMul, Nat.reduceLeDiff, Nat.reduceLT, Nat.reduceEqDiff]; try trivial)) (by (simp only [ZZ, YY, Ze, ite_true, ite_false, forall_const, reduceCtorEq, Nat.reduceAdd, Nat.reduceMul, Nat.reduceLeDiff, Nat.reduceLT, Nat.reduceEqDiff]; try trivial)) ⟨k + 1, by omega, rfl, hf, rfl, rfl⟩
  intro h
  have hge : k = kb.length := by have := of_decide_eq_false h; omega
  rw [hge, List.drop_length, List.any_nil] at hf
  have hF : ovF a b = 0 := by rw [ovF, if_pos h0, hf]; rfl
  clear h hge hk hms
  rw [ovR, if_pos hF]
  have hnt := near_ovT hF
  obtain ⟨q1, q2, q3, q4, q5⟩ := ov_facts hF
  have hno : ∀ m, m ≤ (b.drop 1).length → _ := near_over q1 q2 q3 q4 q5
  simp only [ZZ, YY, Ze, ite_true, ite_false, forall_const, reduceCtorEq, Nat.reduceAdd, Nat.reduceMul, Nat.reduceLeDiff, Nat.reduceLT, Nat.reduceEqDiff, ga, tbE_len]
  ((repeat' (with_reducible apply And.intro)) <;> try ((first | first | assumption | trivial | exact (fun hq => by rw [hq]; rfl) | exact i64_of (by omega) (by omega) | omega | (simp; done) | (simp; omega) | (intro hsc; have hs0 := hsc; (try have hsd := of_decide_eq_true hsc); (try simp only [Bool.not_eq_true', Bool.or_eq_false_iff, Bool.and_eq_true, Bool.or_eq_true, decide_eq_true_eq, decide_eq_false_iff_not] at hsc); (repeat' (with_reducible apply And.intro)) <;> (first | assumption | trivial | exact (fun hq => by rw [hq]; rfl) | exact i64_of (by omega) (by omega) | omega | (simp; done) | (simp; omega) | (intro hse; simp [hse, hs0]; done) | (intro hse; simp only [hse, hs0, Bool.true_and, Bool.and_true, Bool.not_false, Bool.not_true, Bool.and_self]; done))))))
  refine useF (CloneS_ok (strE (a.headD [])) (by rw [strE_len]; omega)) rfl rfl ?_
  rintro es rfl
  have hn1 : (((b.headD []).length : Nat) : Int).toNat = (b.headD []).length := Int.toNat_natCast _
  simp only [ZZ, YY, Ze, ite_true, ite_false, forall_const, reduceCtorEq, Nat.reduceAdd, Nat.reduceMul, Nat.reduceLeDiff, Nat.reduceLT, Nat.reduceEqDiff, gb, tbE_len, strE_len, hn1, coR_zero]
  ((repeat' (with_reducible apply And.intro)) <;> try ((first | first | assumption | trivial | exact (fun hq => by rw [hq]; rfl) | exact i64_of (by omega) (by omega) | omega | (simp; done) | (simp; omega) | (intro hsc; have hs0 := hsc; (try have hsd := of_decide_eq_true hsc); (try simp only [Bool.not_eq_true', Bool.or_eq_false_iff, Bool.and_eq_true, Bool.or_eq_true, decide_eq_true_eq, decide_eq_false_iff_not] at hsc); (repeat' (with_reducible apply And.intro)) <;> (first | assumption | trivial | exact (fun hq => by rw [hq]; rfl) | exact i64_of (by omega) (by omega) | omega | (simp; done) | (simp; omega) | (intro hse; simp [hse, hs0]; done) | (intro hse; simp only [hse, hs0, Bool.true_and, Bool.and_true, Bool.not_false, Bool.not_true, Bool.and_self]; done))))))
  have hH : ovH a b = hdF (a.headD []) (b.headD []) := rfl
  have hHl := hdF_len (b.headD []) (a.headD [])
  have hHs := (hdF_sub (b.headD []) (a.headD [])).2
  rw [← hH] at hHl hHs
  rw [hka] at q3 q5
  generalize ovT a b = OT at *
  generalize ovH a b = H at *
  have d4 : ∀ r ∈ b.drop 1, 1 ≤ r.length ∧ r.length = (b.headD []).length := fun r hr => by have := b2 r (List.mem_of_mem_drop hr); omega
  generalize b.headD [] = b0 at *
  generalize a.headD [] = a0 at *
  have hz0 : coR b0.length (fun _ => 0) = coR b0.length (fcK H b0 0) := coR_ext fun q _ => by rw [fcK, if_neg (by omega)]
  rw [hz0]
  refine loop_intro (fun n fr L => ∃ (k : Nat) (G : SRow), k ≤ b0.length ∧ n = b0.length - k ∧ (H = hdF G (b0.drop k)) ∧ (G.length ≤ 30 + k) ∧ fr = [.p (.sl 1 (tbE a)), .p (.sl 1 (tbE b)), .any, .any, .any, .any, .any, .mp (.l 29), .any, .any, .any, .any, .row (.l 58), .row (.l 63), .any, .any, .any, .any, .any, .any, .any, .any, .any, .any, .any, .any, .any, .any, .any, .any, .any, .any, .any, .any, .any, .any, .any, .any, .any, .any, .any, .any, .any, .any, .any, .any, .any, .any, .any, .any, .any, .any, .any, .any, .any, .any, .any, .any, .any, .any, .any, .any, .any, .any, .any, .any, .p (.sl 1 (strE b0)), .p (int (b0.length : Nat)), .p (int (k : Nat)), .any, .any, .any, .any, .any, .any, .any, .any, .any, .any, .any, .any, .any, .any, .any, .any, .any, .any, .any, .any, .any, .any, .any, .any, .any, .any, .any, .any, .any, .any, .any, .any, .any, .any, .any, .any, .any, .any, .any, .any, .any, .any, .any, .any, .any, .any, .any, .any, .any, .any, .any, .any, .any, .any, .any, .any, .any, .any, .any, .any, .any, .any, .any, .any, .any, .any, .any, .any, .any, .any, .any, .any, .any, .any, .any, .any, .any, .any, .any, .any, .any, .any] ∧ L = [(.l 29, .map kv 9 tIntP), (.l 58, .row (strE G) tStr 1 true), (.l 63, .row (coR b0.length (fcK H b0 k)) tIntP 1 true)]) (b0.length) [.p (.sl 1 (tbE a)), .p (.sl 1 (tbE b)), .any, .any, .any, .any, .any, .mp (.l 29), .any, .any, .any, .any, .row (.l 58), .row (.l 63), .any, .any, .any, .any, .any, .any, .any, .any, .any, .any, .any, .any, .any, .any, .any, .any, .any, .any, .any, .any, .any, .any, .any, .any, .any, .any, .any, .any, .any, .any, .any, .any, .any, .any, .any, .any, .any, .any, .any, .any, .any, .any, .any, .any, .any, .any, .any, .any, .any, .any, .any, .any, .p (.sl 1 (strE b0)), .p (int (b0.length : Nat)), .p (int (0 : Nat)), .any, .any, .any, .any, .any, .any, .any, .any, .any, .any, .any, .any, .any, .any, .any, .any, .any, .any, .any, .any, .any, .any, .any, .any, .any, .any, .any, .any, .any, .any, .any, .any, .any, .any, .any, .any, .any, .any, .any, .any, .any, .any, .any, .any, .any, .any, .any, .any, .any, .any, .any, .any, .any, .any, .any, .any, .any, .any, .any, .any, .any, .any, .any, .any, .any, .any, .any, .any, .any, .any, .any, .any, .any, .any, .any, .any, .any, .any, .any, .any, .any, .any] [(.l 29, .map kv 9 tIntP), (.l 58, .row (strE a0) tStr 1 true), (.l 63, .row (coR b0.length (fcK H b0 0)) tIntP 1 true)] (by simp only [ZZ, YY, Ze, ite_true, ite_false, forall_const, reduceCtorEq, Nat.reduceAdd, Nat.reduceMul, Nat.reduceLeDiff, Nat.reduceLT, Nat.reduceEqDiff, strE_len, coR_len]; try trivial) (by (simp only [ZZ, YY, Ze, ite_true, ite_false, forall_const, reduceCtorEq, Nat.reduceAdd, Nat.reduceMul, Nat.reduceLeDiff, Nat.reduceLT, Nat.reduceEqDiff]; try trivial)) ⟨0, a0, by omega, by omega, by simpa using hH, by omega, rfl, rfl⟩ ?_
  rintro n fr L ⟨k, G, hk, rfl, hG, hGl, rfl, rfl⟩
  simp only [ir_produce_Overlay_L2, ZZ, YY, Ze, ite_true, ite_false, forall_const, reduceCtorEq, Nat.reduceAdd, Nat.reduceMul, Nat.reduceLeDiff, Nat.reduceLT, Nat.reduceEqDiff]
  refine br ?_ ?_
  · intro h
    have hlt : k < b0.length := by have := of_decide_eq_true h; omega
    obtain ⟨x, hx⟩ : ∃ x, b0[k]? = some x := ⟨_, List.getElem?_eq_getElem hlt⟩
    have hg : (strE b0).getD k [] = [.str x] := strE_get hx
    have hxD : b0.getD k [] = x := by simp [List.getD, hx]
    have hix := hdF_ix G (b0.drop (k + 1)) x
    rw [← drop_cons hx, ← hG] at hix
    rw [drop_cons hx, hdF] at hG
    have e3 : ∀ (l : List (List UInt8)) (s : List UInt8), strE l ++ [[PV.str s]] = strE (l ++ [s]) := by intro l s; simp [strE]
    simp only [ZZ, YY, Ze, ite_true, ite_false, forall_const, reduceCtorEq, Nat.reduceAdd, Nat.reduceMul, Nat.reduceLeDiff, Nat.reduceLT, Nat.reduceEqDiff, hg, strE_len]
    ((repeat' (with_reducible apply And.intro)) <;> try ((first | first | assumption | trivial | exact (fun hq => by rw [hq]; rfl) | exact i64_of (by omega) (by omega) | omega | (simp; done) | (simp; omega) | (intro hsc; have hs0 := hsc; (try have hsd := of_decide_eq_true hsc); (try simp only [Bool.not_eq_true', Bool.or_eq_false_iff, Bool.and_eq_true, Bool.or_eq_true, decide_eq_true_eq, decide_eq_false_iff_not] at hsc); (repeat' (with_reducible apply And.intro)) <;> (first | assumption | trivial | exact (fun hq => by rw [hq]; rfl) | exact i64_of (by omega) (by omega) | omega | (simp; done) | (simp; omega) | (intro hse; simp [hse, hs0]; done) | (intro hse; simp only [hse, hs0, Bool.true_and, Bool.and_true, Bool.not_false, Bool.not_true, Bool.and_self]; done))))))
    refine use1 (up4 (IndexS_ok G x (by omega))) rfl (.inr rfl) ?_
    rw [idxS_at]
    by_cases hm : x ∈ G
    · rw [if_pos (ixO_lt hm)]
      rw [if_pos hm] at hix
      rw [hdS, if_pos hm] at hG
      have hst := fcK_step (H := H) (b0 := b0) (k := k) (v := ixO x G) (by rw [hxD, hix]) b0.length
      have hd : decide (((ixO x G : Nat) : Int) < 0) = false := decide_eq_false (by omega)
      have hfk : fcK H b0 (k + 1) k = ixO x G := by rw [fcK, if_pos (by omega), hxD, hix]
      simp only [ZZ, YY, Ze, ite_true, ite_false, forall_const, reduceCtorEq, Nat.reduceAdd, Nat.reduceMul, Nat.reduceLeDiff, Nat.reduceLT, Nat.reduceEqDiff, coR_get hlt, coR_set, coR_len, hst, hfk, hd]
      ((repeat' (with_reducible apply And.intro)) <;> try ((first | first | assumption | trivial | exact (fun hq => by rw [hq]; rfl) | exact i64_of (by omega) (by omega) | omega | (simp; done) | (simp; omega) | (intro hsc; have hs0 := hsc; (try have hsd := of_decide_eq_true hsc); (try simp only [Bool.not_eq_true', Bool.or_eq_false_iff, Bool.and_eq_true, Bool.or_eq_true, decide_eq_true_eq, decide_eq_false_iff_not] at hsc); (repeat' (with_reducible apply And.intro)) <;> (first | assumption | trivial | exact (fun hq => by rw [hq]; rfl) | exact i64_of (by omega) (by omega) | omega | (simp; done) | (simp; omega) | (intro hse; simp [hse, hs0]; done) | (intro hse; simp only [hse, hs0, Bool.true_and, Bool.and_true, Bool.not_false, Bool.not_true, Bool.and_self]; done))))))
      refine cut_same (by simp only [ZZ, YY, Ze, ite_true, ite_false, forall_const, reduceCtorEq, Nat.reduceAdd, Nat.reduceMul, Nat.reduceLeDiff, Nat.reduceLT, Nat.reduceEqDiff]) ?_
      simp only [ZZ, YY, Ze, ite_true, ite_false, forall_const, reduceCtorEq, Nat.reduceAdd, Nat.reduceMul, Nat.reduceLeDiff, Nat.reduceLT, Nat.reduceEqDiff]
      ((repeat' (with_reducible apply And.intro)) <;> try ((first | first | assumption | trivial | exact (fun hq => by rw [hq]; rfl) | exact i64_of (by omega) (by omega) | omega | (simp; done) | (simp; omega) | (intro hsc; have hs0 := hsc; (try have hsd := of_decide_eq_true hsc); (try simp only [Bool.not_eq_true', Bool.or_eq_false_iff, Bool.and_eq_true, Bool.or_eq_true, decide_eq_true_eq, decide_eq_false_iff_not] at hsc); (repeat' (with_reducible apply And.intro)) <;> (first | assumption | trivial | exact (fun hq => by rw [hq]; rfl) | exact i64_of (by omega) (by omega) | omega | (simp; done) | (simp; omega) | (intro hse; simp [hse, hs0]; done) | (intro hse; simp only [hse, hs0, Bool.true_and, Bool.and_true, Bool.not_false, Bool.not_true, Bool.and_self]; done))))))
      refine end_round (b0.length - (k + 1)) [.p (.sl 1 (tbE a)), .p (.sl 1 (tbE b)), .any, .any, .any, .any, .any, .mp (.l 29), .any, .any, .any, .any, .row (.l 58), .row (.l 63), .any, .any, .any, .any, .any, .any, .any, .any, .any, .any, .any, .any, .any, .any, .any, .any, .any, .any, .any, .any, .any, .any, .any, .any, .any, .any, .any, .any, .any, .any, .any, .any, .any, .any, .any, .any, .any, .any, .any, .any, .any, .any, .any, .any, .any, .any, .any, .any, .any, .any, .any, .any, .p (.sl 1 (strE b0)), .p (int (b0.length : Nat)), .p (int ((k + 1) : Nat)), .any, .any, .any, .any, .any, .any, .any, .any, .any, .any, .any, .any, .any, .any, .any, .any, .any, .any, .any, .any, .any, .any, .any, .any, .any, .any, .any, .any, .any, .any, .any, .any, .any, .any, .any, .any, .any, .any, .any, .any, .any, .any, .any, .any, .any, .any, .any, .any, .any, .any, .any, .any, .any, .any, .any, .any, .any, .any, .any, .any, .any, .any, .any, .any, .any, .any, .any, .any, .any, .any, .any, .any, .any, .any, .any, .any, .any, .any, .any, .any, .any, .any] [(.l 29, .map kv 9 tIntP), (.l 58, .row (strE G) tStr 1 true), (.l 63, .row (coR b0.length (fcK H b0 (k + 1))) tIntP 1 true)] (by omega) (by (simp only [ZZ, YY, Ze, ite_true, ite_false, forall_const, reduceCtorEq, Nat.reduceAdd, Nat.reduceMul, Nat.reduceLeDiff, Nat.reduceLT, Nat.reduceEqDiff]; try trivial)) (by (simp only [ZZ, YY, Ze, ite_true, ite_false, forall_const, reduceCtorEq, Nat.reduceAdd, Nat.reduceMul, Nat.reduceLeDiff, Nat.reduceLT, Nat.reduceEqDiff]; try trivial)) ⟨k + 1, G, by omega, rfl, hG, by omega, rfl, rfl⟩
    · have hnl : ¬ ixO x G < G.length := by
        intro h
        exact hm (List.mem_of_getElem? (ixO_get' h))
      rw [if_neg hnl]
      rw [if_neg hm] at hix
      rw [hdS, if_neg hm] at hG
      have hst := fcK_step (H := H) (b0 := b0) (k := k) (v := G.length) (by rw [hxD, hix]) b0.length
      have g1 : ((coR b0.length (fcK H b0 k)).set k [int (-1)]).getD k [] = [int (-1)] := by
        rw [List.getD, List.getElem?_set_self (by rw [coR_len]; exact hlt)]; rfl
      have g2 : ((coR b0.length (fcK H b0 k)).set k [int (-1)]).length = b0.length := by rw [List.length_set, coR_len]
      have hd1 : decide ((-1 : Int) < 0) = true := by decide
      simp only [ZZ, YY, Ze, ite_true, ite_false, forall_const, reduceCtorEq, Nat.reduceAdd, Nat.reduceMul, Nat.reduceLeDiff, Nat.reduceLT, Nat.reduceEqDiff, coR_get hlt, coR_len, g1, g2, e3, strE_len, List.set_set, coR_set, hst, hd1]
      ((repeat' (with_reducible apply And.intro)) <;> try ((first | first | assumption | trivial | exact (fun hq => by rw [hq]; rfl) | exact i64_of (by omega) (by omega) | omega | (simp; done) | (simp; omega) | (intro hsc; have hs0 := hsc; (try have hsd := of_decide_eq_true hsc); (try simp only [Bool.not_eq_true', Bool.or_eq_false_iff, Bool.and_eq_true, Bool.or_eq_true, decide_eq_true_eq, decide_eq_false_iff_not] at hsc); (repeat' (with_reducible apply And.intro)) <;> (first | assumption | trivial | exact (fun hq => by rw [hq]; rfl) | exact i64_of (by omega) (by omega) | omega | (simp; done) | (simp; omega) | (intro hse; simp [hse, hs0]; done) | (intro hse; simp only [hse, hs0, Bool.true_and, Bool.and_true, Bool.not_false, Bool.not_true, Bool.and_self]; done))))))
      refine cut_same (by simp only [ZZ, YY, Ze, ite_true, ite_false, forall_const, reduceCtorEq, Nat.reduceAdd, Nat.reduceMul, Nat.reduceLeDiff, Nat.reduceLT, Nat.reduceEqDiff]) ?_
      simp only [ZZ, YY, Ze, ite_true, ite_false, forall_const, reduceCtorEq, Nat.reduceAdd, Nat.reduceMul, Nat.reduceLeDiff, Nat.reduceLT, Nat.reduceEqDiff]
      ((repeat' (with_reducible apply And.intro)) <;> try ((first | first | assumption | trivial | exact (fun hq => by rw [hq]; rfl) | exact i64_of (by omega) (by omega) | omega | (simp; done) | (simp; omega) | (intro hsc; have hs0 := hsc; (try have hsd := of_decide_eq_true hsc); (try simp only [Bool.not_eq_true', Bool.or_eq_false_iff, Bool.and_eq_true, Bool.or_eq_true, decide_eq_true_eq, decide_eq_false_iff_not] at hsc); (repeat' (with_reducible apply And.intro)) <;> (first | assumption | trivial | exact (fun hq => by rw [hq]; rfl) | exact i64_of (by omega) (by omega) | omega | (simp; done) | (simp; omega) | (intro hse; simp [hse, hs0]; done) | (intro hse; simp only [hse, hs0, Bool.true_and, Bool.and_true, Bool.not_false, Bool.not_true, Bool.and_self]; done))))))
      refine end_round (b0.length - (k + 1)) [.p (.sl 1 (tbE a)), .p (.sl 1 (tbE b)), .any, .any, .any, .any, .any, .mp (.l 29), .any, .any, .any, .any, .row (.l 58), .row (.l 63), .any, .any, .any, .any, .any, .any, .any, .any, .any, .any, .any, .any, .any, .any, .any, .any, .any, .any, .any, .any, .any, .any, .any, .any, .any, .any, .any, .any, .any, .any, .any, .any, .any, .any, .any, .any, .any, .any, .any, .any, .any, .any, .any, .any, .any, .any, .any, .any, .any, .any, .any, .any, .p (.sl 1 (strE b0)), .p (int (b0.length : Nat)), .p (int ((k + 1) : Nat)), .any, .any, .any, .any, .any, .any, .any, .any, .any, .any, .any, .any, .any, .any, .any, .any, .any, .any, .any, .any, .any, .any, .any, .any, .any, .any, .any, .any, .any, .any, .any, .any, .any, .any, .any, .any, .any, .any, .any, .any, .any, .any, .any, .any, .any, .any, .any, .any, .any, .any, .any, .any, .any, .any, .any, .any, .any, .any, .any, .any, .any, .any, .any, .any, .any, .any, .any, .any, .any, .any, .any, .any, .any, .any, .any, .any, .any, .any, .any, .any, .any, .any] [(.l 29, .map kv 9 tIntP), (.l 58, .row (strE (G ++ [x])) tStr 1 true), (.l 63, .row (coR b0.length (fcK H b0 (k + 1))) tIntP 1 true)] (by omega) (by (simp only [ZZ, YY, Ze, ite_true, ite_false, forall_const, reduceCtorEq, Nat.reduceAdd, Nat.reduceMul, Nat.reduceLeDiff, Nat.reduceLT, Nat.reduceEqDiff]; try trivial)) (by (simp only [ZZ, YY, Ze, ite_true, ite_false, forall_const, reduceCtorEq, Nat.reduceAdd, Nat.reduceMul, Nat.reduceLeDiff, Nat.reduceLT, Nat.reduceEqDiff]; try trivial)) ⟨k + 1, G ++ [x], by omega, rfl, hG, by simp; omega, rfl, rfl⟩
  intro h
  have hge : k = b0.length := by have := of_decide_eq_false h; omega
  rw [hge, List.drop_length, hdF] at hG
  subst hG
  rw [hge]
  simp only [ZZ, YY, Ze, ite_true, ite_false, forall_const, reduceCtorEq, Nat.reduceAdd, Nat.reduceMul, Nat.reduceLeDiff, Nat.reduceLT, Nat.reduceEqDiff, strE_len]
  refine br ?_ ?_
  · intro hb30
    have := of_decide_eq_true hb30
    simp only [ZZ, YY, Ze, ite_true, ite_false, forall_const, reduceCtorEq, Nat.reduceAdd, Nat.reduceMul, Nat.reduceLeDiff, Nat.reduceLT, Nat.reduceEqDiff]
    rw [if_pos (by omega)]
  intro hb30
  have hH30 : ¬ 30 < H.length := by have := of_decide_eq_false hb30; omega
  rw [if_neg hH30]
  obtain ⟨e1, e2⟩ := tb_tail a na
  have hsing : ([[PV.sl 1 (strE H)]] : List (List PV)) = tbE [H] := rfl
  simp only [ZZ, YY, Ze, ite_true, ite_false, forall_const, reduceCtorEq, Nat.reduceAdd, Nat.reduceMul, Nat.reduceLeDiff, Nat.reduceLT, Nat.reduceEqDiff, tbE_len, e1, e2, hsing]
  ((repeat' (with_reducible apply And.intro)) <;> try ((first | first | assumption | trivial | exact (fun hq => by rw [hq]; rfl) | exact i64_of (by omega) (by omega) | omega | (simp; done) | (simp; omega) | (intro hsc; have hs0 := hsc; (try have hsd := of_decide_eq_true hsc); (try simp only [Bool.not_eq_true', Bool.or_eq_false_iff, Bool.and_eq_true, Bool.or_eq_true, decide_eq_true_eq, decide_eq_false_iff_not] at hsc); (repeat' (with_reducible apply And.intro)) <;> (first | assumption | trivial | exact (fun hq => by rw [hq]; rfl) | exact i64_of (by omega) (by omega) | omega | (simp; done) | (simp; omega) | (intro hse; simp [hse, hs0]; done) | (intro hse; simp only [hse, hs0, Bool.true_and, Bool.and_true, Bool.not_false, Bool.not_true, Bool.and_self]; done))))))
  have d1 : (a.drop 1).length ≤ 2001 := by simp; omega
  have d2 : ∀ r ∈ a.drop 1, 1 ≤ r.length ∧ r.length ≤ H.length := fun r hr => by have := a2 r (List.mem_of_mem_drop hr); omega
  have d3 : (b.drop 1).length ≤ 2001 := by simp; omega
  obtain ⟨g1, g2⟩ := tb_tail b nb
  clear e1 e2 h hge hk hH hGl
  generalize a.drop 1 = u at *
  generalize b.drop 1 = v at *
  refine loop_re (fun m fr L => ∃ i, i ≤ u.length ∧ m = u.length - i ∧ fr = [.p (.sl 1 (tbE a)), .p (.sl 1 (tbE b)), .any, .any, .any, .any, .any, .mp (.l 29), .any, .any, .any, .any, .p (.sl 1 (strE H)), .row (.l 63), .any, .any, .row (.l 98), .any, .any, .any, .any, .any, .any, .any, .any, .any, .any, .any, .any, .any, .any, .any, .any, .any, .any, .any, .any, .any, .any, .any, .any, .any, .any, .any, .any, .any, .any, .any, .any, .any, .any, .any, .any, .any, .any, .any, .any, .any, .any, .any, .any, .any, .any, .any, .any, .any, .any, .any, .any, .any, .any, .any, .any, .any, .any, .any, .any, .any, .any, .any, .any, .any, .any, .any, .any, .any, .any, .any, .any, .any, .any, .any, .any, .any, .any, .any, .any, .any, .any, .any, .p (.sl 1 (tbE u)), .p (int (u.length : Nat)), .p (int (i : Nat)), .any, .any, .any, .any, .any, .any, .any, .any, .any, .any, .any, .any, .any, .any, .any, .any, .any, .any, .any, .any, .any, .any, .any, .any, .any, .any, .any, .any, .any, .any, .any, .any, .any, .any, .any, .any, .any, .any, .any, .any, .any, .any, .any, .any, .any, .any, .any, .any] ∧ LiveI L 98 (i + 1) 1 (f3 H u) ∧ OvM L kv b0.length (fcK H b0 b0.length)) u.length [.p (.sl 1 (tbE a)), .p (.sl 1 (tbE b)), .any, .any, .any, .any, .any, .mp (.l 29), .any, .any, .any, .any, .p (.sl 1 (strE H)), .row (.l 63), .any, .any, .row (.l 98), .any, .any, .any, .any, .any, .any, .any, .any, .any, .any, .any, .any, .any, .any, .any, .any, .any, .any, .any, .any, .any, .any, .any, .any, .any, .any, .any, .any, .any, .any, .any, .any, .any, .any, .any, .any, .any, .any, .any, .any, .any, .any, .any, .any, .any, .any, .any, .any, .any, .any, .any, .any, .any, .any, .any, .any, .any, .any, .any, .any, .any, .any, .any, .any, .any, .any, .any, .any, .any, .any, .any, .any, .any, .any, .any, .any, .any, .any, .any, .any, .any, .any, .any, .p (.sl 1 (tbE u)), .p (int (u.length : Nat)), .p (int (0 : Nat)), .any, .any, .any, .any, .any, .any, .any, .any, .any, .any, .any, .any, .any, .any, .any, .any, .any, .any, .any, .any, .any, .any, .any, .any, .any, .any, .any, .any, .any, .any, .any, .any, .any, .any, .any, .any, .any, .any, .any, .any, .any, .any, .any, .any, .any, .any, .any, .any] _ (ReOk.trans (re_le (by simp only [ZZ, YY, Ze, ite_true, ite_false, forall_const, reduceCtorEq, Nat.reduceAdd, Nat.reduceMul, Nat.reduceLeDiff, Nat.reduceLT, Nat.reduceEqDiff, tbE_len]; try trivial)) (re_rowv (k := .l 98) rfl)) ⟨0, by omega, by omega, rfl, ⟨rfl, fun q h1 h2 => by omega⟩, ⟨rfl, rfl⟩⟩ ?_
  rintro m fr L ⟨i, hi, rfl, rfl, ⟨hL, hR⟩, hM1, hM2⟩
  simp only [ir_produce_Overlay_L3, ZZ, YY, Ze, ite_true, ite_false, forall_const, reduceCtorEq, Nat.reduceAdd, Nat.reduceMul, Nat.reduceLeDiff, Nat.reduceLT, Nat.reduceEqDiff]
  refine br ?_ ?_
  · intro h
    have hlt : i < u.length := by have := of_decide_eq_true h; omega
    obtain ⟨r, hr⟩ : ∃ r, u[i]? = some r := ⟨_, List.getElem?_eq_getElem hlt⟩
    have hg := tbE_get hr
    obtain ⟨r1', r2⟩ := d2 r (List.mem_of_getElem? hr)
    have hfi : f3 H u (i + 1) = rowB H.length r := by
      unfold f3
      rw [List.getD_cons_succ, List.getD, List.getElem?_map, hr]; rfl
    simp only [ZZ, YY, Ze, ite_true, ite_false, forall_const, reduceCtorEq, Nat.reduceAdd, Nat.reduceMul, Nat.reduceLeDiff, Nat.reduceLT, Nat.reduceEqDiff, hg, tbE_len]
    ((repeat' (with_reducible apply And.intro)) <;> try ((first | first | assumption | trivial | exact (fun hq => by rw [hq]; rfl) | exact i64_of (by omega) (by omega) | omega | (simp; done) | (simp; omega) | (intro hsc; have hs0 := hsc; (try have hsd := of_decide_eq_true hsc); (try simp only [Bool.not_eq_true', Bool.or_eq_false_iff, Bool.and_eq_true, Bool.or_eq_true, decide_eq_true_eq, decide_eq_false_iff_not] at hsc); (repeat' (with_reducible apply And.intro)) <;> (first | assumption | trivial | exact (fun hq => by rw [hq]; rfl) | exact i64_of (by omega) (by omega) | omega | (simp; done) | (simp; omega) | (intro hse; simp [hse, hs0]; done) | (intro hse; simp only [hse, hs0, Bool.true_and, Bool.and_true, Bool.not_false, Bool.not_true, Bool.and_self]; done))))))
    refine useF (CloneS_ok (strE r) (by rw [strE_len]; omega)) rfl rfl ?_
    rintro es rfl
    have hnn : (((H.length : Nat) : Int) - ((r.length : Nat) : Int)).toNat = H.length - r.length := by omega
    have hap : strE r ++ List.replicate (H.length - r.length) [PV.str []] = strE (rowB H.length r) := by rw [rowB, strE_app]; simp [strE]
    simp only [ZZ, YY, Ze, ite_true, ite_false, forall_const, reduceCtorEq, Nat.reduceAdd, Nat.reduceMul, Nat.reduceLeDiff, Nat.reduceLT, Nat.reduceEqDiff, strE_len, hnn, hap, look_updL, look_putO, look_killO, hL, liveC_kill (show 108 < 1000 by omega), liveC_kill (show 115 < 1000 by omega), liveC_kill (show 98 < 1000 by omega), liveC_len]
    ((repeat' (with_reducible apply And.intro)) <;> try ((first | first | assumption | trivial | exact (fun hq => by rw [hq]; rfl) | exact i64_of (by omega) (by omega) | omega | (simp; done) | (simp; omega) | (intro hsc; have hs0 := hsc; (try have hsd := of_decide_eq_true hsc); (try simp only [Bool.not_eq_true', Bool.or_eq_false_iff, Bool.and_eq_true, Bool.or_eq_true, decide_eq_true_eq, decide_eq_false_iff_not] at hsc); (repeat' (with_reducible apply And.intro)) <;> (first | assumption | trivial | exact (fun hq => by rw [hq]; rfl) | exact i64_of (by omega) (by omega) | omega | (simp; done) | (simp; omega) | (intro hse; simp [hse, hs0]; done) | (intro hse; simp only [hse, hs0, Bool.true_and, Bool.and_true, Bool.not_false, Bool.not_true, Bool.and_self]; done))))))
    have hk98 : (98 = 1000 + (i + 1)) = False := by simp; omega
    have hk63 : (63 = 1000 + (i + 1)) = False := by simp; omega
    have hk29 : (29 = 1000 + (i + 1)) = False := by simp; omega
    refine end_re (u.length - (i + 1)) [.p (.sl 1 (tbE a)), .p (.sl 1 (tbE b)), .any, .any, .any, .any, .any, .mp (.l 29), .any, .any, .any, .any, .p (.sl 1 (strE H)), .row (.l 63), .any, .any, .row (.l 98), .any, .any, .any, .any, .any, .any, .any, .any, .any, .any, .any, .any, .any, .any, .any, .any, .any, .any, .any, .any, .any, .any, .any, .any, .any, .any, .any, .any, .any, .any, .any, .any, .any, .any, .any, .any, .any, .any, .any, .any, .any, .any, .any, .any, .any, .any, .any, .any, .any, .any, .any, .any, .any, .any, .any, .any, .any, .any, .any, .any, .any, .any, .any, .any, .any, .any, .any, .any, .any, .any, .any, .any, .any, .any, .any, .any, .any, .any, .any, .any, .any, .any, .any, .p (.sl 1 (tbE u)), .p (int (u.length : Nat)), .p (int (i + 1 : Nat)), .any, .any, .any, .any, .any, .any, .any, .any, .any, .any, .any, .any, .any, .any, .any, .any, .any, .any, .any, .any, .any, .any, .any, .any, .any, .any, .any, .any, .any, .any, .any, .any, .any, .any, .any, .any, .any, .any, .any, .any, .any, .any, .any, .any, .any, .any, .any, .any] _ (by omega) (ReOk.trans (re_ren 108 (1000 + (i + 1))) (re_le (by simp only [AV.ren, r1, hk98, hk63, hk29, ZZ, YY, Ze, ite_true, ite_false, forall_const, reduceCtorEq, Nat.reduceAdd, Nat.reduceMul, Nat.reduceLeDiff, Nat.reduceLT, Nat.reduceEqDiff]; try trivial))) ⟨i + 1, by omega, rfl, rfl, ⟨?_, fun q hq1 hq2 => ?_⟩, ⟨?_, ?_⟩⟩
    · rw [look_ren1, if_neg (by simp; omega), if_neg (by simp), look_putO, if_pos rfl]
      simp only [Option.map_some, AO.ren]
      exact congrArg (fun c => some (AO.rowv c tStrs 1)) (liveC_ren (by omega) (by omega))
    · rw [look_ren1]
      by_cases hqi : q = i + 1
      · subst hqi
        rw [if_pos rfl, look_putO, if_neg (by simp), look_killO, look_putO, if_neg (by simp), look_killO, look_putO, if_pos rfl, hfi]
        rfl
      · rw [if_neg (by simp; omega), if_neg (by simp; omega), look_putO, if_neg (by simp; omega), look_killO, look_putO, if_neg (by simp; omega), look_killO, look_putO, if_neg (by simp; omega), look_killO, look_putO, if_neg (by simp; omega), look_killO, hR q hq1 (by omega)]
        rfl
    · rw [look_ren1, if_neg (by simp; omega), if_neg (by simp), look_putO, if_neg (by simp), look_killO, look_putO, if_neg (by simp), look_killO, look_putO, if_neg (by simp), look_killO, look_putO, if_neg (by simp), look_killO, hM1]
      rfl
    · rw [look_ren1, if_neg (by simp; omega), if_neg (by simp), look_putO, if_neg (by simp), look_killO, look_putO, if_neg (by simp), look_killO, look_putO, if_neg (by simp), look_killO, look_putO, if_neg (by simp), look_killO, hM2]
      rfl
  · intro h
    have hge : i = u.length := by have := of_decide_eq_false h; omega
    subst hge
    simp only [ZZ, YY, Ze, ite_true, ite_false, forall_const, reduceCtorEq, Nat.reduceAdd, Nat.reduceMul, Nat.reduceLeDiff, Nat.reduceLT, Nat.reduceEqDiff, tbE_len, g1, g2]
    ((repeat' (with_reducible apply And.intro)) <;> try ((first | first | assumption | trivial | exact (fun hq => by rw [hq]; rfl) | exact i64_of (by omega) (by omega) | omega | (simp; done) | (simp; omega) | (intro hsc; have hs0 := hsc; (try have hsd := of_decide_eq_true hsc); (try simp only [Bool.not_eq_true', Bool.or_eq_false_iff, Bool.and_eq_true, Bool.or_eq_true, decide_eq_true_eq, decide_eq_false_iff_not] at hsc); (repeat' (with_reducible apply And.intro)) <;> (first | assumption | trivial | exact (fun hq => by rw [hq]; rfl) | exact i64_of (by omega) (by omega) | omega | (simp; done) | (simp; omega) | (intro hse; simp [hse, hs0]; done) | (intro hse; simp only [hse, hs0, Bool.true_and, Bool.and_true, Bool.not_false, Bool.not_true, Bool.and_self]; done))))))
    have hTl : ∀ m, (nearK H b0 u v m (H :: u.map (rowB H.length))).length = u.length + 1 := fun m => by rw [nearK_len]; simp
    have hTh : ∀ m, m ≤ v.length → (nearK H b0 u v m (H :: u.map (rowB H.length))).getD 0 [] = H := fun m hm => by rw [hno m hm]; rfl
    have hTw : ∀ m q, m ≤ v.length → 1 ≤ q → q < u.length + 1 → ((nearK H b0 u v m (H :: u.map (rowB H.length))).getD q []).length = H.length := by
      intro m q hm h1 h2
      obtain ⟨q, rfl⟩ : ∃ p, q = p + 1 := ⟨q - 1, by omega⟩
      obtain ⟨r, hr⟩ : ∃ r, u[q]? = some r := ⟨_, List.getElem?_eq_getElem (by omega)⟩
      have := d2 r (List.mem_of_getElem? hr)
      rw [hno m hm, List.getD_cons_succ, List.getD, List.getElem?_map, hr]
      simp only [Option.map_some, Option.getD_some]
      rw [overK_len, rowB, List.length_append, List.length_replicate]
      omega
    have hTs : ∀ m o, v[m]? = some o → nearK H b0 u v (m + 1) (H :: u.map (rowB H.length)) = (nearK H b0 u v m (H :: u.map (rowB H.length))).set (ixO (o.headD []) ks + 1) (setN H b0 o b0.length ((nearK H b0 u v m (H :: u.map (rowB H.length))).getD (ixO (o.headD []) ks + 1) [])) := by
      intro m o ho
      have hoD : v.getD m [] = o := by simp [List.getD, ho]
      rw [nearK, hoD, hka]
    have hT0 : f3 H u = fun q => (nearK H b0 u v 0 (H :: u.map (rowB H.length))).getD q [] := rfl
    rw [hT0] at hL hR
    clear hno hT0
    generalize hTT : (fun m => nearK H b0 u v m (H :: u.map (rowB H.length))) = TT at *
    have hTe : ∀ m, nearK H b0 u v m (H :: u.map (rowB H.length)) = TT m := fun m => congrFun hTT m
    simp only [hTe] at hTl hTh hTw hTs hL hR hnt
    clear hTT hTe
    have hul : ks.length = u.length := by rw [← hka, colF_len]
    obtain ⟨J, hJ⟩ : ∃ J : Nat → Objs → Prop, J = fun k L => (k < v.length ∧ LiveI L 98 (u.length + 1) 1 (fun q => (TT k).getD q []) ∧ OvM L kv b0.length (fcK H b0 b0.length)) ∨ (k = v.length ∧ Zas L (.l 98) = some (.row (tbE OT) tStrs 1 true)) := ⟨_, rfl⟩
    have hnx : ∀ k L, k ≤ v.length → LiveI L 98 (u.length + 1) 1 (fun q => (TT k).getD q []) → OvM L kv b0.length (fcK H b0 b0.length) → ∃ L', ReOk E4 [.any, .any, .any, .any, .any, .any, .any, .mp (.l 29), .any, .any, .any, .any, .any, .row (.l 63), .any, .any, .row (.l 98), .any, .any, .any, .any, .any, .any, .any, .any, .any, .any, .any, .any, .any, .any, .any, .any, .any, .any, .any, .any, .any, .any, .any, .any, .any, .any, .any, .any, .any, .any, .any, .any, .any, .any, .any, .any, .any, .any, .any, .any, .any, .any, .any, .any, .any, .any, .any, .any, .any, .any, .any, .any, .any, .any, .any, .any, .any, .any, .any, .any, .any, .any, .any, .any, .any, .any, .any, .any, .any, .any, .any, .any, .any, .any, .any, .any, .any, .any, .any, .any, .any, .any, .any, .any, .any, .any, .any, .any, .any, .any, .any, .any, .any, .any, .any, .any, .any, .any, .any, .any, .any, .any, .p (.sl 1 (tbE v)), .p (int (v.length : Nat)), .p (int (k : Nat)), .any, .any, .any, .any, .any, .any, .any, .any, .any, .any, .any, .any, .any, .any, .any, .any, .any, .any, .any, .any, .any, .any, .any, .any, .any, .any, .any, .any, .any] L [.any, .any, .any, .any, .any, .any, .any, .mp (.l 29), .any, .any, .any, .any, .any, .row (.l 63), .any, .any, .row (.l 98), .any, .any, .any, .any, .any, .any, .any, .any, .any, .any, .any, .any, .any, .any, .any, .any, .any, .any, .any, .any, .any, .any, .any, .any, .any, .any, .any, .any, .any, .any, .any, .any, .any, .any, .any, .any, .any, .any, .any, .any, .any, .any, .any, .any, .any, .any, .any, .any, .any, .any, .any, .any, .any, .any, .any, .any, .any, .any, .any, .any, .any, .any, .any, .any, .any, .any, .any, .any, .any, .any, .any, .any, .any, .any, .any, .any, .any, .any, .any, .any, .any, .any, .any, .any, .any, .any, .any, .any, .any, .any, .any, .any, .any, .any, .any, .any, .any, .any, .any, .any, .any, .any, .p (.sl 1 (tbE v)), .p (int (v.length : Nat)), .p (int (k : Nat)), .any, .any, .any, .any, .any, .any, .any, .any, .any, .any, .any, .any, .any, .any, .any, .any, .any, .any, .any, .any, .any, .any, .any, .any, .any, .any, .any, .any, .any] L' ∧ J k L' := by
      intro k L hk h1 h2
      by_cases hkv2 : k < v.length
      · exact ⟨L, ReOk.refl, by rw [hJ]; exact .inl ⟨hkv2, h1, h2⟩⟩
      · have hke : k = v.length := by omega
        obtain ⟨L', r1, r2, _⟩ := thaw_live (E := E4) (fr := [.any, .any, .any, .any, .any, .any, .any, .mp (.l 29), .any, .any, .any, .any, .any, .row (.l 63), .any, .any, .row (.l 98), .any, .any, .any, .any, .any, .any, .any, .any, .any, .any, .any, .any, .any, .any, .any, .any, .any, .any, .any, .any, .any, .any, .any, .any, .any, .any, .any, .any, .any, .any, .any, .any, .any, .any, .any, .any, .any, .any, .any, .any, .any, .any, .any, .any, .any, .any, .any, .any, .any, .any, .any, .any, .any, .any, .any, .any, .any, .any, .any, .any, .any, .any, .any, .any, .any, .any, .any, .any, .any, .any, .any, .any, .any, .any, .any, .any, .any, .any, .any, .any, .any, .any, .any, .any, .any, .any, .any, .any, .any, .any, .any, .any, .any, .any, .any, .any, .any, .any, .any, .any, .any, .any, .p (.sl 1 (tbE v)), .p (int (v.length : Nat)), .p (int (k : Nat)), .any, .any, .any, .any, .any, .any, .any, .any, .any, .any, .any, .any, .any, .any, .any, .any, .any, .any, .any, .any, .any, .any, .any, .any, .any, .any, .any, .any, .any]) 98 (u.length + 1) _ tStrs tStr (by omega) (by
          intro q y
          have e1 : (Key.l 98 = .l (1000 + q)) = False := by simp; omega
          have e2 : (Key.l 63 = .l (1000 + q)) = False := by simp; omega
          have e3 : (Key.l 29 = .l (1000 + q)) = False := by simp; omega
          simp only [List.map_cons, List.map_nil, AV.thaw, e1, e2, e3, if_false]) u.length 1 L (by omega) h1.1 h1.2
        refine ⟨L', r1, ?_⟩
        rw [hJ]
        refine .inr ⟨hke, ?_⟩
        rw [r2, ← hTl k, tab_getD, hke, hnt]
    obtain ⟨L1, hre1, hj1⟩ := hnx 0 _ (by omega) ⟨hL, hR⟩ ⟨hM1, hM2⟩
    refine loop_re (fun m fr L => ∃ k, k ≤ v.length ∧ m = v.length - k ∧ fr = [.any, .any, .any, .any, .any, .any, .any, .mp (.l 29), .any, .any, .any, .any, .any, .row (.l 63), .any, .any, .row (.l 98), .any, .any, .any, .any, .any, .any, .any, .any, .any, .any, .any, .any, .any, .any, .any, .any, .any, .any, .any, .any, .any, .any, .any, .any, .any, .any, .any, .any, .any, .any, .any, .any, .any, .any, .any, .any, .any, .any, .any, .any, .any, .any, .any, .any, .any, .any, .any, .any, .any, .any, .any, .any, .any, .any, .any, .any, .any, .any, .any, .any, .any, .any, .any, .any, .any, .any, .any, .any, .any, .any, .any, .any, .any, .any, .any, .any, .any, .any, .any, .any, .any, .any, .any, .any, .any, .any, .any, .any, .any, .any, .any, .any, .any, .any, .any, .any, .any, .any, .any, .any, .any, .any, .p (.sl 1 (tbE v)), .p (int (v.length : Nat)), .p (int (k : Nat)), .any, .any, .any, .any, .any, .any, .any, .any, .any, .any, .any, .any, .any, .any, .any, .any, .any, .any, .any, .any, .any, .any, .any, .any, .any, .any, .any, .any, .any] ∧ J k L) v.length [.any, .any, .any, .any, .any, .any, .any, .mp (.l 29), .any, .any, .any, .any, .any, .row (.l 63), .any, .any, .row (.l 98), .any, .any, .any, .any, .any, .any, .any, .any, .any, .any, .any, .any, .any, .any, .any, .any, .any, .any, .any, .any, .any, .any, .any, .any, .any, .any, .any, .any, .any, .any, .any, .any, .any, .any, .any, .any, .any, .any, .any, .any, .any, .any, .any, .any, .any, .any, .any, .any, .any, .any, .any, .any, .any, .any, .any, .any, .any, .any, .any, .any, .any, .any, .any, .any, .any, .any, .any, .any, .any, .any, .any, .any, .any, .any, .any, .any, .any, .any, .any, .any, .any, .any, .any, .any, .any, .any, .any, .any, .any, .any, .any, .any, .any, .any, .any, .any, .any, .any, .any, .any, .any, .any, .p (.sl 1 (tbE v)), .p (int (v.length : Nat)), .p (int (0 : Nat)), .any, .any, .any, .any, .any, .any, .any, .any, .any, .any, .any, .any, .any, .any, .any, .any, .any, .any, .any, .any, .any, .any, .any, .any, .any, .any, .any, .any, .any] L1 (ReOk.trans (re_le (by simp only [ZZ, YY, Ze, ite_true, ite_false, forall_const, reduceCtorEq, Nat.reduceAdd, Nat.reduceMul, Nat.reduceLeDiff, Nat.reduceLT, Nat.reduceEqDiff, tbE_len]; try trivial)) hre1) ⟨0, by omega, by omega, rfl, hj1⟩ ?_
    clear hL hR hM1 hM2 L hre1 hj1 L1
    rintro m fr L ⟨k, hk, rfl, rfl, hj⟩
    simp only [ir_produce_Overlay_L4, ZZ, YY, Ze, ite_true, ite_false, forall_const, reduceCtorEq, Nat.reduceAdd, Nat.reduceMul, Nat.reduceLeDiff, Nat.reduceLT, Nat.reduceEqDiff]
    rw [hJ] at hj
    refine br ?_ ?_
    · intro h
      have hkl : k < v.length := by have := of_decide_eq_true h; omega
      rcases hj with ⟨_, ⟨hL, hR⟩, hM1, hM2⟩ | ⟨e, _⟩
      rotate_left
      · omega
      obtain ⟨o, ho⟩ : ∃ o, v[k]? = some o := ⟨_, List.getElem?_eq_getElem hkl⟩
      have hg := tbE_get ho
      obtain ⟨o1, o2⟩ := d4 o (List.mem_of_getElem? ho)
      have hkm := q5 o (List.mem_of_getElem? ho)
      have hgk : (strE o).getD (Int.toNat 0) [] = [.str (o.headD [])] := strE_get (headS_some o1)
      have hst := hTs k o ho
      have hpl := ixO_lt hkm
      obtain ⟨p, hp⟩ : ∃ p, p = ixO (o.headD []) ks + 1 := ⟨_, rfl⟩
      have hpi : (((ixO (o.headD []) ks : Nat) : Int) + 1).toNat = p := by omega
      have hpv : int (if o.headD [] ∈ ks then ((ixO (o.headD []) ks : Nat) : Int) + 1 else 0) = int (p : Nat) := by rw [if_pos hkm, hp]; rfl
      have hpN : p < u.length + 1 := by omega
      have hp1 : 1 ≤ p := by omega
      rw [← hp] at hst
      have hWl := hTw k p (by omega) hp1 hpN
      have hW0 : ∀ q, (TT k).getD q [] = if q = p then setN H b0 o 0 ((TT k).getD p []) else (TT k).getD q [] := by
        intro q; split
        · rename_i e; rw [e]; rfl
        · rfl
      generalize hWd : (TT k).getD p [] = W at *
      simp only [ZZ, YY, Ze, ite_true, ite_false, forall_const, reduceCtorEq, Nat.reduceAdd, Nat.reduceMul, Nat.reduceLeDiff, Nat.reduceLT, Nat.reduceEqDiff, hg, tbE_len]
      ((repeat' (with_reducible apply And.intro)) <;> try ((first | first | assumption | trivial | exact (fun hq => by rw [hq]; rfl) | exact i64_of (by omega) (by omega) | omega | (simp; done) | (simp; omega) | (intro hsc; have hs0 := hsc; (try have hsd := of_decide_eq_true hsc); (try simp only [Bool.not_eq_true', Bool.or_eq_false_iff, Bool.and_eq_true, Bool.or_eq_true, decide_eq_true_eq, decide_eq_false_iff_not] at hsc); (repeat' (with_reducible apply And.intro)) <;> (first | assumption | trivial | exact (fun hq => by rw [hq]; rfl) | exact i64_of (by omega) (by omega) | omega | (simp; done) | (simp; omega) | (intro hse; simp [hse, hs0]; done) | (intro hse; simp only [hse, hs0, Bool.true_and, Bool.and_true, Bool.not_false, Bool.not_true, Bool.and_self]; done))))))
      refine loop_re (fun m fr L => ∃ i, i ≤ o.length ∧ m = o.length - i ∧ fr = [.any, .any, .any, .any, .any, .any, .any, .mp (.l 29), .any, .any, .any, .any, .any, .row (.l 63), .any, .any, .row (.l 98), .any, .any, .any, .p (.sl 1 (strE o)), .any, .any, .any, .any, .any, .any, .any, .any, .any, .any, .any, .any, .any, .any, .any, .any, .any, .any, .any, .any, .any, .any, .any, .any, .any, .any, .any, .any, .any, .any, .any, .any, .any, .any, .any, .any, .any, .any, .any, .any, .any, .any, .any, .any, .any, .any, .any, .any, .any, .any, .any, .any, .any, .any, .any, .any, .any, .any, .any, .any, .any, .any, .any, .any, .any, .any, .any, .any, .any, .any, .any, .any, .any, .any, .any, .any, .any, .any, .any, .any, .any, .any, .any, .any, .any, .any, .any, .any, .any, .any, .any, .any, .any, .any, .any, .any, .any, .any, .p (.sl 1 (tbE v)), .p (int (v.length : Nat)), .p (int (k : Nat)), .any, .any, .any, .p (.sl 1 (strE o)), .p (int (o.length : Nat)), .p (int (i : Nat)), .any, .any, .any, .any, .any, .any, .any, .any, .any, .any, .any, .any, .any, .any, .any, .any, .any, .any, .any, .any, .any, .any, .any] ∧ LiveI L 98 (u.length + 1) 1 (fun q => if q = p then setN H b0 o i W else (TT k).getD q []) ∧ OvM L kv b0.length (fcK H b0 b0.length)) o.length [.any, .any, .any, .any, .any, .any, .any, .mp (.l 29), .any, .any, .any, .any, .any, .row (.l 63), .any, .any, .row (.l 98), .any, .any, .any, .p (.sl 1 (strE o)), .any, .any, .any, .any, .any, .any, .any, .any, .any, .any, .any, .any, .any, .any, .any, .any, .any, .any, .any, .any, .any, .any, .any, .any, .any, .any, .any, .any, .any, .any, .any, .any, .any, .any, .any, .any, .any, .any, .any, .any, .any, .any, .any, .any, .any, .any, .any, .any, .any, .any, .any, .any, .any, .any, .any, .any, .any, .any, .any, .any, .any, .any, .any, .any, .any, .any, .any, .any, .any, .any, .any, .any, .any, .any, .any, .any, .any, .any, .any, .any, .any, .any, .any, .any, .any, .any, .any, .any, .any, .any, .any, .any, .any, .any, .any, .any, .any, .any, .p (.sl 1 (tbE v)), .p (int (v.length : Nat)), .p (int (k : Nat)), .any, .any, .any, .p (.sl 1 (strE o)), .p (int (o.length : Nat)), .p (int (0 : Nat)), .any, .any, .any, .any, .any, .any, .any, .any, .any, .any, .any, .any, .any, .any, .any, .any, .any, .any, .any, .any, .any, .any, .any] _ (re_le (by simp only [ZZ, YY, Ze, ite_true, ite_false, forall_const, reduceCtorEq, Nat.reduceAdd, Nat.reduceMul, Nat.reduceLeDiff, Nat.reduceLT, Nat.reduceEqDiff, strE_len]; try trivial)) ⟨0, by omega, by omega, rfl, LiveI.ext ⟨hL, hR⟩ (by omega) (fun q _ => hW0 q), ⟨hM1, hM2⟩⟩ ?_
      clear hL hR hM1 hM2 L
      rintro m fr L ⟨i, hi, rfl, rfl, ⟨hL, hR⟩, hM1, hM2⟩
      simp only [ir_produce_Overlay_L5, ZZ, YY, Ze, ite_true, ite_false, forall_const, reduceCtorEq, Nat.reduceAdd, Nat.reduceMul, Nat.reduceLeDiff, Nat.reduceLT, Nat.reduceEqDiff]
      refine br ?_ ?_
      · intro h
        have hil : i < o.length := by have := of_decide_eq_true h; omega
        obtain ⟨s, hs⟩ : ∃ s, o[i]? = some s := ⟨_, List.getElem?_eq_getElem hil⟩
        have hgs : (strE o).getD i [] = [.str s] := strE_get hs
        have hsD : o.getD i [] = s := by simp [List.getD, hs]
        simp only [ZZ, YY, Ze, ite_true, ite_false, forall_const, reduceCtorEq, Nat.reduceAdd, Nat.reduceMul, Nat.reduceLeDiff, Nat.reduceLT, Nat.reduceEqDiff, hgs, strE_len]
        ((repeat' (with_reducible apply And.intro)) <;> try ((first | first | assumption | trivial | exact (fun hq => by rw [hq]; rfl) | exact i64_of (by omega) (by omega) | omega | (simp; done) | (simp; omega) | (intro hsc; have hs0 := hsc; (try have hsd := of_decide_eq_true hsc); (try simp only [Bool.not_eq_true', Bool.or_eq_false_iff, Bool.and_eq_true, Bool.or_eq_true, decide_eq_true_eq, decide_eq_false_iff_not] at hsc); (repeat' (with_reducible apply And.intro)) <;> (first | assumption | trivial | exact (fun hq => by rw [hq]; rfl) | exact i64_of (by omega) (by omega) | omega | (simp; done) | (simp; omega) | (intro hse; simp [hse, hs0]; done) | (intro hse; simp only [hse, hs0, Bool.true_and, Bool.and_true, Bool.not_false, Bool.not_true, Bool.and_self]; done))))))
        refine br ?_ ?_
        · intro hi0
          have hi0 : 0 < i := by have := of_decide_eq_true hi0; omega
          simp only [ZZ, YY, Ze, ite_true, ite_false, forall_const, reduceCtorEq, Nat.reduceAdd, Nat.reduceMul, Nat.reduceLeDiff, Nat.reduceLT, Nat.reduceEqDiff]
          refine drg0 ?_
          have hcell := liveC_get (f := fun q => if q = p then setN H b0 o i W else (TT k).getD q []) (m := 1) hpN
          rw [if_neg (show ¬ p < 1 by omega)] at hcell
          have hlp : Zas L (.l (1000 + p)) = some (.row (strE (setN H b0 o i W)) tStr 1 true) := by
            have := hR p hp1 hpN
            simpa using this
          obtain ⟨kp, hkp⟩ : ∃ q, q = 1000 + p := ⟨_, rfl⟩
          rw [← hkp] at hcell hlp
          have hcg := coR_get (f := fcK H b0 b0.length) (show i < b0.length by omega)
          rw [fcK, if_pos (by omega)] at hcg
          have hsl : (setN H b0 o i W).length = H.length := by rw [setN_len, hWl]
          have hxm := hHs _ (List.getElem_mem (show i < b0.length by omega))
          have hxl := ixO_lt hxm
          have hbD : b0.getD i [] = b0[i] := by simp [List.getD, show i < b0.length by omega]
          rw [← hbD] at hxl
          have hset : (strE (setN H b0 o i W)).set (ixO (b0.getD i []) H) (((strE (setN H b0 o i W)).getD (ixO (b0.getD i []) H) []).set 0 (.str s)) = strE (setN H b0 o (i + 1) W) := by
            rw [strE_get (List.getElem?_eq_getElem (show ixO (b0.getD i []) H < (setN H b0 o i W).length by omega)), setN, if_neg (by omega), hsD, strE, strE, List.map_set]
            rfl
          simp only [ZZ, YY, Ze, ite_true, ite_false, forall_const, reduceCtorEq, Nat.reduceAdd, Nat.reduceMul, Nat.reduceLeDiff, Nat.reduceLT, Nat.reduceEqDiff, hgk, hkv (o.headD []), hpv, hM1, hM2, hL, hcell, hlp, hcg, coR_len, liveC_len, strE_len, hsl, hset]
          ((repeat' (with_reducible apply And.intro)) <;> try ((first | first | assumption | trivial | exact (fun hq => by rw [hq]; rfl) | exact i64_of (by omega) (by omega) | omega | (simp; done) | (simp; omega) | (intro hsc; have hs0 := hsc; (try have hsd := of_decide_eq_true hsc); (try simp only [Bool.not_eq_true', Bool.or_eq_false_iff, Bool.and_eq_true, Bool.or_eq_true, decide_eq_true_eq, decide_eq_false_iff_not] at hsc); (repeat' (with_reducible apply And.intro)) <;> (first | assumption | trivial | exact (fun hq => by rw [hq]; rfl) | exact i64_of (by omega) (by omega) | omega | (simp; done) | (simp; omega) | (intro hse; simp [hse, hs0]; done) | (intro hse; simp only [hse, hs0, Bool.true_and, Bool.and_true, Bool.not_false, Bool.not_true, Bool.and_self]; done))))))
          refine cut_re _ _ ReOk.refl ?_
          simp only [ZZ, YY, Ze, ite_true, ite_false, forall_const, reduceCtorEq, Nat.reduceAdd, Nat.reduceMul, Nat.reduceLeDiff, Nat.reduceLT, Nat.reduceEqDiff]
          ((repeat' (with_reducible apply And.intro)) <;> try ((first | first | assumption | trivial | exact (fun hq => by rw [hq]; rfl) | exact i64_of (by omega) (by omega) | omega | (simp; done) | (simp; omega) | (intro hsc; have hs0 := hsc; (try have hsd := of_decide_eq_true hsc); (try simp only [Bool.not_eq_true', Bool.or_eq_false_iff, Bool.and_eq_true, Bool.or_eq_true, decide_eq_true_eq, decide_eq_false_iff_not] at hsc); (repeat' (with_reducible apply And.intro)) <;> (first | assumption | trivial | exact (fun hq => by rw [hq]; rfl) | exact i64_of (by omega) (by omega) | omega | (simp; done) | (simp; omega) | (intro hse; simp [hse, hs0]; done) | (intro hse; simp only [hse, hs0, Bool.true_and, Bool.and_true, Bool.not_false, Bool.not_true, Bool.and_self]; done))))))
          refine end_re (o.length - (i + 1)) [.any, .any, .any, .any, .any, .any, .any, .mp (.l 29), .any, .any, .any, .any, .any, .row (.l 63), .any, .any, .row (.l 98), .any, .any, .any, .p (.sl 1 (strE o)), .any, .any, .any, .any, .any, .any, .any, .any, .any, .any, .any, .any, .any, .any, .any, .any, .any, .any, .any, .any, .any, .any, .any, .any, .any, .any, .any, .any, .any, .any, .any, .any, .any, .any, .any, .any, .any, .any, .any, .any, .any, .any, .any, .any, .any, .any, .any, .any, .any, .any, .any, .any, .any, .any, .any, .any, .any, .any, .any, .any, .any, .any, .any, .any, .any, .any, .any, .any, .any, .any, .any, .any, .any, .any, .any, .any, .any, .any, .any, .any, .any, .any, .any, .any, .any, .any, .any, .any, .any, .any, .any, .any, .any, .any, .any, .any, .any, .any, .p (.sl 1 (tbE v)), .p (int (v.length : Nat)), .p (int (k : Nat)), .any, .any, .any, .p (.sl 1 (strE o)), .p (int (o.length : Nat)), .p (int (i + 1 : Nat)), .any, .any, .any, .any, .any, .any, .any, .any, .any, .any, .any, .any, .any, .any, .any, .any, .any, .any, .any, .any, .any, .any, .any] _ (by omega) (re_le (by simp only [ZZ, YY, Ze, ite_true, ite_false, forall_const, reduceCtorEq, Nat.reduceAdd, Nat.reduceMul, Nat.reduceLeDiff, Nat.reduceLT, Nat.reduceEqDiff, strE_len]; try trivial)) ⟨i + 1, by omega, rfl, rfl, ⟨?_, fun q hq1 hq2 => ?_⟩, ⟨?_, ?_⟩⟩
          · rw [look_putO, if_neg (by intro e; injection e; omega), hL]
            exact congrArg (fun c => some (AO.rowv c tStrs 1)) (liveC_ext fun q hq => by rw [if_neg (by omega), if_neg (by omega)])
          · rw [look_putO]
            by_cases e : q = p
            · rw [if_pos (by rw [e, hkp])]; simp only [if_pos e]
            · rw [if_neg (by intro e2; injection e2; omega), hR q hq1 hq2]; simp only [if_neg e]
          · rw [look_putO, if_neg (by intro e; injection e; omega), hM1]
          · rw [look_putO, if_neg (by intro e; injection e; omega), hM2]
        · intro hi0
          have hi0 : i = 0 := by have := of_decide_eq_false hi0; omega
          subst hi0
          simp only [ZZ, YY, Ze, ite_true, ite_false, forall_const, reduceCtorEq, Nat.reduceAdd, Nat.reduceMul, Nat.reduceLeDiff, Nat.reduceLT, Nat.reduceEqDiff]
          refine cut_re _ _ ReOk.refl ?_
          simp only [ZZ, YY, Ze, ite_true, ite_false, forall_const, reduceCtorEq, Nat.reduceAdd, Nat.reduceMul, Nat.reduceLeDiff, Nat.reduceLT, Nat.reduceEqDiff]
          ((repeat' (with_reducible apply And.intro)) <;> try ((first | first | assumption | trivial | exact (fun hq => by rw [hq]; rfl) | exact i64_of (by omega) (by omega) | omega | (simp; done) | (simp; omega) | (intro hsc; have hs0 := hsc; (try have hsd := of_decide_eq_true hsc); (try simp only [Bool.not_eq_true', Bool.or_eq_false_iff, Bool.and_eq_true, Bool.or_eq_true, decide_eq_true_eq, decide_eq_false_iff_not] at hsc); (repeat' (with_reducible apply And.intro)) <;> (first | assumption | trivial | exact (fun hq => by rw [hq]; rfl) | exact i64_of (by omega) (by omega) | omega | (simp; done) | (simp; omega) | (intro hse; simp [hse, hs0]; done) | (intro hse; simp only [hse, hs0, Bool.true_and, Bool.and_true, Bool.not_false, Bool.not_true, Bool.and_self]; done))))))
          refine end_re (o.length - 1) [.any, .any, .any, .any, .any, .any, .any, .mp (.l 29), .any, .any, .any, .any, .any, .row (.l 63), .any, .any, .row (.l 98), .any, .any, .any, .p (.sl 1 (strE o)), .any, .any, .any, .any, .any, .any, .any, .any, .any, .any, .any, .any, .any, .any, .any, .any, .any, .any, .any, .any, .any, .any, .any, .any, .any, .any, .any, .any, .any, .any, .any, .any, .any, .any, .any, .any, .any, .any, .any, .any, .any, .any, .any, .any, .any, .any, .any, .any, .any, .any, .any, .any, .any, .any, .any, .any, .any, .any, .any, .any, .any, .any, .any, .any, .any, .any, .any, .any, .any, .any, .any, .any, .any, .any, .any, .any, .any, .any, .any, .any, .any, .any, .any, .any, .any, .any, .any, .any, .any, .any, .any, .any, .any, .any, .any, .any, .any, .any, .p (.sl 1 (tbE v)), .p (int (v.length : Nat)), .p (int (k : Nat)), .any, .any, .any, .p (.sl 1 (strE o)), .p (int (o.length : Nat)), .p (int (1 : Nat)), .any, .any, .any, .any, .any, .any, .any, .any, .any, .any, .any, .any, .any, .any, .any, .any, .any, .any, .any, .any, .any, .any, .any] _ (by omega) (re_le (by simp only [ZZ, YY, Ze, ite_true, ite_false, forall_const, reduceCtorEq, Nat.reduceAdd, Nat.reduceMul, Nat.reduceLeDiff, Nat.reduceLT, Nat.reduceEqDiff, strE_len]; try trivial)) ⟨1, by omega, rfl, rfl, ⟨hL, hR⟩, ⟨hM1, hM2⟩⟩
      · intro h
        have hge : i = o.length := by have := of_decide_eq_false h; omega
        subst hge
        simp only [ZZ, YY, Ze, ite_true, ite_false, forall_const, reduceCtorEq, Nat.reduceAdd, Nat.reduceMul, Nat.reduceLeDiff, Nat.reduceLT, Nat.reduceEqDiff]
        ((repeat' (with_reducible apply And.intro)) <;> try ((first | first | assumption | trivial | exact (fun hq => by rw [hq]; rfl) | exact i64_of (by omega) (by omega) | omega | (simp; done) | (simp; omega) | (intro hsc; have hs0 := hsc; (try have hsd := of_decide_eq_true hsc); (try simp only [Bool.not_eq_true', Bool.or_eq_false_iff, Bool.and_eq_true, Bool.or_eq_true, decide_eq_true_eq, decide_eq_false_iff_not] at hsc); (repeat' (with_reducible apply And.intro)) <;> (first | assumption | trivial | exact (fun hq => by rw [hq]; rfl) | exact i64_of (by omega) (by omega) | omega | (simp; done) | (simp; omega) | (intro hse; simp [hse, hs0]; done) | (intro hse; simp only [hse, hs0, Bool.true_and, Bool.and_true, Bool.not_false, Bool.not_true, Bool.and_self]; done))))))
        obtain ⟨L1, hre1, hj1⟩ := hnx (k + 1) _ (by omega) (LiveI.ext ⟨hL, hR⟩ (by omega) (fun q hq => by
          rw [hst, o2]
          by_cases e : q = p
          · rw [if_pos e, e, List.getD, List.getElem?_set_self (by rw [hTl]; exact hpN)]; rfl
          · rw [if_neg e, List.getD, List.getD, List.getElem?_set_ne (Ne.symm e)])) ⟨hM1, hM2⟩
        refine end_re (v.length - (k + 1)) [.any, .any, .any, .any, .any, .any, .any, .mp (.l 29), .any, .any, .any, .any, .any, .row (.l 63), .any, .any, .row (.l 98), .any, .any, .any, .any, .any, .any, .any, .any, .any, .any, .any, .any, .any, .any, .any, .any, .any, .any, .any, .any, .any, .any, .any, .any, .any, .any, .any, .any, .any, .any, .any, .any, .any, .any, .any, .any, .any, .any, .any, .any, .any, .any, .any, .any, .any, .any, .any, .any, .any, .any, .any, .any, .any, .any, .any, .any, .any, .any, .any, .any, .any, .any, .any, .any, .any, .any, .any, .any, .any, .any, .any, .any, .any, .any, .any, .any, .any, .any, .any, .any, .any, .any, .any, .any, .any, .any, .any, .any, .any, .any, .any, .any, .any, .any, .any, .any, .any, .any, .any, .any, .any, .any, .p (.sl 1 (tbE v)), .p (int (v.length : Nat)), .p (int (k + 1 : Nat)), .any, .any, .any, .any, .any, .any, .any, .any, .any, .any, .any, .any, .any, .any, .any, .any, .any, .any, .any, .any, .any, .any, .any, .any, .any, .any, .any, .any, .any] L1 (by omega) (ReOk.trans (re_le (by simp only [ZZ, YY, Ze, ite_true, ite_false, forall_const, reduceCtorEq, Nat.reduceAdd, Nat.reduceMul, Nat.reduceLeDiff, Nat.reduceLT, Nat.reduceEqDiff, strE_len]; try trivial)) hre1) ⟨k + 1, by omega, rfl, rfl, hj1⟩
    · intro h
      have hge : k = v.length := by have := of_decide_eq_false h; omega
      rcases hj with ⟨e, _⟩ | ⟨_, hO⟩
      · omega
      simp only [ZZ, YY, Ze, ite_true, ite_false, forall_const, reduceCtorEq, Nat.reduceAdd, Nat.reduceMul, Nat.reduceLeDiff, Nat.reduceLT, Nat.reduceEqDiff, hO]
end Go.Proofs.YthfpehmbellmcaaDoor

/- The maker of tables: its rows are live until the end. -/
namespace Go.Proofs.YthfpehmbellmcaaDoor
open Go.RowKit
set_option linter.unusedVariables false
set_option linter.unusedSimpArgs false
set_option linter.defProp false

/- (*paperchase/chasemake.Stream).LoadRows -/
def ir_chasemake_Stream_LoadRows_L1 : IC :=
  (.seq (.reg [⟨some 31, .bin .lss (.t 30) (.t 29), none⟩])
    (.seq (.cond (.t 31) .skip (.exit 2))
    (.seq (.block 3 (.reg [⟨some 32, .mov (.t 7), none⟩,
      ⟨some 33, .mov (.t 0), none⟩,
      ⟨some 34, .bsl 1 [.c (.str []), .c (.str [120]), .c (.str [97, 94, 98]), .c (.str [126]), .c (.str [126, 110]), .c (.str [108, 10, 109]), .c (.str [94]), .c (.str [124]), .c (.str [195, 169])], none⟩,
      ⟨some 35, .call 13 [.t 33, .t 34], none⟩,
      ⟨none, .fz (.t 35), none⟩,
      ⟨some 36, .bsl 1 [.t 35], none⟩,
      ⟨some 37, .app 9 1 16 (.t 32) (.t 36), none⟩,
      ⟨some 7, .mov (.t 37), none⟩]))
    (.reg [⟨some 38, .bin .add (.t 30) (.c (.int .i64 1)), none⟩,
      ⟨some 30, .mov (.t 38), none⟩]))))
def ir_chasemake_Stream_LoadRows_L0 : IC :=
  (.seq (.reg [⟨some 20, .bin .lss (.t 19) (.t 18), none⟩])
    (.seq (.cond (.t 20) .skip (.exit 0))
    (.seq (.block 1 (.seq (.reg [⟨some 21, .mov (.t 19), none⟩,
      ⟨some 6, .mov (.t 21), none⟩])
    (.seq (.reg [⟨some 22, .mov (.t 6), none⟩,
      ⟨some 23, .bin .add (.c (.int .i64 97)) (.t 22), none⟩,
      ⟨some 24, .cvi .i32 (.t 23), none⟩,
      ⟨some 25, .cvs (.t 24), none⟩,
      ⟨some 26, .bin .add (.c (.str [107])) (.t 25), none⟩,
      ⟨some 27, .bsr 9 1 [.t 26], none⟩,
      ⟨some 7, .mov (.t 27), none⟩])
    (.seq (.seq (.reg [⟨some 28, .mov (.t 3), none⟩,
      ⟨some 29, .bin .sub (.t 28) (.c (.int .i64 1)), none⟩,
      ⟨some 30, .mov (.c (.int .i64 0)), none⟩])
    (.block 2 (.loop ir_chasemake_Stream_LoadRows_L1)))
    (.reg [⟨some 39, .mov (.t 5), none⟩,
      ⟨some 40, .mov (.t 7), none⟩,
      ⟨some 41, .bsr 36 1 [.t 40], none⟩,
      ⟨some 42, .app 36 1 24 (.t 39) (.t 41), none⟩,
      ⟨some 5, .mov (.t 42), none⟩])))))
    (.reg [⟨some 43, .bin .add (.t 19) (.c (.int .i64 1)), none⟩,
      ⟨some 19, .mov (.t 43), none⟩]))))
def ir_chasemake_Stream_LoadRows : IC :=
  (.seq (.reg [⟨some 2, .mov (.c (.nl 1)), none⟩])
    (.seq (.reg [⟨some 9, .mov (.t 0), none⟩,
      ⟨some 10, .call 10 [.t 9, .c (.int .i64 1), .c (.int .i64 4)], none⟩,
      ⟨some 3, .mov (.t 10), none⟩])
    (.seq (.reg [⟨some 11, .bsl 1 [.c (.str [105, 100]), .c (.str [97]), .c (.str [98]), .c (.str [99])], none⟩,
      ⟨some 12, .mov (.t 3), none⟩,
      ⟨some 13, .vsl 1 (.t 11) none (some (.t 12)), none⟩,
      ⟨some 4, .mov (.t 13), none⟩])
    (.seq (.reg [⟨some 14, .mov (.t 4), none⟩,
      ⟨some 15, .call 11 [.t 14], none⟩,
      ⟨some 16, .bsr 36 1 [.t 15], none⟩,
      ⟨some 5, .mov (.t 16), none⟩])
    (.seq (.seq (.reg [⟨some 17, .mov (.t 0), none⟩,
      ⟨some 18, .call 12 [.t 17, .c (.int .i64 5)], none⟩,
      ⟨some 19, .mov (.c (.int .i64 0)), none⟩])
    (.block 0 (.loop ir_chasemake_Stream_LoadRows_L0)))
    (.seq (.seq (.reg [⟨some 44, .mov (.t 0), none⟩,
      ⟨some 45, .call 12 [.t 44, .c (.int .i64 14)], none⟩])
    (.block 4 (.seq (.reg [⟨some 47, .bin .eql (.t 45) (.c (.int .i64 0)), none⟩,
      ⟨some 46, .mov (.t 47), none⟩])
    (.cond (.t 46) (.reg [⟨some 48, .mov (.t 5), none⟩,
      ⟨some 49, .mov (.t 0), none⟩,
      ⟨some 50, .mov (.t 3), none⟩,
      ⟨some 51, .mov (.t 3), none⟩,
      ⟨some 52, .bin .add (.t 51) (.c (.int .i64 1)), none⟩,
      ⟨none, .fz (.t 50), none⟩,
      ⟨some 53, .bsl 1 [.c (.int .i64 0), .t 50, .t 52, .c (.int .i64 31)], none⟩,
      ⟨some 54, .call 14 [.t 49, .t 53], none⟩,
      ⟨some 55, .mks 9 1 16 [.str []] (.t 54) (.t 54), none⟩,
      ⟨some 56, .bsr 36 1 [.t 55], none⟩,
      ⟨some 57, .app 36 1 24 (.t 48) (.t 56), none⟩,
      ⟨some 5, .mov (.t 57), none⟩]) (.seq (.reg [⟨some 59, .bin .eql (.t 45) (.c (.int .i64 1)), none⟩,
      ⟨some 58, .mov (.t 59), none⟩])
    (.cond (.t 58) (.drg [⟨some 60, .mov (.t 5), none⟩,
      ⟨some 61, .ixa 1 (.t 60) (.c (.int .i64 0)), none⟩,
      ⟨some 62, .ldl 1 false (.t 61), none⟩,
      ⟨some 63, .mov (.t 0), none⟩,
      ⟨some 64, .mov (.t 3), none⟩,
      ⟨some 65, .dcall true 12 [.t 63, .t 64], none⟩,
      ⟨some 66, .mov (.t 0), none⟩,
      ⟨some 67, .bsl 1 [.c (.str [105, 100]), .c (.str [97]), .c (.str [122])], none⟩,
      ⟨some 68, .dcall true 13 [.t 66, .t 67], none⟩,
      ⟨some 69, .ixa 1 (.t 62) (.t 65), none⟩,
      ⟨none, .st 1 (.t 69) (.t 68), none⟩]) (.seq (.reg [⟨some 71, .bin .eql (.t 45) (.c (.int .i64 2)), none⟩,
      ⟨some 70, .mov (.t 71), none⟩])
    (.cond (.t 70) (.seq (.reg [⟨some 72, .mov (.t 5), none⟩,
      ⟨some 73, .mov (.t 0), none⟩,
      ⟨some 74, .mov (.t 5), none⟩,
      ⟨some 75, .len (.t 74), none⟩,
      ⟨some 76, .call 12 [.t 73, .t 75], none⟩,
      ⟨some 77, .ixa 1 (.t 72) (.t 76), none⟩,
      ⟨some 78, .ld 1 false (.t 77), none⟩,
      ⟨some 8, .mov (.t 78), none⟩])
    (.reg [⟨some 79, .mov (.t 8), none⟩,
      ⟨some 80, .mov (.t 0), none⟩,
      ⟨some 81, .mov (.t 8), none⟩,
      ⟨some 82, .len (.t 81), none⟩,
      ⟨some 83, .call 12 [.t 80, .t 82], none⟩,
      ⟨some 84, .mov (.t 0), none⟩,
      ⟨some 85, .bsl 1 [.c (.str [97, 9, 98]), .c (.str [255]), .c (.str [107, 97])], none⟩,
      ⟨some 86, .call 13 [.t 84, .t 85], none⟩,
      ⟨some 87, .ixa 1 (.t 79) (.t 83), none⟩,
      ⟨none, .st 1 (.t 87) (.t 86), none⟩])) (.seq (.reg [⟨some 89, .bin .eql (.t 45) (.c (.int .i64 3)), none⟩,
      ⟨some 88, .mov (.t 89), none⟩])
    (.cond (.t 88) (.reg [⟨some 5, .nilr 36 1, none⟩]) .skip))))))))))
    (.cut (.seq (.reg [⟨some 90, .mov (.t 5), none⟩,
      ⟨some 2, .mov (.t 90), none⟩])
    .ret))))))))
def rs_chasemake_Stream_LoadRows : List IRes := [.t 2]
theorem ck_chasemake_Stream_LoadRows : chkF Tryd.prog Tryd.f4 ir_chasemake_Stream_LoadRows rs_chasemake_Stream_LoadRows 91 = true := by kernel_rfl

def hdL : SRow := [[105, 100], [97], [98], [99]]
def wdL : SRow := [[], [120], [97, 94, 98], [126], [126, 110], [108, 10, 109], [94], [124], [195, 169]]
theorem encP_le (c : Int) : (Utf8.encode c).data.toList.length ≤ 4 := by
  rw [Array.length_toList]
  exact encode_size_le c
theorem tabS_of {N : Nat} {f : Nat → SRow} (hN : N ≤ 10) (h : ∀ q, q < N → (f q).length ≤ 31 ∧ ∀ s ∈ f q, s.length ≤ 100) : TabS 100 (tabF f N) := by
  refine ⟨by simp [tabF]; omega, fun r hr => ?_⟩
  simp only [tabF, List.mem_map, List.mem_range] at hr
  obtain ⟨q, hq, rfl⟩ := hr
  exact ⟨by have := (h q hq).1; omega, (h q hq).2⟩
set_option maxHeartbeats 8000000 in
set_option maxRecDepth 100000 in
theorem LoadRows_ok {E : Envt} : LrOk E := by
  intro l k hk hl
  unfold SCall
  refine gcallP mixed Tryd.func4 ck_chasemake_Stream_LoadRows ?_
  simp only [a0, l0, OS.ao, List.map_cons, List.map_nil, List.length_cons, List.length_nil, List.cons_append, List.nil_append, Nat.reduceSub, Nat.reduceAdd, List.replicate_succ, List.replicate_zero, ir_chasemake_Stream_LoadRows, rs_chasemake_Stream_LoadRows, ZZ, YY, Ze, ite_true, ite_false, forall_const, reduceCtorEq, Nat.reduceAdd, Nat.reduceMul, Nat.reduceLeDiff, Nat.reduceLT, Nat.reduceEqDiff]
  refine useS (Range_ok l k 1 4 (by omega) hl (by omega) (by omega) (by omega)) rfl rfl rfl (by simp only [ZZ, YY, Ze, ite_true, ite_false, forall_const, reduceCtorEq, Nat.reduceAdd, Nat.reduceMul, Nat.reduceLeDiff, Nat.reduceLT, Nat.reduceEqDiff]) ?_
  rintro x cs' ⟨y, rfl, hy1, hy4, rfl⟩
  obtain ⟨n, rfl⟩ := Int.eq_ofNat_of_zero_le (show 0 ≤ y by omega)
  have hq : ([[PV.str [105, 100]], [PV.str [97]], [PV.str [98]], [PV.str [99]]] : List (List PV)) = strE hdL := rfl
  have htk : (strE hdL).take n = strE (hdL.take n) := by rw [strE, strE, List.map_take]
  have hhl : (hdL.take n).length = n := by rw [List.length_take]; show min n 4 = n; omega
  simp only [ZZ, YY, Ze, ite_true, ite_false, forall_const, reduceCtorEq, Nat.reduceAdd, Nat.reduceMul, Nat.reduceLeDiff, Nat.reduceLT, Nat.reduceEqDiff, hq, htk, strE_len]
  ((repeat' (with_reducible apply And.intro)) <;> try ((first | first | assumption | trivial | exact (fun hq => by rw [hq]; rfl) | exact i64_of (by omega) (by omega) | omega | (simp; done) | (simp; omega) | (intro hsc; have hs0 := hsc; (try have hsd := of_decide_eq_true hsc); (try simp only [Bool.not_eq_true', Bool.or_eq_false_iff, Bool.and_eq_true, Bool.or_eq_true, decide_eq_true_eq, decide_eq_false_iff_not] at hsc); (repeat' (with_reducible apply And.intro)) <;> (first | assumption | trivial | exact (fun hq => by rw [hq]; rfl) | exact i64_of (by omega) (by omega) | omega | (simp; done) | (simp; omega) | (intro hse; simp [hse, hs0]; done) | (intro hse; simp only [hse, hs0, Bool.true_and, Bool.and_true, Bool.not_false, Bool.not_true, Bool.and_self]; done))))))
  refine useF (CloneS_ok (strE (hdL.take n)) (by rw [strE_len]; omega)) rfl rfl ?_
  rintro es rfl
  simp only [ZZ, YY, Ze, ite_true, ite_false, forall_const, reduceCtorEq, Nat.reduceAdd, Nat.reduceMul, Nat.reduceLeDiff, Nat.reduceLT, Nat.reduceEqDiff]
  refine useS (Next_ok l (k + 1) 5 (by omega) hl (by decide)) rfl rfl rfl (by simp only [ZZ, YY, Ze, ite_true, ite_false, forall_const, reduceCtorEq, Nat.reduceAdd, Nat.reduceMul, Nat.reduceLeDiff, Nat.reduceLT, Nat.reduceEqDiff]) ?_
  rintro x cs' ⟨y2, rfl, rfl⟩
  obtain ⟨c, hc, hc2⟩ := below_idx y2 5 (by omega)
  have hc2 : below y2 5 = (c : Nat) := hc2
  rw [hc2]
  simp only [ZZ, YY, Ze, ite_true, ite_false, forall_const, reduceCtorEq, Nat.reduceAdd, Nat.reduceMul, Nat.reduceLeDiff, Nat.reduceLT, Nat.reduceEqDiff]
  refine loop_re (fun m fr L => ∃ i k' f, i ≤ c ∧ m = c - i ∧ fr = [.adr (.b 0) 0, .any, .any, .p (int (n : Nat)), .any, .row (.l 16), .any, .any, .any, .any, .any, .any, .any, .any, .any, .any, .any, .any, .p (int (c : Nat)), .p (int (i : Nat)), .any, .any, .any, .any, .any, .any, .any, .any, .any, .any, .any, .any, .any, .any, .any, .any, .any, .any, .any, .any, .any, .any, .any, .any, .any, .any, .any, .any, .any, .any, .any, .any, .any, .any, .any, .any, .any, .any, .any, .any, .any, .any, .any, .any, .any, .any, .any, .any, .any, .any, .any, .any, .any, .any, .any, .any, .any, .any, .any, .any, .any, .any, .any, .any, .any, .any, .any, .any, .any, .any, .any] ∧ Zas L (.b 0) = some (.box ((stm l k').map .p) T) ∧ LiveI L 16 (i + 1) 0 f ∧ (∀ q, q < i + 1 → (f q).length = n ∧ ∀ s ∈ f q, s.length ≤ 100) ∧ k' ≤ k + 2 + 4 * i) c [.adr (.b 0) 0, .any, .any, .p (int (n : Nat)), .any, .row (.l 16), .any, .any, .any, .any, .any, .any, .any, .any, .any, .any, .any, .any, .p (int (c : Nat)), .p (int (0 : Nat)), .any, .any, .any, .any, .any, .any, .any, .any, .any, .any, .any, .any, .any, .any, .any, .any, .any, .any, .any, .any, .any, .any, .any, .any, .any, .any, .any, .any, .any, .any, .any, .any, .any, .any, .any, .any, .any, .any, .any, .any, .any, .any, .any, .any, .any, .any, .any, .any, .any, .any, .any, .any, .any, .any, .any, .any, .any, .any, .any, .any, .any, .any, .any, .any, .any, .any, .any, .any, .any, .any, .any] _ (ReOk.trans (re_ren 15 1000) (re_le (by simp only [ZZ, YY, Ze, ite_true, ite_false, forall_const, reduceCtorEq, Nat.reduceAdd, Nat.reduceMul, Nat.reduceLeDiff, Nat.reduceLT, Nat.reduceEqDiff]; try trivial))) ⟨0, k + 2, fun _ => hdL.take n, by omega, by omega, rfl, rfl, ⟨rfl, fun q h1 h2 => ?_⟩, fun q hq => ⟨hhl, ?_⟩, by omega⟩ ?_
  · have : q = 0 := by omega
    subst this
    rfl
  · intro s hs
    have := List.mem_of_mem_take hs
    exact Nat.le_trans ((show ∀ s ∈ hdL, s.length ≤ 4 by decide) s this) (by omega)
  rintro m fr L ⟨i, k', f, hi, rfl, rfl, hB, ⟨hL, hR⟩, hf, hk'⟩
  simp only [ir_chasemake_Stream_LoadRows_L0, ZZ, YY, Ze, ite_true, ite_false, forall_const, reduceCtorEq, Nat.reduceAdd, Nat.reduceMul, Nat.reduceLeDiff, Nat.reduceLT, Nat.reduceEqDiff]
  refine br ?_ ?_
  · intro h
    have hlt : i < c := by have := of_decide_eq_true h; omega
    have hE4 := encP_le (IntKind.i32.wrap (97 + ((i : Nat) : Int)))
    obtain ⟨w, hw⟩ : ∃ w, w = n - 1 := ⟨_, rfl⟩
    have hn1 : ((n : Nat) : Int) - 1 = (w : Nat) := by omega
    have hq1 : ∀ x : List UInt8, ([[PV.str x]] : List (List PV)) = strE [x] := fun _ => rfl
    simp only [ZZ, YY, Ze, ite_true, ite_false, forall_const, reduceCtorEq, Nat.reduceAdd, Nat.reduceMul, Nat.reduceLeDiff, Nat.reduceLT, Nat.reduceEqDiff, hn1, hq1]
    ((repeat' (with_reducible apply And.intro)) <;> try ((first | first | assumption | trivial | exact (fun hq => by rw [hq]; rfl) | exact i64_of (by omega) (by omega) | omega | (simp; done) | (simp; omega) | (intro hsc; have hs0 := hsc; (try have hsd := of_decide_eq_true hsc); (try simp only [Bool.not_eq_true', Bool.or_eq_false_iff, Bool.and_eq_true, Bool.or_eq_true, decide_eq_true_eq, decide_eq_false_iff_not] at hsc); (repeat' (with_reducible apply And.intro)) <;> (first | assumption | trivial | exact (fun hq => by rw [hq]; rfl) | exact i64_of (by omega) (by omega) | omega | (simp; done) | (simp; omega) | (intro hse; simp [hse, hs0]; done) | (intro hse; simp only [hse, hs0, Bool.true_and, Bool.and_true, Bool.not_false, Bool.not_true, Bool.and_self]; done))))))
    refine loop_re (fun m fr L => ∃ j k2 v, j ≤ w ∧ m = w - j ∧ fr = [.adr (.b 0) 0, .any, .any, .p (int (n : Nat)), .any, .row (.l 16), .any, .row (.l 27), .any, .any, .any, .any, .any, .any, .any, .any, .any, .any, .p (int (c : Nat)), .p (int (i : Nat)), .any, .any, .any, .any, .any, .any, .any, .any, .any, .p (int (w : Nat)), .p (int (j : Nat)), .any, .any, .any, .any, .any, .any, .any, .any, .any, .any, .any, .any, .any, .any, .any, .any, .any, .any, .any, .any, .any, .any, .any, .any, .any, .any, .any, .any, .any, .any, .any, .any, .any, .any, .any, .any, .any, .any, .any, .any, .any, .any, .any, .any, .any, .any, .any, .any, .any, .any, .any, .any, .any, .any, .any, .any, .any, .any, .any, .any] ∧ Zas L (.b 0) = some (.box ((stm l k2).map .p) T) ∧ Zas L (.l 27) = some (.row (strE v) tStr 1 true) ∧ LiveI L 16 (i + 1) 0 f ∧ v.length = 1 + j ∧ (∀ s ∈ v, s.length ≤ 100) ∧ k2 ≤ k' + j) w [.adr (.b 0) 0, .any, .any, .p (int (n : Nat)), .any, .row (.l 16), .any, .row (.l 27), .any, .any, .any, .any, .any, .any, .any, .any, .any, .any, .p (int (c : Nat)), .p (int (i : Nat)), .any, .any, .any, .any, .any, .any, .any, .any, .any, .p (int (w : Nat)), .p (int (0 : Nat)), .any, .any, .any, .any, .any, .any, .any, .any, .any, .any, .any, .any, .any, .any, .any, .any, .any, .any, .any, .any, .any, .any, .any, .any, .any, .any, .any, .any, .any, .any, .any, .any, .any, .any, .any, .any, .any, .any, .any, .any, .any, .any, .any, .any, .any, .any, .any, .any, .any, .any, .any, .any, .any, .any, .any, .any, .any, .any, .any, .any] _ (re_le (by simp only [ZZ, YY, Ze, ite_true, ite_false, forall_const, reduceCtorEq, Nat.reduceAdd, Nat.reduceMul, Nat.reduceLeDiff, Nat.reduceLT, Nat.reduceEqDiff]; try trivial)) ⟨0, k', _, by omega, by omega, rfl, ?_, by rw [look_putO, if_pos rfl], ⟨?_, fun q h1 h2 => ?_⟩, rfl, ?_, by omega⟩ ?_
    · rw [look_putO, if_neg (by simp), look_killO, hB]; rfl
    · rw [look_putO, if_neg (by simp), look_killO, hL, Option.map_some, AO.kill]
      exact congrArg (fun c => some (AO.rowv c tStrs 1)) (liveC_kill (by omega))
    · rw [look_putO, if_neg (by simp; omega), look_killO, hR q h1 h2]; rfl
    · intro s hs
      rw [List.mem_singleton] at hs
      subst hs
      simp only [List.length_append, List.length_cons, List.length_nil]
      omega
    clear hB hL hR L
    rintro m fr L ⟨j, k2, v, hj, rfl, rfl, hB, hV, ⟨hL, hR⟩, hvl, hvb, hk2⟩
    simp only [ir_chasemake_Stream_LoadRows_L1, ZZ, YY, Ze, ite_true, ite_false, forall_const, reduceCtorEq, Nat.reduceAdd, Nat.reduceMul, Nat.reduceLeDiff, Nat.reduceLT, Nat.reduceEqDiff]
    refine br ?_ ?_
    · intro h
      have hjl : j < w := by have := of_decide_eq_true h; omega
      have e3 : ∀ (l : List (List UInt8)) (s : List UInt8), strE l ++ [[PV.str s]] = strE (l ++ [s]) := by intro l s; simp [strE]
      simp only [ZZ, YY, Ze, ite_true, ite_false, forall_const, reduceCtorEq, Nat.reduceAdd, Nat.reduceMul, Nat.reduceLeDiff, Nat.reduceLT, Nat.reduceEqDiff]
      refine useS (one_ok l k2 wdL (by omega) hl (by decide) (by decide)) hB rfl rfl (by simp only [ZZ, YY, Ze, ite_true, ite_false, forall_const, reduceCtorEq, Nat.reduceAdd, Nat.reduceMul, Nat.reduceLeDiff, Nat.reduceLT, Nat.reduceEqDiff]) ?_
      rintro x cs' ⟨y, rfl, hy, rfl⟩
      have hyl : y.length ≤ 100 := Nat.le_trans ((show ∀ s ∈ wdL, s.length ≤ 4 by decide) y hy) (by omega)
      simp only [ZZ, YY, Ze, ite_true, ite_false, forall_const, reduceCtorEq, Nat.reduceAdd, Nat.reduceMul, Nat.reduceLeDiff, Nat.reduceLT, Nat.reduceEqDiff, look_putO, look_killO, hV, strE_len, e3]
      ((repeat' (with_reducible apply And.intro)) <;> try ((first | first | assumption | trivial | exact (fun hq => by rw [hq]; rfl) | exact i64_of (by omega) (by omega) | omega | (simp; done) | (simp; omega) | (intro hsc; have hs0 := hsc; (try have hsd := of_decide_eq_true hsc); (try simp only [Bool.not_eq_true', Bool.or_eq_false_iff, Bool.and_eq_true, Bool.or_eq_true, decide_eq_true_eq, decide_eq_false_iff_not] at hsc); (repeat' (with_reducible apply And.intro)) <;> (first | assumption | trivial | exact (fun hq => by rw [hq]; rfl) | exact i64_of (by omega) (by omega) | omega | (simp; done) | (simp; omega) | (intro hse; simp [hse, hs0]; done) | (intro hse; simp only [hse, hs0, Bool.true_and, Bool.and_true, Bool.not_false, Bool.not_true, Bool.and_self]; done))))))
      refine end_re (w - (j + 1)) [.adr (.b 0) 0, .any, .any, .p (int (n : Nat)), .any, .row (.l 16), .any, .row (.l 27), .any, .any, .any, .any, .any, .any, .any, .any, .any, .any, .p (int (c : Nat)), .p (int (i : Nat)), .any, .any, .any, .any, .any, .any, .any, .any, .any, .p (int (w : Nat)), .p (int (j + 1 : Nat)), .any, .any, .any, .any, .any, .any, .any, .any, .any, .any, .any, .any, .any, .any, .any, .any, .any, .any, .any, .any, .any, .any, .any, .any, .any, .any, .any, .any, .any, .any, .any, .any, .any, .any, .any, .any, .any, .any, .any, .any, .any, .any, .any, .any, .any, .any, .any, .any, .any, .any, .any, .any, .any, .any, .any, .any, .any, .any, .any, .any] _ (by omega) (re_le (by simp only [ZZ, YY, Ze, ite_true, ite_false, forall_const, reduceCtorEq, Nat.reduceAdd, Nat.reduceMul, Nat.reduceLeDiff, Nat.reduceLT, Nat.reduceEqDiff]; try trivial)) ⟨j + 1, k2 + 1, v ++ [y], by omega, rfl, rfl, ?_, by rw [look_putO, if_pos rfl], ⟨?_, fun q h1 h2 => ?_⟩, by simp; omega, ?_, by omega⟩
      · rw [look_putO, if_neg (by simp), look_killO, look_putO, if_pos rfl]; rfl
      · rw [look_putO, if_neg (by simp), look_killO, look_putO, if_neg (by simp), hL, Option.map_some, AO.kill]
        exact congrArg (fun c => some (AO.rowv c tStrs 1)) (liveC_kill (by omega))
      · rw [look_putO, if_neg (by simp; omega), look_killO, look_putO, if_neg (by simp), hR q h1 h2]; rfl
      · intro s hs
        rcases List.mem_append.1 hs with hs | hs
        · exact hvb s hs
        · rw [List.mem_singleton] at hs; subst hs; exact hyl
    · intro h
      have hje : j = w := by have := of_decide_eq_false h; omega
      simp only [ZZ, YY, Ze, ite_true, ite_false, forall_const, reduceCtorEq, Nat.reduceAdd, Nat.reduceMul, Nat.reduceLeDiff, Nat.reduceLT, Nat.reduceEqDiff, look_putO, look_killO, hL, liveC_kill (show 41 < 1000 by omega), liveC_kill (show 16 < 1000 by omega), liveC_len]
      ((repeat' (with_reducible apply And.intro)) <;> try ((first | first | assumption | trivial | exact (fun hq => by rw [hq]; rfl) | exact i64_of (by omega) (by omega) | omega | (simp; done) | (simp; omega) | (intro hsc; have hs0 := hsc; (try have hsd := of_decide_eq_true hsc); (try simp only [Bool.not_eq_true', Bool.or_eq_false_iff, Bool.and_eq_true, Bool.or_eq_true, decide_eq_true_eq, decide_eq_false_iff_not] at hsc); (repeat' (with_reducible apply And.intro)) <;> (first | assumption | trivial | exact (fun hq => by rw [hq]; rfl) | exact i64_of (by omega) (by omega) | omega | (simp; done) | (simp; omega) | (intro hse; simp [hse, hs0]; done) | (intro hse; simp only [hse, hs0, Bool.true_and, Bool.and_true, Bool.not_false, Bool.not_true, Bool.and_self]; done))))))
      have hk16 : (16 = 1000 + (i + 1)) = False := by simp; omega
      refine end_re (c - (i + 1)) [.adr (.b 0) 0, .any, .any, .p (int (n : Nat)), .any, .row (.l 16), .any, .any, .any, .any, .any, .any, .any, .any, .any, .any, .any, .any, .p (int (c : Nat)), .p (int (i + 1 : Nat)), .any, .any, .any, .any, .any, .any, .any, .any, .any, .any, .any, .any, .any, .any, .any, .any, .any, .any, .any, .any, .any, .any, .any, .any, .any, .any, .any, .any, .any, .any, .any, .any, .any, .any, .any, .any, .any, .any, .any, .any, .any, .any, .any, .any, .any, .any, .any, .any, .any, .any, .any, .any, .any, .any, .any, .any, .any, .any, .any, .any, .any, .any, .any, .any, .any, .any, .any, .any, .any, .any, .any] _ (by omega) (ReOk.trans (re_ren 27 (1000 + (i + 1))) (re_le (by simp only [AV.ren, r1, hk16, ZZ, YY, Ze, ite_true, ite_false, forall_const, reduceCtorEq, Nat.reduceAdd, Nat.reduceMul, Nat.reduceLeDiff, Nat.reduceLT, Nat.reduceEqDiff]; try trivial))) ⟨i + 1, k2, fun q => if q = i + 1 then v else f q, by omega, rfl, rfl, ?_, ⟨?_, fun q h1 h2 => ?_⟩, ?_, by omega⟩
      · rw [look_ren1, if_neg (by simp), if_neg (by simp), look_putO, if_neg (by simp), look_killO, look_putO, if_neg (by simp), look_killO, hB]; rfl
      · rw [look_ren1, if_neg (by simp; omega), if_neg (by simp), look_putO, if_pos rfl]
        simp only [Option.map_some, AO.ren]
        refine congrArg (fun c => some (AO.rowv c tStrs 1)) ((liveC_ren (by omega) (by omega)).trans (liveC_ext fun q hq => absurd hq (by omega)))
      · rw [look_ren1]
        by_cases hqi : q = i + 1
        · subst hqi
          rw [if_pos rfl, look_putO, if_neg (by simp), look_killO, look_putO, if_neg (by simp), look_killO, hV]
          simp only [if_pos]
          rfl
        · rw [if_neg (by simp; omega), if_neg (by simp; omega), look_putO, if_neg (by simp; omega), look_killO, look_putO, if_neg (by simp; omega), look_killO, hR q h1 (by omega)]
          simp only [if_neg hqi]
          rfl
      · intro q hq
        by_cases hqi : q = i + 1
        · simp only [if_pos hqi]; exact ⟨by omega, hvb⟩
        · simp only [if_neg hqi]; exact hf q (by omega)
  · intro h
    have hge : i = c := by have := of_decide_eq_false h; omega
    subst hge
    have hth : ∀ (N : Nat) (f : Nat → SRow) (k' : Nat) (L : Objs), LiveI L 16 N 0 f → Zas L (.b 0) = some (.box ((stm l k').map .p) T) → ∃ L', ReOk E [.adr (.b 0) 0, .any, .any, .any, .any, .row (.l 16), .any, .any, .any, .any, .any, .any, .any, .any, .any, .any, .any, .any, .any, .any, .any, .any, .any, .any, .any, .any, .any, .any, .any, .any, .any, .any, .any, .any, .any, .any, .any, .any, .any, .any, .any, .any, .any, .any, .any, .any, .any, .any, .any, .any, .any, .any, .any, .any, .any, .any, .any, .any, .any, .any, .any, .any, .any, .any, .any, .any, .any, .any, .any, .any, .any, .any, .any, .any, .any, .any, .any, .any, .any, .any, .any, .any, .any, .any, .any, .any, .any, .any, .any, .any, .any] L [.adr (.b 0) 0, .any, .any, .any, .any, .row (.l 16), .any, .any, .any, .any, .any, .any, .any, .any, .any, .any, .any, .any, .any, .any, .any, .any, .any, .any, .any, .any, .any, .any, .any, .any, .any, .any, .any, .any, .any, .any, .any, .any, .any, .any, .any, .any, .any, .any, .any, .any, .any, .any, .any, .any, .any, .any, .any, .any, .any, .any, .any, .any, .any, .any, .any, .any, .any, .any, .any, .any, .any, .any, .any, .any, .any, .any, .any, .any, .any, .any, .any, .any, .any, .any, .any, .any, .any, .any, .any, .any, .any, .any, .any, .any, .any] L' ∧ Zas L' (.l 16) = some (.row (tbE (tabF f N)) tStrs 1 true) ∧ Zas L' (.b 0) = some (.box ((stm l k').map .p) T) := by
      intro N f k' L h hB
      obtain ⟨L', r1, r2, r3⟩ := thaw_live (E := E) (fr := [.adr (.b 0) 0, .any, .any, .any, .any, .row (.l 16), .any, .any, .any, .any, .any, .any, .any, .any, .any, .any, .any, .any, .any, .any, .any, .any, .any, .any, .any, .any, .any, .any, .any, .any, .any, .any, .any, .any, .any, .any, .any, .any, .any, .any, .any, .any, .any, .any, .any, .any, .any, .any, .any, .any, .any, .any, .any, .any, .any, .any, .any, .any, .any, .any, .any, .any, .any, .any, .any, .any, .any, .any, .any, .any, .any, .any, .any, .any, .any, .any, .any, .any, .any, .any, .any, .any, .any, .any, .any, .any, .any, .any, .any, .any, .any]) 16 N f tStrs tStr (by omega) (by
        intro q y
        have e1 : (Key.l 16 = .l (1000 + q)) = False := by simp; omega
        have e2 : (Key.b 0 = .l (1000 + q)) = False := by simp
        simp only [List.map_cons, List.map_nil, AV.thaw, e1, e2, if_false]) N 0 L (by omega) h.1 h.2
      exact ⟨L', r1, r2, r3 (.b 0) _ (fun q => by simp) (by simp) (fun q y => rfl) hB⟩
    simp only [ZZ, YY, Ze, ite_true, ite_false, forall_const, reduceCtorEq, Nat.reduceAdd, Nat.reduceMul, Nat.reduceLeDiff, Nat.reduceLT, Nat.reduceEqDiff]
    refine useS (Next_ok l k' 14 (by omega) hl (by decide)) hB rfl rfl (by simp only [ZZ, YY, Ze, ite_true, ite_false, forall_const, reduceCtorEq, Nat.reduceAdd, Nat.reduceMul, Nat.reduceLeDiff, Nat.reduceLT, Nat.reduceEqDiff]) ?_
    rintro x cs' ⟨y3, rfl, rfl⟩
    generalize below y3 14 = sw at *
    have hB1 : Zas (Zat L (.b 0) (.box ((stm l (k' + 1)).map .p) T)) (.b 0) = some (.box ((stm l (k' + 1)).map .p) T) := by rw [look_putO, if_pos rfl]
    have hL1 : Zas (Zat L (.b 0) (.box ((stm l (k' + 1)).map .p) T)) (.l 16) = some (.rowv (liveC f (i + 1) 0) tStrs 1) := by rw [look_putO, if_neg (by simp), hL]
    have hR1 : ∀ q, 0 ≤ q → q < i + 1 → Zas (Zat L (.b 0) (.box ((stm l (k' + 1)).map .p) T)) (.l (1000 + q)) = some (.row (strE (f q)) tStr 1 true) := fun q h1 h2 => by rw [look_putO, if_neg (by simp), hR q h1 h2]
    clear hB hL hR
    generalize Zat L (.b 0) (.box ((stm l (k' + 1)).map .p) T) = L1 at *
    have hf31 : ∀ q, q < i + 1 → (f q).length ≤ 31 ∧ ∀ s ∈ f q, s.length ≤ 100 := fun q hq => ⟨by have := (hf q hq).1; omega, (hf q hq).2⟩
    simp only [ZZ, YY, Ze, ite_true, ite_false, forall_const, reduceCtorEq, Nat.reduceAdd, Nat.reduceMul, Nat.reduceLeDiff, Nat.reduceLT, Nat.reduceEqDiff]
    refine br ?_ ?_
    · intro _
      simp only [ZZ, YY, Ze, ite_true, ite_false, forall_const, reduceCtorEq, Nat.reduceAdd, Nat.reduceMul, Nat.reduceLeDiff, Nat.reduceLT, Nat.reduceEqDiff]
      ((repeat' (with_reducible apply And.intro)) <;> try ((first | first | assumption | trivial | exact (fun hq => by rw [hq]; rfl) | exact i64_of (by omega) (by omega) | omega | (simp; done) | (simp; omega) | (intro hsc; have hs0 := hsc; (try have hsd := of_decide_eq_true hsc); (try simp only [Bool.not_eq_true', Bool.or_eq_false_iff, Bool.and_eq_true, Bool.or_eq_true, decide_eq_true_eq, decide_eq_false_iff_not] at hsc); (repeat' (with_reducible apply And.intro)) <;> (first | assumption | trivial | exact (fun hq => by rw [hq]; rfl) | exact i64_of (by omega) (by omega) | omega | (simp; done) | (simp; omega) | (intro hse; simp [hse, hs0]; done) | (intro hse; simp only [hse, hs0, Bool.true_and, Bool.and_true, Bool.not_false, Bool.not_true, Bool.and_self]; done))))))
      refine useS (Pick_ok l (k' + 1) [0, n, n + 1, 31] (by omega) hl (by simp) (by simp)) hB1 rfl rfl (by simp only [ZZ, YY, Ze, ite_true, ite_false, forall_const, reduceCtorEq, Nat.reduceAdd, Nat.reduceMul, Nat.reduceLeDiff, Nat.reduceLT, Nat.reduceEqDiff]) ?_
      rintro x cs' ⟨y, rfl, hy, rfl⟩
      have hyb : 0 ≤ y ∧ y ≤ 31 := by simp at hy; omega
      obtain ⟨z, rfl⟩ := Int.eq_ofNat_of_zero_le hyb.1
      have hz1 : (((z : Nat) : Int)).toNat = z := Int.toNat_natCast _
      have hrp : List.replicate z [PV.str []] = strE (List.replicate z []) := by simp [strE]
      simp only [ZZ, YY, Ze, ite_true, ite_false, forall_const, reduceCtorEq, Nat.reduceAdd, Nat.reduceMul, Nat.reduceLeDiff, Nat.reduceLT, Nat.reduceEqDiff, hz1, hrp, look_putO, look_killO, hL1, liveC_kill (show 55 < 1000 by omega), liveC_kill (show 56 < 1000 by omega), liveC_kill (show 16 < 1000 by omega), liveC_len]
      ((repeat' (with_reducible apply And.intro)) <;> try ((first | first | assumption | trivial | exact (fun hq => by rw [hq]; rfl) | exact i64_of (by omega) (by omega) | omega | (simp; done) | (simp; omega) | (intro hsc; have hs0 := hsc; (try have hsd := of_decide_eq_true hsc); (try simp only [Bool.not_eq_true', Bool.or_eq_false_iff, Bool.and_eq_true, Bool.or_eq_true, decide_eq_true_eq, decide_eq_false_iff_not] at hsc); (repeat' (with_reducible apply And.intro)) <;> (first | assumption | trivial | exact (fun hq => by rw [hq]; rfl) | exact i64_of (by omega) (by omega) | omega | (simp; done) | (simp; omega) | (intro hse; simp [hse, hs0]; done) | (intro hse; simp only [hse, hs0, Bool.true_and, Bool.and_true, Bool.not_false, Bool.not_true, Bool.and_self]; done))))))
      generalize hLL : Zat (Zau (Key.l 16) _) (Key.l 16) _ = LL
      have hk16 : (16 = 1000 + (i + 1)) = False := by simp; omega
      obtain ⟨L2, t1, t2, t3⟩ := hth (i + 1 + 1) (fun q => if q = i + 1 then List.replicate z [] else f q) (k' + 1 + 1) (mapO (r1 55 (1000 + (i + 1))) LL) ⟨by
        rw [← hLL, look_ren1, if_neg (by simp; omega), if_neg (by simp), look_putO, if_pos rfl]
        simp only [Option.map_some, AO.ren]
        exact congrArg (fun c => some (AO.rowv c tStrs 1)) ((liveC_ren (by omega) (by omega)).trans (liveC_ext fun q hq => absurd hq (by omega))), fun q h1 h2 => by
        rw [← hLL, look_ren1]
        by_cases hqi : q = i + 1
        · subst hqi
          rw [if_pos rfl, look_putO, if_neg (by simp), look_killO, look_putO, if_neg (by simp), look_killO, look_putO, if_pos rfl]
          simp only [if_pos]
          rfl
        · rw [if_neg (by simp; omega), if_neg (by simp; omega), look_putO, if_neg (by simp; omega), look_killO, look_putO, if_neg (by simp; omega), look_killO, look_putO, if_neg (by simp; omega), look_killO, look_putO, if_neg (by simp), hR1 q h1 (by omega)]
          simp only [if_neg hqi]
          rfl⟩ (by
        rw [← hLL, look_ren1, if_neg (by simp), if_neg (by simp), look_putO, if_neg (by simp), look_killO, look_putO, if_neg (by simp), look_killO, look_putO, if_neg (by simp), look_killO, look_putO, if_pos rfl]
        rfl)
      refine cut_re [.adr (.b 0) 0, .any, .any, .any, .any, .row (.l 16), .any, .any, .any, .any, .any, .any, .any, .any, .any, .any, .any, .any, .any, .any, .any, .any, .any, .any, .any, .any, .any, .any, .any, .any, .any, .any, .any, .any, .any, .any, .any, .any, .any, .any, .any, .any, .any, .any, .any, .any, .any, .any, .any, .any, .any, .any, .any, .any, .any, .any, .any, .any, .any, .any, .any, .any, .any, .any, .any, .any, .any, .any, .any, .any, .any, .any, .any, .any, .any, .any, .any, .any, .any, .any, .any, .any, .any, .any, .any, .any, .any, .any, .any, .any, .any] L2 (ReOk.trans (re_ren 55 (1000 + (i + 1))) (ReOk.trans (re_le (by simp only [AV.ren, r1, hk16, ZZ, YY, Ze, ite_true, ite_false, forall_const, reduceCtorEq, Nat.reduceAdd, Nat.reduceMul, Nat.reduceLeDiff, Nat.reduceLT, Nat.reduceEqDiff]; try trivial)) t1)) ?_
      simp only [ZZ, YY, Ze, ite_true, ite_false, forall_const, reduceCtorEq, Nat.reduceAdd, Nat.reduceMul, Nat.reduceLeDiff, Nat.reduceLT, Nat.reduceEqDiff, t2]
      exact fin_S (stm l (k' + 1 + 1)) t3 ⟨_, _, rfl, tabS_of (by omega) (fun q hq => by
        by_cases hqi : q = i + 1
        · simp only [if_pos hqi, List.length_replicate]
          exact ⟨by omega, fun s hs => by rw [List.eq_of_mem_replicate hs]; simp⟩
        · simp only [if_neg hqi]; exact hf31 q (by omega)), rfl, by omega⟩
    · intro _
      simp only [ZZ, YY, Ze, ite_true, ite_false, forall_const, reduceCtorEq, Nat.reduceAdd, Nat.reduceMul, Nat.reduceLeDiff, Nat.reduceLT, Nat.reduceEqDiff]
      refine br ?_ ?_
      · intro _
        simp only [ZZ, YY, Ze, ite_true, ite_false, forall_const, reduceCtorEq, Nat.reduceAdd, Nat.reduceMul, Nat.reduceLeDiff, Nat.reduceLT, Nat.reduceEqDiff]
        refine drg0 ?_
        have hc0 := liveC_get (f := f) (n := i + 1) (m := 0) (show 0 < i + 1 by omega)
        rw [if_neg (by omega)] at hc0
        have hc0 : (liveC f (i + 1) 0).getD (Int.toNat 0) [] = [AV.row (.l 1000)] := hc0
        simp only [ZZ, YY, Ze, ite_true, ite_false, forall_const, reduceCtorEq, Nat.reduceAdd, Nat.reduceMul, Nat.reduceLeDiff, Nat.reduceLT, Nat.reduceEqDiff, hL1, hc0, liveC_len]
        ((repeat' (with_reducible apply And.intro)) <;> try ((first | first | assumption | trivial | exact (fun hq => by rw [hq]; rfl) | exact i64_of (by omega) (by omega) | omega | (simp; done) | (simp; omega) | (intro hsc; have hs0 := hsc; (try have hsd := of_decide_eq_true hsc); (try simp only [Bool.not_eq_true', Bool.or_eq_false_iff, Bool.and_eq_true, Bool.or_eq_true, decide_eq_true_eq, decide_eq_false_iff_not] at hsc); (repeat' (with_reducible apply And.intro)) <;> (first | assumption | trivial | exact (fun hq => by rw [hq]; rfl) | exact i64_of (by omega) (by omega) | omega | (simp; done) | (simp; omega) | (intro hse; simp [hse, hs0]; done) | (intro hse; simp only [hse, hs0, Bool.true_and, Bool.and_true, Bool.not_false, Bool.not_true, Bool.and_self]; done))))))
        refine useD (Next_ok l (k' + 1) n (by omega) hl (by omega)) ⟨_, _, 0, rfl, rfl⟩ hB1 rfl rfl (by simp only [ZZ, YY, Ze, ite_true, ite_false, forall_const, reduceCtorEq, Nat.reduceAdd, Nat.reduceMul, Nat.reduceLeDiff, Nat.reduceLT, Nat.reduceEqDiff]) (fun _ => ⟨0, rfl⟩) ?_
        rintro x cs' ⟨y, rfl, rfl⟩
        obtain ⟨j, hj, hy⟩ := below_idx y n (by omega)
        rw [hy]
        simp only [ZZ, YY, Ze, ite_true, ite_false, forall_const, reduceCtorEq, Nat.reduceAdd, Nat.reduceMul, Nat.reduceLeDiff, Nat.reduceLT, Nat.reduceEqDiff]
        refine useD (one_ok l (k' + 1 + 1) [[105, 100], [97], [122]] (by omega) hl (by simp) (by simp)) ⟨_, _, [97], rfl, by simp, rfl⟩ (by rw [look_putO, if_pos rfl]) rfl rfl (by simp only [ZZ, YY, Ze, ite_true, ite_false, forall_const, reduceCtorEq, Nat.reduceAdd, Nat.reduceMul, Nat.reduceLeDiff, Nat.reduceLT, Nat.reduceEqDiff]) (fun _ => ⟨0, rfl⟩) ?_
        rintro x cs' ⟨u, rfl, hu, rfl⟩
        have hul : u.length ≤ 100 := Nat.le_trans ((show ∀ s ∈ ([[105, 100], [97], [122]] : SRow), s.length ≤ 4 by decide) u hu) (by omega)
        have hf0 := (hf 0 (by omega)).1
        have hl0 : Zas L1 (.l 1000) = some (.row (strE (f 0)) tStr 1 true) := hR1 0 (by omega) (by omega)
        have hset : (strE (f 0)).set j (((strE (f 0)).getD j []).set 0 (.str u)) = strE ((f 0).set j u) := by
          rw [strE_get (List.getElem?_eq_getElem (show j < (f 0).length by omega)), strE, strE, List.map_set]
          rfl
        simp only [ZZ, YY, Ze, ite_true, ite_false, forall_const, reduceCtorEq, Nat.reduceAdd, Nat.reduceMul, Nat.reduceLeDiff, Nat.reduceLT, Nat.reduceEqDiff, look_putO, hl0, strE_len, hf0, hset]
        ((repeat' (with_reducible apply And.intro)) <;> try ((first | first | assumption | trivial | exact (fun hq => by rw [hq]; rfl) | exact i64_of (by omega) (by omega) | omega | (simp; done) | (simp; omega) | (intro hsc; have hs0 := hsc; (try have hsd := of_decide_eq_true hsc); (try simp only [Bool.not_eq_true', Bool.or_eq_false_iff, Bool.and_eq_true, Bool.or_eq_true, decide_eq_true_eq, decide_eq_false_iff_not] at hsc); (repeat' (with_reducible apply And.intro)) <;> (first | assumption | trivial | exact (fun hq => by rw [hq]; rfl) | exact i64_of (by omega) (by omega) | omega | (simp; done) | (simp; omega) | (intro hse; simp [hse, hs0]; done) | (intro hse; simp only [hse, hs0, Bool.true_and, Bool.and_true, Bool.not_false, Bool.not_true, Bool.and_self]; done))))))
        obtain ⟨L2, t1, t2, t3⟩ := hth (i + 1) (fun q => if q = 0 then (f 0).set j u else f q) (k' + 1 + 1 + 1) (Zat (Zat (Zat L1 (.b 0) (.box ((stm l (k' + 1 + 1)).map .p) T)) (.b 0) (.box ((stm l (k' + 1 + 1 + 1)).map .p) T)) (.l 1000) (.row (strE ((f 0).set j u)) tStr 1 true)) ⟨by
          rw [look_putO, if_neg (by simp), look_putO, if_neg (by simp), look_putO, if_neg (by simp), hL1]
          exact congrArg (fun c => some (AO.rowv c tStrs 1)) (liveC_ext fun q hq => absurd hq (by omega)), fun q h1 h2 => by
          rw [look_putO]
          by_cases hq0 : q = 0
          · subst hq0; rw [if_pos rfl]; rfl
          · rw [if_neg (by simp; omega), look_putO, if_neg (by simp), look_putO, if_neg (by simp), hR1 q h1 h2]; simp only [if_neg hq0]⟩ (by
          rw [look_putO, if_neg (by simp), look_putO, if_pos rfl])
        refine cut_re [.adr (.b 0) 0, .any, .any, .any, .any, .row (.l 16), .any, .any, .any, .any, .any, .any, .any, .any, .any, .any, .any, .any, .any, .any, .any, .any, .any, .any, .any, .any, .any, .any, .any, .any, .any, .any, .any, .any, .any, .any, .any, .any, .any, .any, .any, .any, .any, .any, .any, .any, .any, .any, .any, .any, .any, .any, .any, .any, .any, .any, .any, .any, .any, .any, .any, .any, .any, .any, .any, .any, .any, .any, .any, .any, .any, .any, .any, .any, .any, .any, .any, .any, .any, .any, .any, .any, .any, .any, .any, .any, .any, .any, .any, .any, .any] L2 (ReOk.trans (re_le (by simp only [ZZ, YY, Ze, ite_true, ite_false, forall_const, reduceCtorEq, Nat.reduceAdd, Nat.reduceMul, Nat.reduceLeDiff, Nat.reduceLT, Nat.reduceEqDiff]; try trivial)) t1) ?_
        simp only [ZZ, YY, Ze, ite_true, ite_false, forall_const, reduceCtorEq, Nat.reduceAdd, Nat.reduceMul, Nat.reduceLeDiff, Nat.reduceLT, Nat.reduceEqDiff, t2]
        exact fin_S (stm l (k' + 1 + 1 + 1)) t3 ⟨_, _, rfl, tabS_of (by omega) (fun q hq => by
          by_cases hq0 : q = 0
          · subst hq0
            simp only [if_pos, List.length_set]
            exact ⟨(hf31 0 hq).1, fun s hs => by
              rcases List.mem_or_eq_of_mem_set hs with h | h
              · exact (hf31 0 hq).2 s h
              · rw [h]; exact hul⟩
          · simp only [if_neg hq0]; exact hf31 q hq), rfl, by omega⟩
      · intro _
        simp only [ZZ, YY, Ze, ite_true, ite_false, forall_const, reduceCtorEq, Nat.reduceAdd, Nat.reduceMul, Nat.reduceLeDiff, Nat.reduceLT, Nat.reduceEqDiff]
        refine br ?_ ?_
        · intro _
          simp only [ZZ, YY, Ze, ite_true, ite_false, forall_const, reduceCtorEq, Nat.reduceAdd, Nat.reduceMul, Nat.reduceLeDiff, Nat.reduceLT, Nat.reduceEqDiff, hL1, liveC_len]
          ((repeat' (with_reducible apply And.intro)) <;> try ((first | first | assumption | trivial | exact (fun hq => by rw [hq]; rfl) | exact i64_of (by omega) (by omega) | omega | (simp; done) | (simp; omega) | (intro hsc; have hs0 := hsc; (try have hsd := of_decide_eq_true hsc); (try simp only [Bool.not_eq_true', Bool.or_eq_false_iff, Bool.and_eq_true, Bool.or_eq_true, decide_eq_true_eq, decide_eq_false_iff_not] at hsc); (repeat' (with_reducible apply And.intro)) <;> (first | assumption | trivial | exact (fun hq => by rw [hq]; rfl) | exact i64_of (by omega) (by omega) | omega | (simp; done) | (simp; omega) | (intro hse; simp [hse, hs0]; done) | (intro hse; simp only [hse, hs0, Bool.true_and, Bool.and_true, Bool.not_false, Bool.not_true, Bool.and_self]; done))))))
          refine useS (Next_ok l (k' + 1) (i + 1 : Nat) (by omega) hl (by omega)) hB1 rfl rfl (by simp only [ZZ, YY, Ze, ite_true, ite_false, forall_const, reduceCtorEq, Nat.reduceAdd, Nat.reduceMul, Nat.reduceLeDiff, Nat.reduceLT, Nat.reduceEqDiff]) ?_
          rintro x cs' ⟨y, rfl, rfl⟩
          obtain ⟨j, hj, hy⟩ := below_idx y (i + 1) (by omega)
          rw [hy]
          have hcj := liveC_get (f := f) (n := i + 1) (m := 0) hj
          rw [if_neg (show ¬ j < 0 by omega)] at hcj
          have hlj := hR1 j (by omega) hj
          have hfj := (hf j hj).1
          obtain ⟨kj, hkj⟩ : ∃ q, q = 1000 + j := ⟨_, rfl⟩
          rw [← hkj] at hcj hlj
          simp only [ZZ, YY, Ze, ite_true, ite_false, forall_const, reduceCtorEq, Nat.reduceAdd, Nat.reduceMul, Nat.reduceLeDiff, Nat.reduceLT, Nat.reduceEqDiff, look_putO, hL1, hcj, liveC_len, hlj, strE_len, hfj]
          ((repeat' (with_reducible apply And.intro)) <;> try ((first | first | assumption | trivial | exact (fun hq => by rw [hq]; rfl) | exact i64_of (by omega) (by omega) | omega | (simp; done) | (simp; omega) | (intro hsc; have hs0 := hsc; (try have hsd := of_decide_eq_true hsc); (try simp only [Bool.not_eq_true', Bool.or_eq_false_iff, Bool.and_eq_true, Bool.or_eq_true, decide_eq_true_eq, decide_eq_false_iff_not] at hsc); (repeat' (with_reducible apply And.intro)) <;> (first | assumption | trivial | exact (fun hq => by rw [hq]; rfl) | exact i64_of (by omega) (by omega) | omega | (simp; done) | (simp; omega) | (intro hse; simp [hse, hs0]; done) | (intro hse; simp only [hse, hs0, Bool.true_and, Bool.and_true, Bool.not_false, Bool.not_true, Bool.and_self]; done))))))
          refine useS (Next_ok l (k' + 1 + 1) n (by omega) hl (by omega)) (by rw [look_putO, if_pos rfl]) rfl rfl (by simp only [ZZ, YY, Ze, ite_true, ite_false, forall_const, reduceCtorEq, Nat.reduceAdd, Nat.reduceMul, Nat.reduceLeDiff, Nat.reduceLT, Nat.reduceEqDiff]) ?_
          rintro x cs' ⟨y, rfl, rfl⟩
          obtain ⟨j2, hj2, hy⟩ := below_idx y n (by omega)
          rw [hy]
          simp only [ZZ, YY, Ze, ite_true, ite_false, forall_const, reduceCtorEq, Nat.reduceAdd, Nat.reduceMul, Nat.reduceLeDiff, Nat.reduceLT, Nat.reduceEqDiff]
          refine useS (one_ok l (k' + 1 + 1 + 1) [[97, 9, 98], [255], [107, 97]] (by omega) hl (by simp) (by simp)) (by rw [look_putO, if_pos rfl]) rfl rfl (by simp only [ZZ, YY, Ze, ite_true, ite_false, forall_const, reduceCtorEq, Nat.reduceAdd, Nat.reduceMul, Nat.reduceLeDiff, Nat.reduceLT, Nat.reduceEqDiff]) ?_
          rintro x cs' ⟨u, rfl, hu, rfl⟩
          have hul : u.length ≤ 100 := Nat.le_trans ((show ∀ s ∈ ([[97, 9, 98], [255], [107, 97]] : SRow), s.length ≤ 4 by decide) u hu) (by omega)
          have hset : (strE (f j)).set j2 (((strE (f j)).getD j2 []).set 0 (.str u)) = strE ((f j).set j2 u) := by
            rw [strE_get (List.getElem?_eq_getElem (show j2 < (f j).length by omega)), strE, strE, List.map_set]
            rfl
          simp only [ZZ, YY, Ze, ite_true, ite_false, forall_const, reduceCtorEq, Nat.reduceAdd, Nat.reduceMul, Nat.reduceLeDiff, Nat.reduceLT, Nat.reduceEqDiff, look_putO, hlj, strE_len, hfj, hset]
          ((repeat' (with_reducible apply And.intro)) <;> try ((first | first | assumption | trivial | exact (fun hq => by rw [hq]; rfl) | exact i64_of (by omega) (by omega) | omega | (simp; done) | (simp; omega) | (intro hsc; have hs0 := hsc; (try have hsd := of_decide_eq_true hsc); (try simp only [Bool.not_eq_true', Bool.or_eq_false_iff, Bool.and_eq_true, Bool.or_eq_true, decide_eq_true_eq, decide_eq_false_iff_not] at hsc); (repeat' (with_reducible apply And.intro)) <;> (first | assumption | trivial | exact (fun hq => by rw [hq]; rfl) | exact i64_of (by omega) (by omega) | omega | (simp; done) | (simp; omega) | (intro hse; simp [hse, hs0]; done) | (intro hse; simp only [hse, hs0, Bool.true_and, Bool.and_true, Bool.not_false, Bool.not_true, Bool.and_self]; done))))))
          generalize hLL : Zat (Zat _ (Key.b 0) _) (Key.l kj) _ = LL
          obtain ⟨L2, t1, t2, t3⟩ := hth (i + 1) (fun q => if q = j then (f j).set j2 u else f q) (k' + 1 + 1 + 1 + 1) LL ⟨by
            rw [← hLL, look_putO, if_neg (by simp; omega), look_putO, if_neg (by simp), look_putO, if_neg (by simp), look_putO, if_neg (by simp), hL1]
            exact congrArg (fun c => some (AO.rowv c tStrs 1)) (liveC_ext fun q hq => absurd hq (by omega)), fun q h1 h2 => by
            rw [← hLL, look_putO]
            by_cases hq0 : q = j
            · rw [if_pos (by rw [hq0, hkj])]; simp only [if_pos hq0]
            · rw [if_neg (by simp; omega), look_putO, if_neg (by simp), look_putO, if_neg (by simp), look_putO, if_neg (by simp), hR1 q h1 h2]; simp only [if_neg hq0]⟩ (by
            rw [← hLL, look_putO, if_neg (by simp), look_putO, if_pos rfl])
          refine cut_re [.adr (.b 0) 0, .any, .any, .any, .any, .row (.l 16), .any, .any, .any, .any, .any, .any, .any, .any, .any, .any, .any, .any, .any, .any, .any, .any, .any, .any, .any, .any, .any, .any, .any, .any, .any, .any, .any, .any, .any, .any, .any, .any, .any, .any, .any, .any, .any, .any, .any, .any, .any, .any, .any, .any, .any, .any, .any, .any, .any, .any, .any, .any, .any, .any, .any, .any, .any, .any, .any, .any, .any, .any, .any, .any, .any, .any, .any, .any, .any, .any, .any, .any, .any, .any, .any, .any, .any, .any, .any, .any, .any, .any, .any, .any, .any] L2 (ReOk.trans (re_le (by simp only [ZZ, YY, Ze, ite_true, ite_false, forall_const, reduceCtorEq, Nat.reduceAdd, Nat.reduceMul, Nat.reduceLeDiff, Nat.reduceLT, Nat.reduceEqDiff]; try trivial)) t1) ?_
          simp only [ZZ, YY, Ze, ite_true, ite_false, forall_const, reduceCtorEq, Nat.reduceAdd, Nat.reduceMul, Nat.reduceLeDiff, Nat.reduceLT, Nat.reduceEqDiff, t2]
          exact fin_S (stm l (k' + 1 + 1 + 1 + 1)) t3 ⟨_, _, rfl, tabS_of (by omega) (fun q hq => by
            by_cases hq0 : q = j
            · simp only [if_pos hq0, List.length_set]
              exact ⟨(hf31 j hj).1, fun s hs => by
                rcases List.mem_or_eq_of_mem_set hs with h | h
                · exact (hf31 j hj).2 s h
                · rw [h]; exact hul⟩
            · simp only [if_neg hq0]; exact hf31 q hq), rfl, by omega⟩
        · intro _
          simp only [ZZ, YY, Ze, ite_true, ite_false, forall_const, reduceCtorEq, Nat.reduceAdd, Nat.reduceMul, Nat.reduceLeDiff, Nat.reduceLT, Nat.reduceEqDiff]
          refine br ?_ ?_
          · intro _
            simp only [ZZ, YY, Ze, ite_true, ite_false, forall_const, reduceCtorEq, Nat.reduceAdd, Nat.reduceMul, Nat.reduceLeDiff, Nat.reduceLT, Nat.reduceEqDiff]
            refine cut_re _ _ ReOk.refl ?_
            simp only [ZZ, YY, Ze, ite_true, ite_false, forall_const, reduceCtorEq, Nat.reduceAdd, Nat.reduceMul, Nat.reduceLeDiff, Nat.reduceLT, Nat.reduceEqDiff, look_putO]
            exact fin_S (stm l (k' + 1)) (by rw [look_putO, if_neg (by simp), look_killO, hB1]; rfl) ⟨[], _, rfl, ⟨by simp, by simp⟩, rfl, by omega⟩
          · intro _
            simp only [ZZ, YY, Ze, ite_true, ite_false, forall_const, reduceCtorEq, Nat.reduceAdd, Nat.reduceMul, Nat.reduceLeDiff, Nat.reduceLT, Nat.reduceEqDiff]
            obtain ⟨L2, r1, r2, r3⟩ := hth (i + 1) f (k' + 1) _ ⟨hL1, hR1⟩ hB1
            refine cut_re [.adr (.b 0) 0, .any, .any, .any, .any, .row (.l 16), .any, .any, .any, .any, .any, .any, .any, .any, .any, .any, .any, .any, .any, .any, .any, .any, .any, .any, .any, .any, .any, .any, .any, .any, .any, .any, .any, .any, .any, .any, .any, .any, .any, .any, .any, .any, .any, .any, .any, .any, .any, .any, .any, .any, .any, .any, .any, .any, .any, .any, .any, .any, .any, .any, .any, .any, .any, .any, .any, .any, .any, .any, .any, .any, .any, .any, .any, .any, .any, .any, .any, .any, .any, .any, .any, .any, .any, .any, .any, .any, .any, .any, .any, .any, .any] L2 (ReOk.trans (re_le (by simp only [ZZ, YY, Ze, ite_true, ite_false, forall_const, reduceCtorEq, Nat.reduceAdd, Nat.reduceMul, Nat.reduceLeDiff, Nat.reduceLT, Nat.reduceEqDiff]; try trivial)) r1) ?_
            simp only [ZZ, YY, Ze, ite_true, ite_false, forall_const, reduceCtorEq, Nat.reduceAdd, Nat.reduceMul, Nat.reduceLeDiff, Nat.reduceLT, Nat.reduceEqDiff, r2]
            exact fin_S (stm l (k' + 1)) r3 ⟨_, _, rfl, tabS_of (by omega) hf31, rfl, by omega⟩
end Go.Proofs.YthfpehmbellmcaaDoor
