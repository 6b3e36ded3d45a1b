
/- Own texts, put together: N1 N2 T3 T4 T5 T6 T7 T9 E1 P6. -/
import Derived.Test.YtejekkhhpkeckaaGreatDoorZ7
import Derived.Test.YtejekkhhpkeckaaGreatDoorLaySplit
import Derived.Lib.SplitLaws
import Derived.Test.YtejekkhhpkeckaaGreatDoorLayTrim
import Derived.Test.YtejekkhhpkeckaaGreatDoorLayLastIndexByte
import Derived.Lib.LastIndexByte
import Derived.Test.YtejekkhhpkeckaaGreatDoorZ4
import Derived.Test.YtejekkhhpkeckaaGreatDoorLayLastIndex
import Derived.Test.YtejekkhhpkeckaaGreatDoorZ8
import Derived.Test.YtejekkhhpkeckaaGreatDoorZ3
/- strings.Split at one byte: its pieces. -/
namespace Go.Proofs.YtejekkhhpkeckaaGreatDoor
open Go.RowKit
set_option linter.unusedVariables false
set_option linter.unusedSimpArgs false
set_option linter.defProp false

/-- Pieces. -/
def splF (s : List UInt8) (c : UInt8) : List (List UInt8) := (Lib.splitB ⟨#[c]⟩ 0 (Lib.countB ⟨s.toArray⟩ ⟨#[c]⟩) ⟨s.toArray⟩).map (·.data.toList)
theorem splitB_sizes (sep : ByteArray) : ∀ (k : Nat) (s : ByteArray), (Lib.splitB sep 0 k s).length ≤ k + 1 ∧ ∀ x ∈ Lib.splitB sep 0 k s, x.size ≤ s.size := by
  intro k
  induction k with
  | zero => intro s; simp [Lib.splitB]
  | succ k ih =>
    intro s
    unfold Lib.splitB
    split
    · simp
    · have := ih (s.extract ((Lib.indexB s sep).toNat + sep.size) s.size)
      refine ⟨by simp; omega, fun x hx => ?_⟩
      simp only [List.mem_cons] at hx
      rcases hx with rfl | hx
      · simp; omega
      · have := this.2 x hx; simp at this; omega
theorem splF_len (s : List UInt8) (c : UInt8) : (splF s c).length ≤ s.length + 1 := by
  have h1 := (splitB_sizes ⟨#[c]⟩ (Lib.countB ⟨s.toArray⟩ ⟨#[c]⟩) ⟨s.toArray⟩).1
  have h2 := Lib.countB_le ⟨#[c]⟩ (Nat.le_refl 1) (⟨s.toArray⟩ : ByteArray).size ⟨s.toArray⟩ (Nat.le_refl _)
  rw [ba_size] at h2
  simp only [splF, List.length_map]
  omega
theorem splF_mem (s : List UInt8) (c : UInt8) : ∀ x ∈ splF s c, x.length ≤ s.length := by
  intro x hx
  simp only [splF, List.mem_map] at hx
  obtain ⟨y, hy, rfl⟩ := hx
  have := (splitB_sizes ⟨#[c]⟩ (Lib.countB ⟨s.toArray⟩ ⟨#[c]⟩) ⟨s.toArray⟩).2 y hy
  rw [ba_size] at this
  rw [Array.length_toList]
  exact this
theorem repE_strs' {w : World} {U : Nat → Prop} {b : Nat} : ∀ (l : List ByteArray) (off : Nat), (∀ i x, l[i]? = some x → w.cell? ⟨b, off + i, none⟩ = some (.string x)) → PRepE w U b 1 off ((l.map (·.data.toList)).map fun x => [.str x])
  | [], off, h => trivial
  | x :: r, off, h => by
    refine ⟨rfl, ⟨⟨.string x, by simpa using h 0 _ rfl, rfl, ?_⟩, trivial⟩, repE_strs' r (off + 1) fun i u hu => ?_⟩
    · simp [PRep]
    · have := h (i + 1) u (by simpa using hu)
      rwa [show off + (i + 1) = off + 1 + i from by omega] at this
theorem splInfo : (Tryz.prog.info? 9).map (fun i => (i.zero, i.size, i.bytes)) = some (some (.string ByteArray.empty), 1, 16) := by kernel_rfl
theorem Split_ok (s : List UInt8) (c : UInt8) (hs : s.length ≤ 1000000000) : PCall Tryz.prog E0 43 [.str s, .str [c]] (· = strs (splF s c)) := by
  intro w U vs hU hE hEb hA
  obtain ⟨_, m, hm⟩ := hE
  simp only [PRepL, PRep] at hA
  obtain ⟨v, r, rfl, rfl, v2, r2, rfl, rfl, rfl⟩ := hA
  refine (Any.strings_Split Tryz.laySplit splInfo ⟨s.toArray⟩ ⟨#[c]⟩ m w (by rw [ba_size]; omega) hm (Nat.le_refl 1)).mono ?_
  rintro e w' ⟨rfl, rfl⟩
  have hl := Lib.splitB_all ⟨#[c]⟩ (Nat.le_refl 1) 0 _ (⟨s.toArray⟩ : ByteArray) rfl
  refine ⟨_, _, rfl, rfl, ?_, ⟨rfl, rfl, rfl, by simp, fun k hk _ => Lib.alloc_old w _ k hk⟩⟩
  have hln : (List.map (fun x => [PV.str x]) (splF s c)).length = Lib.countB ⟨s.toArray⟩ ⟨#[c]⟩ + 1 := by simp [splF, hl]
  refine ⟨some ⟨w.heap.size, 0, none⟩, Lib.countB ⟨s.toArray⟩ ⟨#[c]⟩ + 1, by rw [hln], by rw [hln]; exact Nat.le_refl _, fun _ => ⟨w.heap.size, 0, rfl, by simp, fun h => by have := hU _ h; omega, ?_⟩⟩
  · refine repE_strs' _ 0 fun i x hx => ?_
    rw [Lib.cell_of_heap (heap_alloc_new w _)]
    simp [hx]
end Go.Proofs.YtejekkhhpkeckaaGreatDoor

/- Pieces of strings between bytes, in plain Lean. -/
namespace Go.Proofs.YtejekkhhpkeckaaGreatDoor
open Go.RowKit
set_option linter.unusedVariables false
set_option linter.unusedSimpArgs false
set_option linter.defProp false

/-- The pieces of a string between bytes c. -/
def sp (c : UInt8) : List UInt8 → List (List UInt8)
  | [] => [[]]
  | x :: s => if x = c then [] :: sp c s else (x :: (sp c s).headD []) :: (sp c s).tail
theorem sp_ne (c : UInt8) (s : List UInt8) : sp c s ≠ [] := by
  cases s with
  | nil => simp [sp]
  | cons x s => unfold sp; split <;> simp
theorem split_miss {s : List UInt8} {c : UInt8} (h : Lib.index s [c] = -1) : Lib.split s [c] = [s] := by
  unfold Lib.split
  rw [Lib.count_miss h]
  rfl
theorem split_hit {s : List UInt8} {c : UInt8} {i : Nat} (h : Lib.index s [c] = i) : Lib.split s [c] = s.take i :: Lib.split (s.drop (i + 1)) [c] := by
  unfold Lib.split
  rw [Lib.count_hit (by simp) h, Nat.add_comm, Lib.splitK, if_neg (by rw [h]; simp), h]
  simp
theorem split_sp (c : UInt8) : ∀ s : List UInt8, Lib.split s [c] = sp c s := by
  intro s
  induction s with
  | nil => rw [split_miss (by rfl)]; rfl
  | cons x s ih =>
    by_cases hx : x = c
    · subst hx
      have h0 : Lib.index (x :: s) [x] = ((0 : Nat) : Int) := by rw [Lib.index_one]; simp [Lib.indexByte]
      rw [split_hit h0, sp, if_pos rfl, ← ih]
      simp
    · have hi : Lib.index (x :: s) [c] = if Lib.index s [c] = -1 then -1 else Lib.index s [c] + 1 := by
        rw [Lib.index_one, Lib.index_one, Lib.indexByte]
        simp [hx]
      rw [sp, if_neg hx, ← ih]
      by_cases hm : Lib.index s [c] = -1
      · rw [if_pos hm] at hi
        rw [split_miss hi, split_miss hm]
        rfl
      · rw [if_neg hm] at hi
        have hge := Lib.indexByte_ge s c
        rw [← Lib.index_one] at hge
        obtain ⟨i, hi2⟩ : ∃ i : Nat, Lib.index s [c] = i := ⟨(Lib.index s [c]).toNat, by omega⟩
        rw [hi2] at hi
        rw [split_hit (i := i + 1) (by rw [hi]; simp), split_hit hi2]
        simp
theorem splF_sp (s : List UInt8) (c : UInt8) : splF s c = sp c s := by
  rw [← split_sp]
  unfold splF Lib.split
  rw [Lib.splitB_data]
theorem sp_app (c : UInt8) (b : List UInt8) : ∀ a : List UInt8, sp c (a ++ c :: b) = sp c a ++ sp c b := by
  intro a
  induction a with
  | nil => simp [sp]
  | cons x a ih =>
    rw [List.cons_append, sp, sp, ih]
    split
    · simp
    · have := sp_ne c a
      cases h : sp c a with
      | nil => exact absurd h this
      | cons y r => simp
/-- What pieces weigh: their bytes, and one more for each. -/
def wgt : List (List UInt8) → Nat
  | [] => 0
  | x :: r => x.length + 1 + wgt r
theorem wgt_app (a b : List (List UInt8)) : wgt (a ++ b) = wgt a + wgt b := by
  induction a with
  | nil => simp [wgt]
  | cons x a ih => simp only [List.cons_append, wgt, ih]; omega
theorem wgt_len (a : List (List UInt8)) : a.length ≤ wgt a := by
  induction a with
  | nil => simp
  | cons x a ih => simp only [wgt, List.length_cons]; omega
theorem sp_wgt (c : UInt8) : ∀ s : List UInt8, wgt (sp c s) = s.length + 1 := by
  intro s
  induction s with
  | nil => simp [sp, wgt]
  | cons y s ih =>
    rw [sp]
    split
    · simp only [wgt, ih, List.length_cons, List.length_nil]; omega
    · cases h : sp c s with
      | nil => exact absurd h (sp_ne c s)
      | cons z r =>
        rw [h] at ih
        simp only [wgt, List.headD_cons, List.tail_cons, List.length_cons] at ih ⊢
        omega
end Go.Proofs.YtejekkhhpkeckaaGreatDoor

/- How a line is cut into pieces for pages: plain Lean. -/
namespace Go.Proofs.YtejekkhhpkeckaaGreatDoor
open Go.RowKit
set_option linter.unusedVariables false
set_option linter.unusedSimpArgs false
set_option linter.defProp false

/-- A byte that goes on a code point. -/
def ctB (c : UInt8) : Bool := decide (c.toNat / 64 = 2)
/-- Of four bytes in a row one begins a code point. -/
def NcP (l : List UInt8) : Prop := ∀ i, i + 3 < l.length → ∃ j, j ≤ 3 ∧ ctB (l.getD (i + j) 0) = false
theorem nc_drop {l : List UInt8} (h : NcP l) (k : Nat) : NcP (l.drop k) := by
  intro i hi
  rw [List.length_drop] at hi
  obtain ⟨j, hj, e⟩ := h (k + i) (by omega)
  refine ⟨j, hj, ?_⟩
  rw [List.getD_eq_getElem?_getD, List.getElem?_drop, ← Nat.add_assoc, ← List.getD_eq_getElem?_getD]
  exact e
theorem nc_take {l : List UInt8} (h : NcP l) (k : Nat) : NcP (l.take k) := by
  intro i hi
  rw [List.length_take] at hi
  obtain ⟨j, hj, e⟩ := h i (by omega)
  refine ⟨j, hj, ?_⟩
  rw [List.getD_eq_getElem?_getD, List.getElem?_take, if_pos (by omega), ← List.getD_eq_getElem?_getD]
  exact e
theorem ct_first : ∀ b : Fin 256, ctB (UInt8.ofNat b.val) = true → 128 ≤ b.val ∧ ¬ Lib.firstT b.val % 8 = 2 ∧ ¬ Lib.firstT b.val % 8 = 3 ∧ ¬ Lib.firstT b.val % 8 = 4 := by decide +kernel
theorem ct_first' (c : UInt8) (h : ctB c = true) : 128 ≤ c.toNat ∧ ¬ Lib.firstT c.toNat % 8 = 2 ∧ ¬ Lib.firstT c.toNat % 8 = 3 ∧ ¬ Lib.firstT c.toNat % 8 = 4 := by
  have := ct_first ⟨c.toNat, c.toNat_lt⟩
  simp only [UInt8.ofNat_toNat] at this
  exact this h
theorem valid_head {l : List UInt8} (hl : Lib.validD l = true) (hne : l ≠ []) : ctB (l.getD 0 0) = false := by
  cases h : ctB (l.getD 0 0) with
  | false => rfl
  | true =>
    exfalso
    obtain ⟨h1, h2, h3, h4⟩ := ct_first' _ h
    rw [Lib.validD_lead l hne h1] at hl
    unfold Lib.checkN at hl
    rw [if_neg h2, if_neg h3, if_neg h4] at hl
    cases hl
theorem check_le {n a b c sz lo hi k : Nat} (h : Lib.checkN n a b c sz lo hi = some k) : 1 ≤ k ∧ k ≤ 4 := by
  unfold Lib.checkN at h
  repeat' split at h
  all_goals first | (cases h; done) | (cases h; omega)
theorem valid_next {l : List UInt8} (hl : Lib.validD l = true) (hne : l ≠ []) : ∃ k, 1 ≤ k ∧ k ≤ 4 ∧ Lib.validD (l.drop k) = true := by
  by_cases h : 128 ≤ (l.getD 0 0).toNat
  · rw [Lib.validD_lead l hne h] at hl
    split at hl
    · cases hl
    · rename_i k hk
      exact ⟨k, (check_le hk).1, (check_le hk).2, hl⟩
  · cases l with
    | nil => exact absurd rfl hne
    | cons b t =>
      simp only [List.getD_cons_zero] at h
      rw [Lib.validD_cons b t (by omega)] at hl
      exact ⟨1, by omega, by omega, hl⟩
theorem nc_valid : ∀ (n : Nat) (l : List UInt8), l.length ≤ n → Lib.validD l = true → NcP l
  | 0, l, hn, _ => fun i hi => by omega
  | n + 1, l, hn, hl => by
    by_cases hne : l = []
    · subst hne
      intro i hi
      simp at hi
    · have h0 := valid_head hl hne
      obtain ⟨k, h1, h2, h3⟩ := valid_next hl hne
      have ih := nc_valid n (l.drop k) (by rw [List.length_drop]; have := List.length_pos_iff.2 hne; omega) h3
      intro i hi
      by_cases hik : k ≤ i
      · obtain ⟨j, hj, e⟩ := ih (i - k) (by rw [List.length_drop]; omega)
        refine ⟨j, hj, ?_⟩
        rw [List.getD_eq_getElem?_getD, List.getElem?_drop, ← List.getD_eq_getElem?_getD, show k + (i - k + j) = i + j from by omega] at e
        exact e
      · by_cases hi0 : i = 0
        · subst hi0
          exact ⟨0, by omega, h0⟩
        · have h4 := valid_head h3 (by intro e; have := congrArg List.length e; rw [List.length_drop] at this; simp at this; omega)
          rw [List.getD_eq_getElem?_getD, List.getElem?_drop, ← List.getD_eq_getElem?_getD] at h4
          refine ⟨k - i, by omega, ?_⟩
          rw [show i + (k - i) = k + 0 from by omega]
          exact h4
/-- A piece lies in the string. -/
theorem sp_infix (c : UInt8) : ∀ s : List UInt8, (∃ n, (sp c s).headD [] = s.take n) ∧ ∀ x ∈ sp c s, ∃ a n, x = (s.drop a).take n
  | [] => ⟨⟨0, rfl⟩, fun x hx => ⟨0, 0, by simpa [sp] using hx⟩⟩
  | y :: s => by
    obtain ⟨⟨n, h1⟩, h2⟩ := sp_infix c s
    rw [sp]
    split
    · refine ⟨⟨0, rfl⟩, fun x hx => ?_⟩
      rcases List.mem_cons.1 hx with rfl | hx
      · exact ⟨0, 0, rfl⟩
      · obtain ⟨a, m, e⟩ := h2 x hx
        exact ⟨a + 1, m, by simpa using e⟩
    · refine ⟨⟨n + 1, show y :: (sp c s).headD [] = y :: s.take n by rw [h1]⟩, fun x hx => ?_⟩
      rcases List.mem_cons.1 hx with rfl | hx
      · exact ⟨0, n + 1, show y :: (sp c s).headD [] = y :: s.take n by rw [h1]⟩
      · obtain ⟨a, m, e⟩ := h2 x (List.mem_of_mem_tail hx)
        exact ⟨a + 1, m, by simpa using e⟩
theorem nc_sp {c : UInt8} {s : List UInt8} (h : NcP s) : ∀ x ∈ sp c s, NcP x := by
  intro x hx
  obtain ⟨a, n, rfl⟩ := (sp_infix c s).2 x hx
  exact nc_take (nc_drop h a) n
theorem insE_ct {l : List UInt8} {i : Nat} (h : i < l.length) : insE l (i : Int) = ctB (l.getD i 0) := by
  unfold insE ctB
  rw [Int.toNat_natCast, Bool.eq_iff_iff]
  simp only [Bool.and_eq_true, decide_eq_true_eq]
  omega
/-- The last blank of a line's first 81 bytes. -/
def liW (l : List UInt8) : Int := Lib.lastIndexByte ⟨(l.take 81).toArray⟩ 32
def brkB (l : List UInt8) : Bool := decide (0 < liW l) && !decide (Lib.trimS (l.take (liW l).toNat) [32] = [])
/-- The pieces of a line. -/
def wrF : Nat → List UInt8 → SRow
  | 0, l => [l]
  | n + 1, l => if 80 < l.length then (if brkB l = true then l.take (liW l).toNat :: wrF n (l.drop ((liW l).toNat + 1)) else l.take (backN l 80) :: wrF n (l.drop (backN l 80))) else [l]
theorem wrF_short {n : Nat} {l : List UInt8} (h : l.length ≤ 80) : wrF n l = [l] := by
  cases n with
  | zero => rfl
  | succ n => rw [wrF, if_neg (by omega)]
theorem backN_ge {l : List UInt8} (h : NcP l) (hl : 80 < l.length) : 77 ≤ backN l 80 ∧ ctB (l.getD (backN l 80) 0) = false := by
  obtain ⟨j, hj, e⟩ := h 77 (by omega)
  have key : ∀ n, 77 + j ≤ n → n ≤ 80 → 77 + j ≤ backN l n ∧ ctB (l.getD (backN l n) 0) = false := by
    intro n
    induction n with
    | zero => intro h; omega
    | succ n ih =>
      intro h1 h2
      rw [backN]
      by_cases hc : insE l ((n + 1 : Nat) : Int) = true
      · rw [if_pos hc]
        by_cases hn : 77 + j = n + 1
        · rw [insE_ct (by omega), ← hn, e] at hc; cases hc
        · exact ih (by omega) (by omega)
      · rw [if_neg hc]
        rw [insE_ct (by omega)] at hc
        exact ⟨h1, by simpa using hc⟩
  have := key 80 (by omega) (by omega)
  exact ⟨by omega, this.2⟩
theorem wrF_len : ∀ (n : Nat) (l : List UInt8), (wrF n l).length ≤ n + 1
  | 0, l => by simp [wrF]
  | n + 1, l => by
    rw [wrF]
    split
    · split
      · have := wrF_len n (l.drop ((liW l).toNat + 1))
        simp; omega
      · have := wrF_len n (l.drop (backN l 80))
        simp; omega
    · simp
/-- The pieces of lines. -/
def wrapF (ls : SRow) : SRow := ls.flatMap fun l => wrF l.length l
theorem wrapF_len (ls : SRow) : (wrapF ls).length ≤ wgt ls := by
  induction ls with
  | nil => simp [wrapF]
  | cons x r ih =>
    have := wrF_len x.length x
    unfold wrapF at ih ⊢
    rw [List.flatMap_cons, List.length_append, wgt]
    omega
theorem wrapF_take {ls : SRow} {k : Nat} {s : List UInt8} (h : ls[k]? = some s) : wrapF (ls.take (k + 1)) = wrapF (ls.take k) ++ wrF s.length s := by
  obtain ⟨hk, rfl⟩ := List.getElem?_eq_some_iff.1 h
  rw [List.take_succ_eq_append_getElem hk, wrapF, wrapF, List.flatMap_append]
  simp
theorem wrapF_take_le {ls : SRow} {k : Nat} : (wrapF (ls.take k)).length ≤ (wrapF ls).length := by
  conv => rhs; rw [← List.take_append_drop k ls]
  rw [wrapF, wrapF, List.flatMap_append, List.length_append]
  omega
end Go.Proofs.YtejekkhhpkeckaaGreatDoor

/- Lines of a text and cuts at blanks: contracts that pages need. -/
namespace Go.Proofs.YtejekkhhpkeckaaGreatDoor
open Go.RowKit
set_option linter.unusedVariables false
set_option linter.unusedSimpArgs false
set_option linter.defProp false

/- internal/stringslite.CutSuffix -/
def ir_internal_stringslite_CutSuffix : IC :=
  (.seq (.reg [⟨some 4, .mov (.c (.str [])), none⟩,
      ⟨some 5, .mov (.c (.bool false)), none⟩])
    (.seq (.seq (.reg [⟨some 6, .mov (.t 0), none⟩,
      ⟨some 7, .mov (.t 1), none⟩,
      ⟨some 8, .call 94 [.t 6, .t 7], none⟩,
      ⟨some 9, .not (.t 8), none⟩])
    (.cond (.t 9) (.seq (.reg [⟨some 10, .mov (.t 0), none⟩,
      ⟨some 4, .mov (.t 10), none⟩,
      ⟨some 5, .mov (.c (.bool false)), none⟩])
    .ret) .skip))
    (.seq (.reg [⟨some 11, .mov (.t 0), none⟩,
      ⟨some 12, .mov (.t 0), none⟩,
      ⟨some 13, .sln (.t 12), none⟩,
      ⟨some 14, .mov (.t 1), none⟩,
      ⟨some 15, .sln (.t 14), none⟩,
      ⟨some 16, .bin .sub (.t 13) (.t 15), none⟩,
      ⟨some 17, .ssl (.t 11) none (some (.t 16)), none⟩,
      ⟨some 4, .mov (.t 17), none⟩,
      ⟨some 5, .mov (.c (.bool true)), none⟩])
    .ret)))
def rs_internal_stringslite_CutSuffix : List IRes := [.t 4, .t 5]
theorem ck_internal_stringslite_CutSuffix : chkF Tryz.prog Tryz.f134 ir_internal_stringslite_CutSuffix rs_internal_stringslite_CutSuffix 18 = true := by kernel_rfl
/- strings.CutSuffix -/
def ir_strings_CutSuffix : IC :=
  (.seq (.reg [⟨some 4, .mov (.c (.str [])), none⟩,
      ⟨some 5, .mov (.c (.bool false)), none⟩])
    (.seq (.reg [⟨some 6, .mov (.t 0), none⟩,
      ⟨some 7, .mov (.t 1), none⟩,
      ⟨some 8, .call 134 [.t 6, .t 7], none⟩,
      ⟨some 9, .ext 0 (.t 8), none⟩,
      ⟨some 10, .ext 1 (.t 8), none⟩,
      ⟨some 4, .mov (.t 9), none⟩,
      ⟨some 5, .mov (.t 10), none⟩])
    .ret))
def rs_strings_CutSuffix : List IRes := [.t 4, .t 5]
theorem ck_strings_CutSuffix : chkF Tryz.prog Tryz.f105 ir_strings_CutSuffix rs_strings_CutSuffix 11 = true := by kernel_rfl
/- paperchase/base.Lines -/
def ir_base_Lines : IC :=
  (.seq (.reg [⟨some 2, .mov (.c (.nl 1)), none⟩,
      ⟨some 3, .mov (.c (.bool false)), none⟩])
    (.seq (.seq (.reg [⟨some 6, .mov (.t 0), none⟩,
      ⟨some 7, .bin .eql (.t 6) (.c (.str [])), none⟩])
    (.cond (.t 7) (.seq (.reg [⟨some 2, .mov (.c (.nl 1)), none⟩,
      ⟨some 3, .mov (.c (.bool true)), none⟩])
    .ret) .skip))
    (.seq (.reg [⟨some 9, .mov (.t 0), none⟩,
      ⟨some 10, .call 105 [.t 9, .c (.str [10])], none⟩,
      ⟨some 8, .mov (.t 10), none⟩,
      ⟨some 11, .ext 0 (.t 8), none⟩,
      ⟨some 12, .ext 1 (.t 8), none⟩,
      ⟨some 4, .mov (.t 11), none⟩,
      ⟨some 5, .mov (.t 12), none⟩])
    (.seq (.reg [⟨some 13, .mov (.t 4), none⟩,
      ⟨some 14, .call 43 [.t 13, .c (.str [10])], none⟩,
      ⟨some 15, .mov (.t 5), none⟩,
      ⟨some 2, .mov (.t 14), none⟩,
      ⟨some 3, .mov (.t 15), none⟩])
    .ret))))
def rs_base_Lines : List IRes := [.t 2, .t 3]
theorem ck_base_Lines : chkF Tryz.prog Tryz.f66 ir_base_Lines rs_base_Lines 16 = true := by kernel_rfl
/- paperchase/chaseref1.linesOf -/
def ir_chaseref1_linesOf : IC :=
  (.seq (.reg [⟨some 2, .mov (.c (.nl 1)), none⟩])
    (.seq (.reg [⟨some 4, .mov (.t 0), none⟩,
      ⟨some 5, .call 43 [.t 4, .c (.str [10])], none⟩,
      ⟨some 3, .mov (.t 5), none⟩])
    (.seq (.reg [⟨some 6, .mov (.t 3), none⟩,
      ⟨some 7, .mov (.t 3), none⟩,
      ⟨some 8, .len (.t 7), none⟩,
      ⟨some 9, .bin .sub (.t 8) (.c (.int .i64 1)), none⟩,
      ⟨some 10, .vsl 1 (.t 6) none (some (.t 9)), none⟩,
      ⟨some 2, .mov (.t 10), none⟩])
    .ret)))
def rs_chaseref1_linesOf : List IRes := [.t 2]
theorem ck_chaseref1_linesOf : chkF Tryz.prog Tryz.f32 ir_chaseref1_linesOf rs_chaseref1_linesOf 11 = true := by kernel_rfl
/- paperchase/produce.textError -/
def ir_produce_textError : IC :=
  (.seq (.reg [⟨some 2, .mov (.c (.int .i64 0)), none⟩])
    (.seq (.reg [⟨some 3, .mov (.t 0), none⟩,
      ⟨some 4, .sln (.t 3), none⟩,
      ⟨some 5, .bin .gtr (.t 4) (.c (.int .i64 20000)), none⟩,
      ⟨some 6, .call 64 [.t 5, .c (.int .i64 2)], none⟩,
      ⟨some 7, .mov (.t 0), none⟩,
      ⟨some 8, .call 65 [.t 7], none⟩,
      ⟨some 9, .not (.t 8), none⟩,
      ⟨some 10, .call 64 [.t 9, .c (.int .i64 3)], none⟩,
      ⟨some 11, .bsl 1 [.t 6, .t 10], none⟩,
      ⟨some 12, .call 63 [.t 11], none⟩,
      ⟨some 2, .mov (.t 12), none⟩])
    .ret))
def rs_produce_textError : List IRes := [.t 2]
theorem ck_produce_textError : chkF Tryz.prog Tryz.f26 ir_produce_textError rs_produce_textError 13 = true := by kernel_rfl
/- unicode/utf8.RuneStart -/
def ir_unicode_utf8_RuneStart : IC :=
  (.seq (.reg [⟨some 2, .mov (.c (.bool false)), none⟩])
    (.seq (.reg [⟨some 3, .mov (.t 0), none⟩,
      ⟨some 4, .bin .and (.t 3) (.c (.int .u8 192)), none⟩,
      ⟨some 5, .bin .neq (.t 4) (.c (.int .u8 128)), none⟩,
      ⟨some 2, .mov (.t 5), none⟩])
    .ret))
def rs_unicode_utf8_RuneStart : List IRes := [.t 2]
theorem ck_unicode_utf8_RuneStart : chkF Tryz.prog Tryz.f35 ir_unicode_utf8_RuneStart rs_unicode_utf8_RuneStart 6 = true := by kernel_rfl


section
variable {E : Envt}
def asc (l : List UInt8) : Bool := l.all fun b => decide (b.toNat < 128)
theorem asc_at {l : List UInt8} (h : asc l = true) : ∀ (j : Nat) b, (⟨l.toArray⟩ : ByteArray).data.toList[j]? = some b → b.toNat < 128 :=
  fun _ b hb => of_decide_eq_true (List.all_eq_true.1 h b (List.mem_of_getElem? (by simpa using hb)))
theorem TrimSet_ok (s cs : List UInt8) (hs : s.length ≤ 1000000000) (hcs : cs.length ≤ 1000000) (h2 : asc cs = true) : PCall Tryz.prog E 34 [.str s, .str cs] (· = .str (Lib.trimS s cs)) :=
  pcall_flat rfl rfl fun w _ => (Any.strings_Trim_laid Tryz.layTrim (by kernel_rfl) ⟨s.toArray⟩ ⟨cs.toArray⟩ w (by rw [ba_size]; omega) (by rw [ba_size]; omega) (asc_at h2)).mono fun e w' h => ⟨h.1, grow_below h.2⟩
def liF (s : List UInt8) (c : UInt8) : Int := Lib.lastIndexByte ⟨s.toArray⟩ (c.toNat : Nat)
theorem LastIndex_ok (s : List UInt8) (c : UInt8) (hs : s.length ≤ 1000000000) : PCall Tryz.prog E 33 [.str s, .str [c]] (· = int (liF s c)) :=
  pcall_flat rfl rfl fun w _ => (Any.strings_LastIndex_one Tryz.layLastIndex ⟨s.toArray⟩ ⟨#[c]⟩ rfl (by rw [ba_size]; omega) w).mono fun e w' h => ⟨h.1, by rw [h.2]; exact Grow.refl _ _⟩
theorem LastIndexByte_ok (s : List UInt8) (c : UInt8) (hs : s.length ≤ 1000000000) : PCall Tryz.prog E 106 [.str s, .int .u8 (c.toNat : Nat)] (· = int (liF s c)) :=
  pcall_flat rfl rfl fun w _ => (Any.strings_LastIndexByte Tryz.layLastIndexByte ⟨s.toArray⟩ (c.toNat : Nat) (by rw [ba_size]; omega) w).mono fun e w' h => ⟨by rw [h.1]; simp [valX, valD, liF], by rw [h.2]; exact Grow.refl _ _⟩
theorem liF_lt (s : List UInt8) (c : UInt8) : -1 ≤ liF s c ∧ liF s c < s.length ∨ s = [] ∧ liF s c = -1 := by
  rcases Lib.lastIndexByte_spec ⟨s.toArray⟩ (c.toNat : Nat) with ⟨h1, h2⟩ | ⟨i, h0, h1, h2, h3⟩
  · by_cases h : s = []
    · exact .inr ⟨h, h1⟩
    · have := List.length_pos_iff.2 h
      refine .inl ?_
      rw [liF, h1]; omega
  · rw [ba_size] at h0
    refine .inl ?_
    rw [liF, h1]; omega
def cutSufF (s p : List UInt8) : List UInt8 × Bool := if sufE s p = true then (s.take (s.length - p.length), true) else (s, false)
theorem CutSuffixL_ok (s p : List UInt8) (hs : s.length ≤ 1000000000) (hp : p.length ≤ 1000000000) : PCall Tryz.prog E 134 [.str s, .str p] (· = .tup [.str (cutSufF s p).1, .bool (cutSufF s p).2]) := by
  refine pcallF mixed Tryz.func134 ck_internal_stringslite_CutSuffix ?_
  simp only [a0, l0, OS.ao, List.map_cons, List.map_nil, List.length_cons, List.length_nil, List.cons_append, List.nil_append, Nat.reduceSub, Nat.reduceAdd, List.replicate_succ, List.replicate_zero, ir_internal_stringslite_CutSuffix, rs_internal_stringslite_CutSuffix, ZZ, YY, Ze, ite_true, ite_false, forall_const, reduceCtorEq, Nat.reduceAdd, Nat.reduceMul, Nat.reduceLeDiff, Nat.reduceLT, Nat.reduceEqDiff]
  refine use1 (sHasSuffix_ok s p (by omega)) rfl (.inl rfl) ?_
  simp only [ZZ, YY, Ze, ite_true, ite_false, forall_const, reduceCtorEq, Nat.reduceAdd, Nat.reduceMul, Nat.reduceLeDiff, Nat.reduceLT, Nat.reduceEqDiff]
  unfold cutSufF
  refine br ?_ ?_
  · intro h
    have h : sufE s p = false := by rwa [Bool.not_eq_true'] at h
    simp only [ZZ, YY, Ze, ite_true, ite_false, forall_const, reduceCtorEq, Nat.reduceAdd, Nat.reduceMul, Nat.reduceLeDiff, Nat.reduceLT, Nat.reduceEqDiff]
    rw [if_neg (by simp [h])]
  · intro h
    have h : sufE s p = true := by rwa [Bool.not_eq_false'] at h
    have hb : p.length ≤ s.length := by
      have := of_decide_eq_true (Bool.and_eq_true_iff.1 h).1
      omega
    have e : ((s.length : Int) - p.length).toNat = s.length - p.length := by omega
    simp only [ZZ, YY, Ze, ite_true, ite_false, forall_const, reduceCtorEq, Nat.reduceAdd, Nat.reduceMul, Nat.reduceLeDiff, Nat.reduceLT, Nat.reduceEqDiff, e]
    refine ⟨i64_of (by omega) (by omega), ⟨by omega, by omega⟩, ?_⟩
    rw [if_pos h]
theorem CutSuffix_ok (s p : List UInt8) (hs : s.length ≤ 1000000000) (hp : p.length ≤ 1000000000) : PCall Tryz.prog E 105 [.str s, .str p] (· = .tup [.str (cutSufF s p).1, .bool (cutSufF s p).2]) := by
  refine pcallF mixed Tryz.func105 ck_strings_CutSuffix ?_
  simp only [a0, l0, OS.ao, List.map_cons, List.map_nil, List.length_cons, List.length_nil, List.cons_append, List.nil_append, Nat.reduceSub, Nat.reduceAdd, List.replicate_succ, List.replicate_zero, ir_strings_CutSuffix, rs_strings_CutSuffix, ZZ, YY, Ze, ite_true, ite_false, forall_const, reduceCtorEq, Nat.reduceAdd, Nat.reduceMul, Nat.reduceLeDiff, Nat.reduceLT, Nat.reduceEqDiff]
  refine use1 (CutSuffixL_ok s p hs hp) rfl (.inl rfl) ?_
  simp only [ZZ, YY, Ze, ite_true, ite_false, forall_const, reduceCtorEq, Nat.reduceAdd, Nat.reduceMul, Nat.reduceLeDiff, Nat.reduceLT, Nat.reduceEqDiff]
theorem rs_wrap : ∀ n : Fin 256, (!decide (bitA IntKind.u8 (((UInt8.ofNat n.val).toNat : Nat) : Int) 192 = 128)) = !ctB (UInt8.ofNat n.val) := by decide +kernel
theorem RuneStart_ok (c : UInt8) : PCall Tryz.prog E 35 [.int .u8 (c.toNat : Nat)] (· = .bool (!ctB c)) := by
  refine pcallF mixed Tryz.func35 ck_unicode_utf8_RuneStart ?_
  simp only [a0, l0, OS.ao, List.map_cons, List.map_nil, List.length_cons, List.length_nil, List.cons_append, List.nil_append, Nat.reduceSub, Nat.reduceAdd, List.replicate_succ, List.replicate_zero, ir_unicode_utf8_RuneStart, rs_unicode_utf8_RuneStart, ZZ, YY, Ze, ite_true, ite_false, forall_const, reduceCtorEq, Nat.reduceAdd, Nat.reduceMul, Nat.reduceLeDiff, Nat.reduceLT, Nat.reduceEqDiff]
  have := rs_wrap ⟨c.toNat, c.toNat_lt⟩
  simp only [UInt8.ofNat_toNat] at this
  rw [this]
end
def linesF (s : List UInt8) : List (List UInt8) × Bool := if s = [] then ([], true) else (splF (cutSufF s [10]).1 10, (cutSufF s [10]).2)
theorem cutSuf_len (s p : List UInt8) : (cutSufF s p).1.length ≤ s.length := by
  unfold cutSufF
  split <;> simp
theorem Lines_ok (s : List UInt8) (hs : s.length ≤ 1000000000) : PCall Tryz.prog E0 66 [.str s] (· = .tup [strs (linesF s).1, .bool (linesF s).2]) := by
  refine pcallF mixed Tryz.func66 ck_base_Lines ?_
  simp only [a0, l0, OS.ao, List.map_cons, List.map_nil, List.length_cons, List.length_nil, List.cons_append, List.nil_append, Nat.reduceSub, Nat.reduceAdd, List.replicate_succ, List.replicate_zero, ir_base_Lines, rs_base_Lines, ZZ, YY, Ze, ite_true, ite_false, forall_const, reduceCtorEq, Nat.reduceAdd, Nat.reduceMul, Nat.reduceLeDiff, Nat.reduceLT, Nat.reduceEqDiff]
  refine br ?_ ?_
  · intro h
    have h : s = [] := by simpa using h
    simp only [ZZ, YY, Ze, ite_true, ite_false, forall_const, reduceCtorEq, Nat.reduceAdd, Nat.reduceMul, Nat.reduceLeDiff, Nat.reduceLT, Nat.reduceEqDiff]
    rw [linesF, if_pos h]
    rfl
  · intro h
    have h : ¬ s = [] := by simpa using h
    simp only [ZZ, YY, Ze, ite_true, ite_false, forall_const, reduceCtorEq, Nat.reduceAdd, Nat.reduceMul, Nat.reduceLeDiff, Nat.reduceLT, Nat.reduceEqDiff]
    refine use1 (CutSuffix_ok s [10] hs (by decide)) rfl (.inl rfl) ?_
    simp only [ZZ, YY, Ze, ite_true, ite_false, forall_const, reduceCtorEq, Nat.reduceAdd, Nat.reduceMul, Nat.reduceLeDiff, Nat.reduceLT, Nat.reduceEqDiff]
    refine use1 (Split_ok (cutSufF s [10]).1 10 (by have := cutSuf_len s [10]; omega)) rfl (.inl rfl) ?_
    simp only [ZZ, YY, Ze, ite_true, ite_false, forall_const, reduceCtorEq, Nat.reduceAdd, Nat.reduceMul, Nat.reduceLeDiff, Nat.reduceLT, Nat.reduceEqDiff]
    rw [linesF, if_neg h]
    rfl
theorem splF_ne (s : List UInt8) (c : UInt8) : splF s c ≠ [] := by
  have hl := Lib.splitB_all ⟨#[c]⟩ (Nat.le_refl 1) 0 _ (⟨s.toArray⟩ : ByteArray) rfl
  intro h
  have := congrArg List.length h
  simp [splF, hl] at this
def rlinesF (s : List UInt8) : List (List UInt8) := (splF s 10).take ((splF s 10).length - 1)
theorem linesOf_ok (s : List UInt8) (hs : s.length ≤ 1000000000) : PCall Tryz.prog E0 32 [.str s] (· = strs (rlinesF s)) := by
  refine pcallF mixed Tryz.func32 ck_chaseref1_linesOf ?_
  simp only [a0, l0, OS.ao, List.map_cons, List.map_nil, List.length_cons, List.length_nil, List.cons_append, List.nil_append, Nat.reduceSub, Nat.reduceAdd, List.replicate_succ, List.replicate_zero, ir_chaseref1_linesOf, rs_chaseref1_linesOf, ZZ, YY, Ze, ite_true, ite_false, forall_const, reduceCtorEq, Nat.reduceAdd, Nat.reduceMul, Nat.reduceLeDiff, Nat.reduceLT, Nat.reduceEqDiff]
  refine use1 (Split_ok s 10 hs) rfl (.inl rfl) ?_
  rw [strs_eq]
  have h1 := splF_len s 10
  have h2 := splF_ne s 10
  have h3 : 0 < (splF s 10).length := List.length_pos_iff.2 h2
  have h4 : (((splF s 10).length : Int) - 1).toNat = (splF s 10).length - 1 := by omega
  have h5 : strs (rlinesF s) = .sl 1 ((strE (splF s 10)).take ((splF s 10).length - 1)) := by rw [strs_eq, rlinesF, strE, List.map_take]; rfl
  rw [h5]
  simp only [ZZ, YY, Ze, ite_true, ite_false, forall_const, reduceCtorEq, Nat.reduceAdd, Nat.reduceMul, Nat.reduceLeDiff, Nat.reduceLT, Nat.reduceEqDiff, strE_len, h4]
  exact ⟨i64_of (by omega) (by omega), by omega, by omega⟩
theorem lines_eq {s : List UInt8} (h : textE s = true) : rlinesF s = (linesF s).1 := by
  by_cases h0 : s = []
  · subst h0
    rw [linesF, if_pos rfl, rlinesF, splF_sp]
    rfl
  · have h1 : sufE s [10] = true := by
      simp only [textE, h0, decide_false, Bool.false_or, Bool.and_eq_true] at h
      exact h.2
    have h2 := h1
    simp only [sufE, Bool.and_eq_true, decide_eq_true_eq, List.length_cons, List.length_nil] at h2
    have e : s = s.take (s.length - 1) ++ 10 :: [] := by
      conv => lhs; rw [← List.take_append_drop (s.length - 1) s]
      rw [h2.2]
    rw [linesF, if_neg h0]
    simp only [cutSufF, if_pos h1, List.length_cons, List.length_nil]
    rw [rlinesF, splF_sp, splF_sp]
    generalize ht : s.take (s.length - (0 + 1)) = t
    rw [show s.length - (0 + 1) = s.length - 1 from rfl] at ht
    rw [ht] at e
    rw [e, sp_app]
    simp [sp]
theorem wgt_take (k : Nat) (a : SRow) : wgt (a.take k) ≤ wgt a := by
  conv => rhs; rw [← List.take_append_drop k a]
  rw [wgt_app]
  omega
/-- What the lines of a right text are. -/
theorem lines_facts {s : List UInt8} (h : textE s = true) : wgt (linesF s).1 ≤ s.length + 1 ∧ (linesF s).1.length ≤ s.length + 1 ∧ ∀ x ∈ (linesF s).1, NcP x ∧ x.length ≤ s.length := by
  rw [← lines_eq h]
  have hv : Lib.validD s = true := by
    have := (Bool.and_eq_true_iff.1 h).1
    exact (Bool.and_eq_true_iff.1 this).2
  have hn := nc_valid s.length s (Nat.le_refl _) hv
  have h1 := wgt_take ((splF s 10).length - 1) (splF s 10)
  have h2 := sp_wgt 10 s
  rw [← splF_sp] at h2
  have h3 := wgt_len (rlinesF s)
  refine ⟨by unfold rlinesF; omega, by unfold rlinesF at h3 ⊢; omega, fun x hx => ?_⟩
  have hx2 : x ∈ splF s 10 := List.take_subset _ _ hx
  refine ⟨?_, splF_mem s 10 x hx2⟩
  rw [splF_sp] at hx2
  exact nc_sp hn x hx2
theorem ptextError_ok (s : List UInt8) (hs : s.length ≤ 1000000000) : PCall Tryz.prog E0 26 [.str s] (· = int (bodyE s)) := by
  refine pcallF mixed Tryz.func26 ck_produce_textError ?_
  simp only [a0, l0, OS.ao, List.map_cons, List.map_nil, List.length_cons, List.length_nil, List.cons_append, List.nil_append, Nat.reduceSub, Nat.reduceAdd, List.replicate_succ, List.replicate_zero, ir_produce_textError, rs_produce_textError, ZZ, YY, Ze, ite_true, ite_false, forall_const, reduceCtorEq, Nat.reduceAdd, Nat.reduceMul, Nat.reduceLeDiff, Nat.reduceLT, Nat.reduceEqDiff]
  refine use1 (When_ok _ 2) rfl (.inl rfl) ?_
  simp only [ZZ, YY, Ze, ite_true, ite_false, forall_const, reduceCtorEq, Nat.reduceAdd, Nat.reduceMul, Nat.reduceLeDiff, Nat.reduceLT, Nat.reduceEqDiff]
  refine use1 (Text_ok s hs) rfl (.inl rfl) ?_
  simp only [ZZ, YY, Ze, ite_true, ite_false, forall_const, reduceCtorEq, Nat.reduceAdd, Nat.reduceMul, Nat.reduceLeDiff, Nat.reduceLT, Nat.reduceEqDiff]
  refine use1 (When_ok _ 3) rfl (.inl rfl) ?_
  simp only [ZZ, YY, Ze, ite_true, ite_false, forall_const, reduceCtorEq, Nat.reduceAdd, Nat.reduceMul, Nat.reduceLeDiff, Nat.reduceLT, Nat.reduceEqDiff]
  refine use1 (First_ok [largeE s, whenE (!textE s) 3] (by simp)) rfl (.inl rfl) ?_
  simp only [ZZ, YY, Ze, ite_true, ite_false, forall_const, reduceCtorEq, Nat.reduceAdd, Nat.reduceMul, Nat.reduceLeDiff, Nat.reduceLT, Nat.reduceEqDiff]
  unfold bodyE largeE whenE
  by_cases h1 : 20000 < s.length
  · simp [firstE, h1, show (20000 : Int) < s.length by omega]
  · by_cases h2 : textE s = true
    · simp [firstE, h1, h2, show ¬ (20000 : Int) < s.length by omega]
    · simp [firstE, h1, h2, show ¬ (20000 : Int) < s.length by omega]
end Go.Proofs.YtejekkhhpkeckaaGreatDoor

/- Pages, one line after the other: plain Lean. -/
namespace Go.Proofs.YtejekkhhpkeckaaGreatDoor
open Go.RowKit
set_option linter.unusedVariables false
set_option linter.unusedSimpArgs false
set_option linter.defProp false

/-- The full pages, and the last one, of a text's first lines. -/
def pgIn (p : SRow) (k : Nat) : Tab := (List.range ((k - 1) / 50)).map (pgF p)
def pgCu (p : SRow) (k : Nat) : SRow := (p.take k).drop ((k - 1) / 50 * 50)
theorem pgCu_len {p : SRow} {k : Nat} (hk : k ≤ p.length) : (pgCu p k).length = k - (k - 1) / 50 * 50 := by
  rw [pgCu, List.length_drop, List.length_take, Nat.min_eq_left hk]
theorem pgIn_len (p : SRow) (k : Nat) : (pgIn p k).length = (k - 1) / 50 := by simp [pgIn]
theorem take_next {p : SRow} {k : Nat} {s : List UInt8} (h : p[k]? = some s) : p.take (k + 1) = p.take k ++ [s] := by
  obtain ⟨hk, rfl⟩ := List.getElem?_eq_some_iff.1 h
  exact List.take_succ_eq_append_getElem hk
theorem pg_one {p : SRow} {s : List UInt8} (h : p[0]? = some s) : pgIn p 1 = [] ∧ pgCu p 1 = [s] := by
  refine ⟨rfl, ?_⟩
  rw [pgCu, take_next h]
  rfl
theorem pg_full {p : SRow} {k : Nat} {s : List UInt8} (hk : 0 < k) (h50 : (pgCu p k).length = 50) (h : p[k]? = some s) : pgIn p (k + 1) = pgIn p k ++ [pgCu p k] ∧ pgCu p (k + 1) = [s] := by
  have hl := (List.getElem?_eq_some_iff.1 h).1
  rw [pgCu_len (by omega)] at h50
  have e : (k + 1 - 1) / 50 = (k - 1) / 50 + 1 := by omega
  have e2 : ((k - 1) / 50 + 1) * 50 = k := by omega
  refine ⟨?_, ?_⟩
  · rw [pgIn, e, List.range_succ, List.map_append]
    congr 1
    rw [List.map_cons, List.map_nil, pgF, pgCu, List.drop_take, h50]
  · rw [pgCu, e, e2, take_next h, List.drop_append_of_le_length (by rw [List.length_take]; omega)]
    rw [List.drop_eq_nil_of_le (by rw [List.length_take]; omega)]
    rfl
theorem pg_more {p : SRow} {k : Nat} {s : List UInt8} (hk : 0 < k) (h50 : ¬ (pgCu p k).length = 50) (h : p[k]? = some s) : pgIn p (k + 1) = pgIn p k ∧ pgCu p (k + 1) = pgCu p k ++ [s] := by
  have hl := (List.getElem?_eq_some_iff.1 h).1
  rw [pgCu_len (by omega)] at h50
  have e : (k + 1 - 1) / 50 = (k - 1) / 50 := by omega
  refine ⟨by rw [pgIn, e]; rfl, ?_⟩
  rw [pgCu, e, take_next h, List.drop_append_of_le_length (by rw [List.length_take]; omega)]
  rfl
theorem pg_end {p : SRow} (h : ¬ p = []) : pgIn p p.length ++ [pgCu p p.length] = pgsF p := by
  have hl : 0 < p.length := by have := mt List.eq_nil_of_length_eq_zero h; omega
  have e : (p.length + 49) / 50 = (p.length - 1) / 50 + 1 := by omega
  rw [pgsF, if_neg h, e, List.range_succ, List.map_append]
  congr 1
  rw [List.map_cons, List.map_nil, pgCu, List.take_length, pgF, List.take_of_length_le (by rw [List.length_drop]; omega)]
theorem pgCu_le {p : SRow} {k : Nat} (hk : k ≤ p.length) : (pgCu p k).length ≤ 50 := by
  rw [pgCu_len hk]; omega
end Go.Proofs.YtejekkhhpkeckaaGreatDoor

/- Lines cut into pieces for pages: the walks of both sides. -/
namespace Go.Proofs.YtejekkhhpkeckaaGreatDoor
open Go.RowKit
set_option linter.unusedVariables false
set_option linter.unusedSimpArgs false
set_option linter.defProp false

/- paperchase/produce.wrapped -/
def ir_produce_wrapped_L1 : IC :=
  (.seq (.seq (.reg [⟨some 30, .mov (.t 0), none⟩,
      ⟨some 31, .mov (.t 4), none⟩,
      ⟨some 32, .idx (.t 30) (.t 31), none⟩,
      ⟨some 33, .bin .shr (.t 32) (.c (.int .u64 6)), none⟩,
      ⟨some 34, .bin .eql (.t 33) (.c (.int .u8 2)), none⟩])
    (.cond (.t 34) .skip (.exit 2)))
    (.block 3 (.reg [⟨some 35, .mov (.t 4), none⟩,
      ⟨some 36, .bin .sub (.t 35) (.c (.int .i64 1)), none⟩,
      ⟨some 4, .mov (.t 36), none⟩])))
def ir_produce_wrapped_L0 : IC :=
  (.seq (.seq (.reg [⟨some 5, .mov (.t 0), none⟩,
      ⟨some 6, .sln (.t 5), none⟩,
      ⟨some 7, .bin .gtr (.t 6) (.c (.int .i64 80)), none⟩])
    (.cond (.t 7) .skip (.exit 0)))
    (.block 1 (.seq (.reg [⟨some 8, .mov (.t 0), none⟩,
      ⟨some 9, .ssl (.t 8) none (some (.c (.int .i64 81))), none⟩,
      ⟨some 10, .call 106 [.t 9, .c (.int .u8 32)], none⟩,
      ⟨some 4, .mov (.t 10), none⟩])
    (.seq (.seq (.reg [⟨some 11, .mov (.t 4), none⟩,
      ⟨some 12, .bin .gtr (.t 11) (.c (.int .i64 0)), none⟩,
      ⟨some 13, .mov (.t 12), none⟩,
      ⟨some 14, .mov (.t 0), (some (13, true))⟩,
      ⟨some 15, .mov (.t 4), (some (13, true))⟩,
      ⟨some 16, .ssl (.t 14) none (some (.t 15)), (some (13, true))⟩,
      ⟨some 17, .call 34 [.t 16, .c (.str [32])], (some (13, true))⟩,
      ⟨some 18, .bin .neq (.t 17) (.c (.str [])), (some (13, true))⟩,
      ⟨some 19, .pick (.t 13) (.t 18) (.c (.bool false)), none⟩])
    (.cond (.t 19) (.seq (.drg [⟨some 20, .mov (.t 3), none⟩,
      ⟨some 21, .mov (.t 0), none⟩,
      ⟨some 22, .mov (.t 4), none⟩,
      ⟨some 23, .ssl (.t 21) none (some (.t 22)), none⟩,
      ⟨some 24, .bsl 1 [.t 23], none⟩,
      ⟨some 25, .app 9 1 16 (.t 20) (.t 24), none⟩,
      ⟨some 26, .mov (.t 0), none⟩,
      ⟨some 27, .mov (.t 4), none⟩,
      ⟨some 28, .bin .add (.t 27) (.c (.int .i64 1)), none⟩,
      ⟨some 29, .ssl (.t 26) (some (.t 28)) none, none⟩,
      ⟨some 3, .mov (.t 25), none⟩,
      ⟨some 0, .mov (.t 29), none⟩])
    (.exit 1)) .skip))
    (.seq (.reg [⟨some 4, .mov (.c (.int .i64 80)), none⟩])
    (.seq (.block 2 (.loop ir_produce_wrapped_L1))
    (.drg [⟨some 37, .mov (.t 3), none⟩,
      ⟨some 38, .mov (.t 0), none⟩,
      ⟨some 39, .mov (.t 4), none⟩,
      ⟨some 40, .ssl (.t 38) none (some (.t 39)), none⟩,
      ⟨some 41, .bsl 1 [.t 40], none⟩,
      ⟨some 42, .app 9 1 16 (.t 37) (.t 41), none⟩,
      ⟨some 43, .mov (.t 0), none⟩,
      ⟨some 44, .mov (.t 4), none⟩,
      ⟨some 45, .ssl (.t 43) (some (.t 44)) none, none⟩,
      ⟨some 3, .mov (.t 42), none⟩,
      ⟨some 0, .mov (.t 45), none⟩])))))))
def ir_produce_wrapped : IC :=
  (.seq (.reg [⟨some 2, .mov (.c (.nl 1)), none⟩])
    (.seq (.reg [⟨some 3, .nilr 9 1, none⟩])
    (.seq (.block 0 (.loop ir_produce_wrapped_L0))
    (.seq (.reg [⟨some 46, .mov (.t 3), none⟩,
      ⟨some 47, .mov (.t 0), none⟩,
      ⟨some 48, .bsl 1 [.t 47], none⟩,
      ⟨some 49, .app 9 1 16 (.t 46) (.t 48), none⟩,
      ⟨some 2, .mov (.t 49), none⟩])
    .ret))))
def rs_produce_wrapped : List IRes := [.t 2]
theorem ck_produce_wrapped : chkF Tryz.prog Tryz.f67 ir_produce_wrapped rs_produce_wrapped 50 = true := by kernel_rfl

/-- The pieces of a line. -/
def wr (l : List UInt8) : SRow := wrF l.length l
theorem wrF_any : ∀ (n : Nat) (l : List UInt8), NcP l → l.length ≤ n → wrF n l = wr l := by
  have key : ∀ (N n m : Nat) (l : List UInt8), NcP l → l.length ≤ N → l.length ≤ n → l.length ≤ m → wrF n l = wrF m l := by
    intro N
    induction N with
    | zero =>
      intro n m l _ h _ _
      rw [wrF_short (by omega), wrF_short (by omega)]
    | succ N ih =>
      intro n m l hn h h1 h2
      by_cases h80 : 80 < l.length
      · obtain ⟨a, rfl⟩ : ∃ a, n = a + 1 := ⟨n - 1, by omega⟩
        obtain ⟨b, rfl⟩ : ∃ b, m = b + 1 := ⟨m - 1, by omega⟩
        have g := backN_ge hn h80
        have e1 := ih a b (l.drop ((liW l).toNat + 1)) (nc_drop hn _) (by rw [List.length_drop]; omega) (by rw [List.length_drop]; omega) (by rw [List.length_drop]; omega)
        have e2 := ih a b (l.drop (backN l 80)) (nc_drop hn _) (by rw [List.length_drop]; omega) (by rw [List.length_drop]; omega) (by rw [List.length_drop]; omega)
        rw [wrF, wrF, e1, e2]
      · rw [wrF_short (by omega), wrF_short (by omega)]
  intro n l h0 h
  exact key l.length n l.length l h0 (Nat.le_refl _) h (Nat.le_refl _)
theorem wr_short {l : List UInt8} (h : l.length ≤ 80) : wr l = [l] := wrF_short h
theorem wr_brk {l : List UInt8} (hn : NcP l) (h : 80 < l.length) (hb : brkB l = true) : wr l = l.take (liW l).toNat :: wr (l.drop ((liW l).toNat + 1)) := by
  obtain ⟨a, ha⟩ : ∃ a, l.length = a + 1 := ⟨l.length - 1, by omega⟩
  have : wr l = wrF (a + 1) l := by rw [wr, ha]
  rw [this, wrF, if_pos h, if_pos hb, wrF_any a _ (nc_drop hn _) (by rw [List.length_drop]; omega)]
theorem wr_cut {l : List UInt8} (hn : NcP l) (h : 80 < l.length) (hb : brkB l = false) : wr l = l.take (backN l 80) :: wr (l.drop (backN l 80)) := by
  obtain ⟨a, ha⟩ : ∃ a, l.length = a + 1 := ⟨l.length - 1, by omega⟩
  have : wr l = wrF (a + 1) l := by rw [wr, ha]
  have g := backN_ge hn h
  rw [this, wrF, if_pos h, if_neg (by rw [hb]; simp), wrF_any a _ (nc_drop hn _) (by rw [List.length_drop]; omega)]
theorem wr_len (l : List UInt8) : (wr l).length ≤ l.length + 1 := wrF_len _ _
theorem liW_eq (l : List UInt8) : liW l = liF (l.take 81) 32 := rfl
theorem liW_lt {l : List UInt8} (h : 80 < l.length) : -1 ≤ liW l ∧ liW l < 81 := by
  rw [liW_eq]
  have hl : (l.take 81).length = 81 := by rw [List.length_take]; omega
  rcases liF_lt (l.take 81) 32 with ⟨h1, h2⟩ | ⟨h1, h2⟩
  · rw [hl] at h2; exact ⟨h1, h2⟩
  · rw [h2]; omega
theorem shr6 : ∀ n : Fin 256, decide ((((UInt8.ofNat n.val).toNat : Nat) : Int).fdiv (2 ^ min (Int.toNat 6) IntKind.u8.bits) = 2) = ctB (UInt8.ofNat n.val) := by decide +kernel
theorem shr6' (c : UInt8) : decide (((c.toNat : Nat) : Int).fdiv (2 ^ min (Int.toNat 6) IntKind.u8.bits) = 2) = ctB c := by
  have := shr6 ⟨c.toNat, c.toNat_lt⟩
  simp only [UInt8.ofNat_toNat] at this
  exact this
theorem back_stop {s : List UInt8} {k : Nat} (hk : backN s k = backN s 80) (hl : k < s.length) (h0 : 0 < k) (h : ctB (s.getD k 0) = false) : k = backN s 80 := by
  obtain ⟨g, rfl⟩ : ∃ g, k = g + 1 := ⟨k - 1, by omega⟩
  rw [← hk, backN, if_neg (by rw [insE_ct hl, h]; simp)]
theorem back_go {s : List UInt8} {k : Nat} (hk : backN s (k + 1) = backN s 80) (hl : k + 1 < s.length) (h : ctB (s.getD (k + 1) 0) = true) : backN s k = backN s 80 := by
  rw [← hk, backN, if_pos (by rw [insE_ct hl, h])]

set_option maxHeartbeats 4000000 in
theorem wrapped_ok (s0 : List UInt8) (hs : s0.length ≤ 1000000) (hn : NcP s0) : FCall Tryz.prog E0 67 [.str s0] tStr 1 (· = strE (wr s0)) := by
  unfold FCall
  refine gcallR mixed Tryz.func67 ck_produce_wrapped ?_
  simp only [a0, l0, OS.ao, List.map_cons, List.map_nil, List.length_cons, List.length_nil, List.cons_append, List.nil_append, Nat.reduceSub, Nat.reduceAdd, List.replicate_succ, List.replicate_zero, ir_produce_wrapped, rs_produce_wrapped, ZZ, YY, Ze, ite_true, ite_false, forall_const, reduceCtorEq, Nat.reduceAdd, Nat.reduceMul, Nat.reduceLeDiff, Nat.reduceLT, Nat.reduceEqDiff]
  have hR0 : ([] : List (List PV)) = strE [] := rfl
  rw [hR0]
  refine loop_intro (fun n fr L => ∃ (R : SRow) (s : List UInt8), s.length = n ∧ (R ++ wr s = wr s0) ∧ (s.length ≤ s0.length) ∧ (NcP s) ∧ fr = [.p (.str s), .any, .any, .row (.l 3), .any, .any, .any, .any, .any, .any, .any, .any, .any, .any, .any, .any, .any, .any, .any, .any, .any, .any, .any, .any, .any, .any, .any, .any, .any, .any, .any, .any, .any, .any, .any, .any, .any, .any, .any, .any, .any, .any, .any, .any, .any, .any, .any, .any, .any, .any] ∧ L = [(.l 3, .row (strE R) tStr 1 true)]) (s0.length) [.p (.str s0), .any, .any, .row (.l 3), .any, .any, .any, .any, .any, .any, .any, .any, .any, .any, .any, .any, .any, .any, .any, .any, .any, .any, .any, .any, .any, .any, .any, .any, .any, .any, .any, .any, .any, .any, .any, .any, .any, .any, .any, .any, .any, .any, .any, .any, .any, .any, .any, .any, .any, .any] [(.l 3, .row (strE []) tStr 1 true)] (by (simp only [ZZ, YY, Ze, ite_true, ite_false, forall_const, reduceCtorEq, Nat.reduceAdd, Nat.reduceMul, Nat.reduceLeDiff, Nat.reduceLT, Nat.reduceEqDiff]; try trivial)) (by (simp only [ZZ, YY, Ze, ite_true, ite_false, forall_const, reduceCtorEq, Nat.reduceAdd, Nat.reduceMul, Nat.reduceLeDiff, Nat.reduceLT, Nat.reduceEqDiff]; try trivial)) ⟨[], s0, rfl, rfl, Nat.le_refl _, hn, rfl, rfl⟩ ?_
  rintro n fr L ⟨R, s, rfl, hR, hsl, hns, rfl, rfl⟩
  simp only [ir_produce_wrapped_L0, ZZ, YY, Ze, ite_true, ite_false, forall_const, reduceCtorEq, Nat.reduceAdd, Nat.reduceMul, Nat.reduceLeDiff, Nat.reduceLT, Nat.reduceEqDiff]
  have hRl : R.length ≤ 2000000 := by
    have h1 := congrArg List.length hR
    have h2 := wr_len s0
    rw [List.length_append] at h1
    omega
  refine br ?_ ?_
  · intro h
    have h80 : 80 < s.length := by have := of_decide_eq_true h; omega
    have hlw := liW_lt h80
    have e81 : (81 : Int).toNat = 81 := rfl
    simp only [ZZ, YY, Ze, ite_true, ite_false, forall_const, reduceCtorEq, Nat.reduceAdd, Nat.reduceMul, Nat.reduceLeDiff, Nat.reduceLT, Nat.reduceEqDiff, e81]
    ((repeat' (with_reducible apply And.intro)) <;> try ((first | first | assumption | trivial | exact (fun hq => by rw [hq]; rfl) | exact i64_of (by omega) (by omega) | omega | (simp; done) | (simp; omega) | (intro hsc; have hs0 := hsc; (try have hsd := of_decide_eq_true hsc); (try simp only [Bool.not_eq_true', Bool.or_eq_false_iff, Bool.and_eq_true, Bool.or_eq_true, decide_eq_true_eq, decide_eq_false_iff_not] at hsc); (repeat' (with_reducible apply And.intro)) <;> (first | assumption | trivial | exact (fun hq => by rw [hq]; rfl) | exact i64_of (by omega) (by omega) | omega | (simp; done) | (simp; omega) | (intro hse; simp [hse, hs0]; done) | (intro hse; simp only [hse, hs0, Bool.true_and, Bool.and_true, Bool.not_false, Bool.not_true, Bool.and_self]; done))))))
    refine use1 (LastIndexByte_ok (s.take 81) 32 (by rw [List.length_take]; omega)) rfl (.inl rfl) ?_
    rw [← liW_eq]
    simp only [ZZ, YY, Ze, ite_true, ite_false, forall_const, reduceCtorEq, Nat.reduceAdd, Nat.reduceMul, Nat.reduceLeDiff, Nat.reduceLT, Nat.reduceEqDiff]
    ((repeat' (with_reducible apply And.intro)) <;> try ((first | first | assumption | trivial | exact (fun hq => by rw [hq]; rfl) | exact i64_of (by omega) (by omega) | omega | (simp; done) | (simp; omega) | (intro hsc; have hs0 := hsc; (try have hsd := of_decide_eq_true hsc); (try simp only [Bool.not_eq_true', Bool.or_eq_false_iff, Bool.and_eq_true, Bool.or_eq_true, decide_eq_true_eq, decide_eq_false_iff_not] at hsc); (repeat' (with_reducible apply And.intro)) <;> (first | assumption | trivial | exact (fun hq => by rw [hq]; rfl) | exact i64_of (by omega) (by omega) | omega | (simp; done) | (simp; omega) | (intro hse; simp [hse, hs0]; done) | (intro hse; simp only [hse, hs0, Bool.true_and, Bool.and_true, Bool.not_false, Bool.not_true, Bool.and_self]; done))))))
    refine useG (fun hg => TrimSet_ok (s.take (liW s).toNat) [32] (by rw [List.length_take]; omega) (by simp) rfl) rfl (.inl rfl) ?_
    simp only [ZZ, YY, Ze, ite_true, ite_false, forall_const, reduceCtorEq, Nat.reduceAdd, Nat.reduceMul, Nat.reduceLeDiff, Nat.reduceLT, Nat.reduceEqDiff]
    ((repeat' (with_reducible apply And.intro)) <;> try ((first | first | assumption | trivial | exact (fun hq => by rw [hq]; rfl) | exact i64_of (by omega) (by omega) | omega | (simp; done) | (simp; omega) | (intro hsc; have hs0 := hsc; (try have hsd := of_decide_eq_true hsc); (try simp only [Bool.not_eq_true', Bool.or_eq_false_iff, Bool.and_eq_true, Bool.or_eq_true, decide_eq_true_eq, decide_eq_false_iff_not] at hsc); (repeat' (with_reducible apply And.intro)) <;> (first | assumption | trivial | exact (fun hq => by rw [hq]; rfl) | exact i64_of (by omega) (by omega) | omega | (simp; done) | (simp; omega) | (intro hse; simp [hse, hs0]; done) | (intro hse; simp only [hse, hs0, Bool.true_and, Bool.and_true, Bool.not_false, Bool.not_true, Bool.and_self]; done))))))
    refine br ?_ ?_
    · intro hb
      have hbk : brkB s = true := hb
      have h0 : 0 < liW s := of_decide_eq_true (Bool.and_eq_true_iff.1 hb).1
      rw [wr_brk hns h80 hbk] at hR
      simp only [ZZ, YY, Ze, ite_true, ite_false, forall_const, reduceCtorEq, Nat.reduceAdd, Nat.reduceMul, Nat.reduceLeDiff, Nat.reduceLT, Nat.reduceEqDiff]
      refine drg0 ?_
      have e1 : (liW s + 1).toNat = (liW s).toNat + 1 := by omega
      have hdl : (s.drop ((liW s).toNat + 1)).length < s.length := by rw [List.length_drop]; omega
      have hst : strE R ++ [[PV.str (s.take (liW s).toNat)]] = strE (R ++ [s.take (liW s).toNat]) := by simp [strE]
      simp only [ZZ, YY, Ze, ite_true, ite_false, forall_const, reduceCtorEq, Nat.reduceAdd, Nat.reduceMul, Nat.reduceLeDiff, Nat.reduceLT, Nat.reduceEqDiff, strE_len, List.take_length, e1]
      ((repeat' (with_reducible apply And.intro)) <;> try ((first | first | assumption | trivial | exact (fun hq => by rw [hq]; rfl) | exact i64_of (by omega) (by omega) | omega | (simp; done) | (simp; omega) | (intro hsc; have hs0 := hsc; (try have hsd := of_decide_eq_true hsc); (try simp only [Bool.not_eq_true', Bool.or_eq_false_iff, Bool.and_eq_true, Bool.or_eq_true, decide_eq_true_eq, decide_eq_false_iff_not] at hsc); (repeat' (with_reducible apply And.intro)) <;> (first | assumption | trivial | exact (fun hq => by rw [hq]; rfl) | exact i64_of (by omega) (by omega) | omega | (simp; done) | (simp; omega) | (intro hse; simp [hse, hs0]; done) | (intro hse; simp only [hse, hs0, Bool.true_and, Bool.and_true, Bool.not_false, Bool.not_true, Bool.and_self]; done))))))
      rw [hst]
      refine end_round ((s.drop ((liW s).toNat + 1)).length) [.p (.str (s.drop ((liW s).toNat + 1))), .any, .any, .row (.l 3), .any, .any, .any, .any, .any, .any, .any, .any, .any, .any, .any, .any, .any, .any, .any, .any, .any, .any, .any, .any, .any, .any, .any, .any, .any, .any, .any, .any, .any, .any, .any, .any, .any, .any, .any, .any, .any, .any, .any, .any, .any, .any, .any, .any, .any, .any] [(.l 3, .row (strE (R ++ [s.take (liW s).toNat])) tStr 1 true)] (by omega) (by (simp only [ZZ, YY, Ze, ite_true, ite_false, forall_const, reduceCtorEq, Nat.reduceAdd, Nat.reduceMul, Nat.reduceLeDiff, Nat.reduceLT, Nat.reduceEqDiff]; try trivial)) (by (simp only [ZZ, YY, Ze, ite_true, ite_false, forall_const, reduceCtorEq, Nat.reduceAdd, Nat.reduceMul, Nat.reduceLeDiff, Nat.reduceLT, Nat.reduceEqDiff]; try trivial)) ⟨R ++ [s.take (liW s).toNat], s.drop ((liW s).toNat + 1), rfl, by rw [List.append_assoc]; exact hR, by omega, nc_drop hns _, rfl, rfl⟩
    · intro hb
      have hbk : brkB s = false := hb
      rw [wr_cut hns h80 hbk] at hR
      obtain ⟨g1, g2⟩ := backN_ge hns h80
      simp only [ZZ, YY, Ze, ite_true, ite_false, forall_const, reduceCtorEq, Nat.reduceAdd, Nat.reduceMul, Nat.reduceLeDiff, Nat.reduceLT, Nat.reduceEqDiff]
      refine loop_intro (fun n fr L => ∃ (k : Nat), k = n ∧ (backN s k = backN s 80) ∧ (backN s 80 ≤ k) ∧ (k ≤ 80) ∧ fr = [.p (.str s), .any, .any, .row (.l 3), .p (int (k : Nat)), .any, .any, .any, .any, .any, .any, .any, .any, .any, .any, .any, .any, .any, .any, .any, .any, .any, .any, .any, .any, .any, .any, .any, .any, .any, .any, .any, .any, .any, .any, .any, .any, .any, .any, .any, .any, .any, .any, .any, .any, .any, .any, .any, .any, .any] ∧ L = [(.l 3, .row (strE R) tStr 1 true)]) (80) [.p (.str s), .any, .any, .row (.l 3), .p (int (80 : Nat)), .any, .any, .any, .any, .any, .any, .any, .any, .any, .any, .any, .any, .any, .any, .any, .any, .any, .any, .any, .any, .any, .any, .any, .any, .any, .any, .any, .any, .any, .any, .any, .any, .any, .any, .any, .any, .any, .any, .any, .any, .any, .any, .any, .any, .any] [(.l 3, .row (strE R) tStr 1 true)] (by (simp only [ZZ, YY, Ze, ite_true, ite_false, forall_const, reduceCtorEq, Nat.reduceAdd, Nat.reduceMul, Nat.reduceLeDiff, Nat.reduceLT, Nat.reduceEqDiff]; try trivial)) (by (simp only [ZZ, YY, Ze, ite_true, ite_false, forall_const, reduceCtorEq, Nat.reduceAdd, Nat.reduceMul, Nat.reduceLeDiff, Nat.reduceLT, Nat.reduceEqDiff]; try trivial)) ⟨80, rfl, rfl, backN_le s 80, Nat.le_refl _, rfl, rfl⟩ ?_
      rintro n fr L ⟨k, rfl, hk, hk2, hk3, rfl, rfl⟩
      simp only [ir_produce_wrapped_L1, ZZ, YY, Ze, ite_true, ite_false, forall_const, reduceCtorEq, Nat.reduceAdd, Nat.reduceMul, Nat.reduceLeDiff, Nat.reduceLT, Nat.reduceEqDiff]
      rw [shr6']
      refine ⟨⟨by omega, by omega⟩, by omega, ?_⟩
      refine br ?_ ?_
      · intro hc
        have hkb : backN s 80 < k := by
          rcases Nat.lt_or_eq_of_le hk2 with h1 | h1
          · exact h1
          · rw [← h1, g2] at hc; cases hc
        obtain ⟨g, rfl⟩ : ∃ g, k = g + 1 := ⟨k - 1, by omega⟩
        have hgg : ((g + 1 : Nat) : Int) - 1 = (g : Nat) := by omega
        simp only [ZZ, YY, Ze, ite_true, ite_false, forall_const, reduceCtorEq, Nat.reduceAdd, Nat.reduceMul, Nat.reduceLeDiff, Nat.reduceLT, Nat.reduceEqDiff, hgg]
        ((repeat' (with_reducible apply And.intro)) <;> try ((first | first | assumption | trivial | exact (fun hq => by rw [hq]; rfl) | exact i64_of (by omega) (by omega) | omega | (simp; done) | (simp; omega) | (intro hsc; have hs0 := hsc; (try have hsd := of_decide_eq_true hsc); (try simp only [Bool.not_eq_true', Bool.or_eq_false_iff, Bool.and_eq_true, Bool.or_eq_true, decide_eq_true_eq, decide_eq_false_iff_not] at hsc); (repeat' (with_reducible apply And.intro)) <;> (first | assumption | trivial | exact (fun hq => by rw [hq]; rfl) | exact i64_of (by omega) (by omega) | omega | (simp; done) | (simp; omega) | (intro hse; simp [hse, hs0]; done) | (intro hse; simp only [hse, hs0, Bool.true_and, Bool.and_true, Bool.not_false, Bool.not_true, Bool.and_self]; done))))))
        refine end_round ((g)) [.p (.str s), .any, .any, .row (.l 3), .p (int ((g) : Nat)), .any, .any, .any, .any, .any, .any, .any, .any, .any, .any, .any, .any, .any, .any, .any, .any, .any, .any, .any, .any, .any, .any, .any, .any, .any, .any, .any, .any, .any, .any, .any, .any, .any, .any, .any, .any, .any, .any, .any, .any, .any, .any, .any, .any, .any] [(.l 3, .row (strE R) tStr 1 true)] (by omega) (by (simp only [ZZ, YY, Ze, ite_true, ite_false, forall_const, reduceCtorEq, Nat.reduceAdd, Nat.reduceMul, Nat.reduceLeDiff, Nat.reduceLT, Nat.reduceEqDiff]; try trivial)) (by (simp only [ZZ, YY, Ze, ite_true, ite_false, forall_const, reduceCtorEq, Nat.reduceAdd, Nat.reduceMul, Nat.reduceLeDiff, Nat.reduceLT, Nat.reduceEqDiff]; try trivial)) ⟨g, rfl, back_go hk (by omega) hc, by omega, by omega, rfl, rfl⟩
      · intro hc
        have hkn := back_stop hk (by omega) (by omega) hc
        subst hkn
        have hdl : (s.drop (backN s 80)).length < s.length := by rw [List.length_drop]; omega
        have hst : strE R ++ [[PV.str (s.take (backN s 80))]] = strE (R ++ [s.take (backN s 80)]) := by simp [strE]
        have e1 : ((backN s 80 : Nat) : Int).toNat = backN s 80 := by omega
        simp only [ZZ, YY, Ze, ite_true, ite_false, forall_const, reduceCtorEq, Nat.reduceAdd, Nat.reduceMul, Nat.reduceLeDiff, Nat.reduceLT, Nat.reduceEqDiff]
        refine drg0 ?_
        simp only [ZZ, YY, Ze, ite_true, ite_false, forall_const, reduceCtorEq, Nat.reduceAdd, Nat.reduceMul, Nat.reduceLeDiff, Nat.reduceLT, Nat.reduceEqDiff, strE_len, List.take_length, e1]
        ((repeat' (with_reducible apply And.intro)) <;> try ((first | first | assumption | trivial | exact (fun hq => by rw [hq]; rfl) | exact i64_of (by omega) (by omega) | omega | (simp; done) | (simp; omega) | (intro hsc; have hs0 := hsc; (try have hsd := of_decide_eq_true hsc); (try simp only [Bool.not_eq_true', Bool.or_eq_false_iff, Bool.and_eq_true, Bool.or_eq_true, decide_eq_true_eq, decide_eq_false_iff_not] at hsc); (repeat' (with_reducible apply And.intro)) <;> (first | assumption | trivial | exact (fun hq => by rw [hq]; rfl) | exact i64_of (by omega) (by omega) | omega | (simp; done) | (simp; omega) | (intro hse; simp [hse, hs0]; done) | (intro hse; simp only [hse, hs0, Bool.true_and, Bool.and_true, Bool.not_false, Bool.not_true, Bool.and_self]; done))))))
        rw [hst]
        refine end_round ((s.drop (backN s 80)).length) [.p (.str (s.drop (backN s 80))), .any, .any, .row (.l 3), .any, .any, .any, .any, .any, .any, .any, .any, .any, .any, .any, .any, .any, .any, .any, .any, .any, .any, .any, .any, .any, .any, .any, .any, .any, .any, .any, .any, .any, .any, .any, .any, .any, .any, .any, .any, .any, .any, .any, .any, .any, .any, .any, .any, .any, .any] [(.l 3, .row (strE (R ++ [s.take (backN s 80)])) tStr 1 true)] (by omega) (by (simp only [ZZ, YY, Ze, ite_true, ite_false, forall_const, reduceCtorEq, Nat.reduceAdd, Nat.reduceMul, Nat.reduceLeDiff, Nat.reduceLT, Nat.reduceEqDiff]; try trivial)) (by (simp only [ZZ, YY, Ze, ite_true, ite_false, forall_const, reduceCtorEq, Nat.reduceAdd, Nat.reduceMul, Nat.reduceLeDiff, Nat.reduceLT, Nat.reduceEqDiff]; try trivial)) ⟨R ++ [s.take (backN s 80)], s.drop (backN s 80), rfl, by rw [List.append_assoc]; exact hR, by omega, nc_drop hns _, rfl, rfl⟩
  · intro h
    have h80 : s.length ≤ 80 := by have := of_decide_eq_false h; omega
    rw [wr_short h80] at hR
    have hst : strE R ++ [[PV.str s]] = strE (R ++ [s]) := by simp [strE]
    simp only [ZZ, YY, Ze, ite_true, ite_false, forall_const, reduceCtorEq, Nat.reduceAdd, Nat.reduceMul, Nat.reduceLeDiff, Nat.reduceLT, Nat.reduceEqDiff, strE_len]
    ((repeat' (with_reducible apply And.intro)) <;> try ((first | first | assumption | trivial | exact (fun hq => by rw [hq]; rfl) | exact i64_of (by omega) (by omega) | omega | (simp; done) | (simp; omega) | (intro hsc; have hs0 := hsc; (try have hsd := of_decide_eq_true hsc); (try simp only [Bool.not_eq_true', Bool.or_eq_false_iff, Bool.and_eq_true, Bool.or_eq_true, decide_eq_true_eq, decide_eq_false_iff_not] at hsc); (repeat' (with_reducible apply And.intro)) <;> (first | assumption | trivial | exact (fun hq => by rw [hq]; rfl) | exact i64_of (by omega) (by omega) | omega | (simp; done) | (simp; omega) | (intro hse; simp [hse, hs0]; done) | (intro hse; simp only [hse, hs0, Bool.true_and, Bool.and_true, Bool.not_false, Bool.not_true, Bool.and_self]; done))))))
    exact fin_F 3 _ rfl rfl (by rw [hst, hR])
end Go.Proofs.YtejekkhhpkeckaaGreatDoor

/- The lines of a text for pages, on both sides. -/
namespace Go.Proofs.YtejekkhhpkeckaaGreatDoor
open Go.RowKit
set_option linter.unusedVariables false
set_option linter.unusedSimpArgs false
set_option linter.defProp false

/- paperchase/produce.pieces -/
def ir_produce_pieces_L0 : IC :=
  (.seq (.reg [⟨some 16, .bin .lss (.t 15) (.t 14), none⟩])
    (.seq (.cond (.t 16) .skip (.exit 0))
    (.seq (.block 1 (.seq (.reg [⟨some 17, .ixa 1 (.t 13) (.t 15), none⟩,
      ⟨some 18, .ld 1 false (.t 17), none⟩,
      ⟨some 7, .mov (.t 18), none⟩])
    (.reg [⟨some 19, .mov (.t 5), none⟩,
      ⟨some 20, .mov (.t 7), none⟩,
      ⟨some 21, .call 67 [.t 20], none⟩,
      ⟨some 22, .app 9 1 16 (.t 19) (.t 21), none⟩,
      ⟨some 5, .mov (.t 22), none⟩])))
    (.reg [⟨some 23, .bin .add (.t 15) (.c (.int .i64 1)), none⟩,
      ⟨some 15, .mov (.t 23), none⟩]))))
def ir_produce_pieces : IC :=
  (.seq (.reg [⟨some 2, .mov (.c (.nl 1)), none⟩])
    (.seq (.reg [⟨some 9, .mov (.t 0), none⟩,
      ⟨some 10, .call 66 [.t 9], none⟩,
      ⟨some 8, .mov (.t 10), none⟩,
      ⟨some 11, .ext 0 (.t 8), none⟩,
      ⟨some 12, .ext 1 (.t 8), none⟩,
      ⟨some 3, .mov (.t 11), none⟩,
      ⟨some 4, .mov (.t 12), none⟩])
    (.seq (.reg [⟨some 5, .nilr 9 1, none⟩])
    (.seq (.seq (.reg [⟨some 13, .mov (.t 3), none⟩,
      ⟨some 14, .len (.t 13), none⟩,
      ⟨some 15, .mov (.c (.int .i64 0)), none⟩])
    (.block 0 (.loop ir_produce_pieces_L0)))
    (.seq (.reg [⟨some 24, .mov (.t 5), none⟩,
      ⟨some 2, .mov (.t 24), none⟩])
    .ret)))))
def rs_produce_pieces : List IRes := [.t 2]
theorem ck_produce_pieces : chkF Tryz.prog Tryz.f27 ir_produce_pieces rs_produce_pieces 25 = true := by kernel_rfl
/- paperchase/produce.Wrap -/
def ir_produce_Wrap : IC :=
  (.seq (.reg [⟨some 2, .mov (.c (.nl 1)), none⟩,
      ⟨some 3, .mov (.c (.int .i64 0)), none⟩])
    (.seq (.seq (.reg [⟨some 5, .mov (.t 0), none⟩,
      ⟨some 6, .call 26 [.t 5], none⟩,
      ⟨some 4, .mov (.t 6), none⟩])
    (.seq (.reg [⟨some 7, .mov (.t 4), none⟩,
      ⟨some 8, .bin .neq (.t 7) (.c (.int .i64 0)), none⟩])
    (.cond (.t 8) (.seq (.reg [⟨some 9, .mov (.t 4), none⟩,
      ⟨some 2, .mov (.c (.nl 1)), none⟩,
      ⟨some 3, .mov (.t 9), none⟩])
    .ret) .skip)))
    (.seq (.reg [⟨some 10, .mov (.t 0), none⟩,
      ⟨some 11, .call 27 [.t 10], none⟩,
      ⟨some 2, .mov (.t 11), none⟩,
      ⟨some 3, .mov (.c (.int .i64 0)), none⟩])
    .ret)))
def rs_produce_Wrap : List IRes := [.t 2, .t 3]
theorem ck_produce_Wrap : chkF Tryz.prog Tryz.f6 ir_produce_Wrap rs_produce_Wrap 12 = true := by kernel_rfl
/- paperchase/chaseref1.WrapOf -/
def ir_chaseref1_WrapOf_L2 : IC :=
  (.seq (.seq (.reg [⟨some 39, .mov (.t 5), none⟩,
      ⟨some 40, .mov (.t 6), none⟩,
      ⟨some 41, .idx (.t 39) (.t 40), none⟩,
      ⟨some 42, .call 35 [.t 41], none⟩,
      ⟨some 43, .not (.t 42), none⟩])
    (.cond (.t 43) .skip (.exit 4)))
    (.block 5 (.reg [⟨some 44, .mov (.t 6), none⟩,
      ⟨some 45, .bin .sub (.t 44) (.c (.int .i64 1)), none⟩,
      ⟨some 6, .mov (.t 45), none⟩])))
def ir_chaseref1_WrapOf_L1 : IC :=
  (.seq (.seq (.reg [⟨some 14, .mov (.t 5), none⟩,
      ⟨some 15, .sln (.t 14), none⟩,
      ⟨some 16, .bin .gtr (.t 15) (.c (.int .i64 80)), none⟩])
    (.cond (.t 16) .skip (.exit 2)))
    (.block 3 (.seq (.reg [⟨some 17, .mov (.t 5), none⟩,
      ⟨some 18, .ssl (.t 17) none (some (.c (.int .i64 81))), none⟩,
      ⟨some 19, .call 33 [.t 18, .c (.str [32])], none⟩,
      ⟨some 6, .mov (.t 19), none⟩])
    (.seq (.seq (.reg [⟨some 20, .mov (.t 6), none⟩,
      ⟨some 21, .bin .gtr (.t 20) (.c (.int .i64 0)), none⟩,
      ⟨some 22, .mov (.t 21), none⟩,
      ⟨some 23, .mov (.t 5), (some (22, true))⟩,
      ⟨some 24, .mov (.t 6), (some (22, true))⟩,
      ⟨some 25, .ssl (.t 23) none (some (.t 24)), (some (22, true))⟩,
      ⟨some 26, .call 34 [.t 25, .c (.str [32])], (some (22, true))⟩,
      ⟨some 27, .bin .neq (.t 26) (.c (.str [])), (some (22, true))⟩,
      ⟨some 28, .pick (.t 22) (.t 27) (.c (.bool false)), none⟩])
    (.cond (.t 28) (.seq (.drg [⟨some 29, .mov (.t 3), none⟩,
      ⟨some 30, .mov (.t 5), none⟩,
      ⟨some 31, .mov (.t 6), none⟩,
      ⟨some 32, .ssl (.t 30) none (some (.t 31)), none⟩,
      ⟨some 33, .bsl 1 [.t 32], none⟩,
      ⟨some 34, .app 9 1 16 (.t 29) (.t 33), none⟩,
      ⟨some 35, .mov (.t 5), none⟩,
      ⟨some 36, .mov (.t 6), none⟩,
      ⟨some 37, .bin .add (.t 36) (.c (.int .i64 1)), none⟩,
      ⟨some 38, .ssl (.t 35) (some (.t 37)) none, none⟩,
      ⟨some 3, .mov (.t 34), none⟩,
      ⟨some 5, .mov (.t 38), none⟩])
    (.exit 3)) .skip))
    (.seq (.reg [⟨some 6, .mov (.c (.int .i64 80)), none⟩])
    (.seq (.block 4 (.loop ir_chaseref1_WrapOf_L2))
    (.drg [⟨some 46, .mov (.t 3), none⟩,
      ⟨some 47, .mov (.t 5), none⟩,
      ⟨some 48, .mov (.t 6), none⟩,
      ⟨some 49, .ssl (.t 47) none (some (.t 48)), none⟩,
      ⟨some 50, .bsl 1 [.t 49], none⟩,
      ⟨some 51, .app 9 1 16 (.t 46) (.t 50), none⟩,
      ⟨some 52, .mov (.t 5), none⟩,
      ⟨some 53, .mov (.t 6), none⟩,
      ⟨some 54, .ssl (.t 52) (some (.t 53)) none, none⟩,
      ⟨some 3, .mov (.t 51), none⟩,
      ⟨some 5, .mov (.t 54), none⟩])))))))
def ir_chaseref1_WrapOf_L0 : IC :=
  (.seq (.reg [⟨some 11, .bin .lss (.t 10) (.t 9), none⟩])
    (.seq (.cond (.t 11) .skip (.exit 0))
    (.seq (.block 1 (.seq (.reg [⟨some 12, .ixa 1 (.t 8) (.t 10), none⟩,
      ⟨some 13, .ld 1 false (.t 12), none⟩,
      ⟨some 5, .mov (.t 13), none⟩])
    (.seq (.block 2 (.loop ir_chaseref1_WrapOf_L1))
    (.reg [⟨some 55, .mov (.t 3), none⟩,
      ⟨some 56, .mov (.t 5), none⟩,
      ⟨some 57, .bsl 1 [.t 56], none⟩,
      ⟨some 58, .app 9 1 16 (.t 55) (.t 57), none⟩,
      ⟨some 3, .mov (.t 58), none⟩]))))
    (.reg [⟨some 59, .bin .add (.t 10) (.c (.int .i64 1)), none⟩,
      ⟨some 10, .mov (.t 59), none⟩]))))
def ir_chaseref1_WrapOf : IC :=
  (.seq (.reg [⟨some 2, .mov (.c (.nl 1)), none⟩])
    (.seq (.reg [⟨some 3, .nilr 9 1, none⟩])
    (.seq (.seq (.reg [⟨some 7, .mov (.t 0), none⟩,
      ⟨some 8, .call 32 [.t 7], none⟩,
      ⟨some 9, .len (.t 8), none⟩,
      ⟨some 10, .mov (.c (.int .i64 0)), none⟩])
    (.block 0 (.loop ir_chaseref1_WrapOf_L0)))
    (.seq (.reg [⟨some 60, .mov (.t 3), none⟩,
      ⟨some 2, .mov (.t 60), none⟩])
    .ret))))
def rs_chaseref1_WrapOf : List IRes := [.t 2]
theorem ck_chaseref1_WrapOf : chkF Tryz.prog Tryz.f11 ir_chaseref1_WrapOf rs_chaseref1_WrapOf 61 = true := by kernel_rfl

set_option maxHeartbeats 4000000 in
theorem pieces_ok (t : List UInt8) (hs : t.length ≤ 100000) (ht : textE t = true) : FCall Tryz.prog E0 27 [.str t] tStr 1 (· = strE (wrapF (linesF t).1)) := by
  unfold FCall
  refine gcallR mixed Tryz.func27 ck_produce_pieces ?_
  simp only [a0, l0, OS.ao, List.map_cons, List.map_nil, List.length_cons, List.length_nil, List.cons_append, List.nil_append, Nat.reduceSub, Nat.reduceAdd, List.replicate_succ, List.replicate_zero, ir_produce_pieces, rs_produce_pieces, ZZ, YY, Ze, ite_true, ite_false, forall_const, reduceCtorEq, Nat.reduceAdd, Nat.reduceMul, Nat.reduceLeDiff, Nat.reduceLT, Nat.reduceEqDiff]
  refine use1 (Lines_ok t (by omega)) rfl (.inl rfl) ?_
  obtain ⟨h1, h2, h3⟩ := lines_facts ht
  generalize linesF t = q at *
  obtain ⟨ls, b⟩ := q
  simp only at h1 h2 h3 ⊢
  rw [strs_eq]
  simp only [ZZ, YY, Ze, ite_true, ite_false, forall_const, reduceCtorEq, Nat.reduceAdd, Nat.reduceMul, Nat.reduceLeDiff, Nat.reduceLT, Nat.reduceEqDiff, strE_len]
  have hR0 : ([] : List (List PV)) = strE [] := rfl
  rw [hR0]
  refine loop_intro (fun n fr L => ∃ (k : Nat) (R : SRow), k ≤ ls.length ∧ n = ls.length - k ∧ (R = wrapF (ls.take k)) ∧ fr = [.any, .any, .any, .p (.sl 1 (strE ls)), .any, .row (.l 5), .any, .any, .any, .any, .any, .any, .any, .p (.sl 1 (strE ls)), .p (int (ls.length : Nat)), .p (int (k : Nat)), .any, .any, .any, .any, .any, .any, .any, .any, .any] ∧ L = [(.l 5, .row (strE R) tStr 1 true)]) (ls.length) [.any, .any, .any, .p (.sl 1 (strE ls)), .any, .row (.l 5), .any, .any, .any, .any, .any, .any, .any, .p (.sl 1 (strE ls)), .p (int (ls.length : Nat)), .p (int (0 : Nat)), .any, .any, .any, .any, .any, .any, .any, .any, .any] [(.l 5, .row (strE []) tStr 1 true)] (by simp only [ZZ, YY, Ze, ite_true, ite_false, forall_const, reduceCtorEq, Nat.reduceAdd, Nat.reduceMul, Nat.reduceLeDiff, Nat.reduceLT, Nat.reduceEqDiff, strE_len]; try trivial) (by (simp only [ZZ, YY, Ze, ite_true, ite_false, forall_const, reduceCtorEq, Nat.reduceAdd, Nat.reduceMul, Nat.reduceLeDiff, Nat.reduceLT, Nat.reduceEqDiff]; try trivial)) ⟨0, [], by omega, by omega, rfl, rfl, rfl⟩ ?_
  rintro n fr L ⟨k, R, hk, rfl, hR, rfl, rfl⟩
  simp only [ir_produce_pieces_L0, ZZ, YY, Ze, ite_true, ite_false, forall_const, reduceCtorEq, Nat.reduceAdd, Nat.reduceMul, Nat.reduceLeDiff, Nat.reduceLT, Nat.reduceEqDiff]
  refine br ?_ ?_
  · intro h
    have hlt : k < ls.length := by have := of_decide_eq_true h; omega
    obtain ⟨s, hx⟩ : ∃ s, ls[k]? = some s := ⟨_, List.getElem?_eq_getElem hlt⟩
    have hg : (strE ls).getD k [] = [.str s] := strE_get hx
    obtain ⟨hn, hsl⟩ := h3 s (List.mem_of_getElem? hx)
    have hnx : wrapF (ls.take (k + 1)) = R ++ wr s := by rw [wrapF_take hx, hR]; rfl
    have hl1 := wrapF_len ls
    have hl2 := wrapF_take_le (ls := ls) (k := k + 1)
    rw [hnx, List.length_append] at hl2
    simp only [ZZ, YY, Ze, ite_true, ite_false, forall_const, reduceCtorEq, Nat.reduceAdd, Nat.reduceMul, Nat.reduceLeDiff, Nat.reduceLT, Nat.reduceEqDiff, hg, strE_len]
    ((repeat' (with_reducible apply And.intro)) <;> try ((first | first | assumption | trivial | exact (fun hq => by rw [hq]; rfl) | exact i64_of (by omega) (by omega) | omega | (simp; done) | (simp; omega) | (intro hsc; have hs0 := hsc; (try have hsd := of_decide_eq_true hsc); (try simp only [Bool.not_eq_true', Bool.or_eq_false_iff, Bool.and_eq_true, Bool.or_eq_true, decide_eq_true_eq, decide_eq_false_iff_not] at hsc); (repeat' (with_reducible apply And.intro)) <;> (first | assumption | trivial | exact (fun hq => by rw [hq]; rfl) | exact i64_of (by omega) (by omega) | omega | (simp; done) | (simp; omega) | (intro hse; simp [hse, hs0]; done) | (intro hse; simp only [hse, hs0, Bool.true_and, Bool.and_true, Bool.not_false, Bool.not_true, Bool.and_self]; done))))))
    refine use1 (plainR (wrapped_ok s (by omega) hn)) rfl (.inl rfl) ?_
    simp only [ZZ, YY, Ze, ite_true, ite_false, forall_const, reduceCtorEq, Nat.reduceAdd, Nat.reduceMul, Nat.reduceLeDiff, Nat.reduceLT, Nat.reduceEqDiff, strE_len]
    ((repeat' (with_reducible apply And.intro)) <;> try ((first | first | assumption | trivial | exact (fun hq => by rw [hq]; rfl) | exact i64_of (by omega) (by omega) | omega | (simp; done) | (simp; omega) | (intro hsc; have hs0 := hsc; (try have hsd := of_decide_eq_true hsc); (try simp only [Bool.not_eq_true', Bool.or_eq_false_iff, Bool.and_eq_true, Bool.or_eq_true, decide_eq_true_eq, decide_eq_false_iff_not] at hsc); (repeat' (with_reducible apply And.intro)) <;> (first | assumption | trivial | exact (fun hq => by rw [hq]; rfl) | exact i64_of (by omega) (by omega) | omega | (simp; done) | (simp; omega) | (intro hse; simp [hse, hs0]; done) | (intro hse; simp only [hse, hs0, Bool.true_and, Bool.and_true, Bool.not_false, Bool.not_true, Bool.and_self]; done))))))
    rw [← strE_app]
    refine end_round (ls.length - (k + 1)) [.any, .any, .any, .p (.sl 1 (strE ls)), .any, .row (.l 5), .any, .any, .any, .any, .any, .any, .any, .p (.sl 1 (strE ls)), .p (int (ls.length : Nat)), .p (int ((k + 1) : Nat)), .any, .any, .any, .any, .any, .any, .any, .any, .any] [(.l 5, .row (strE (R ++ wr s)) tStr 1 true)] (by omega) (by (simp only [ZZ, YY, Ze, ite_true, ite_false, forall_const, reduceCtorEq, Nat.reduceAdd, Nat.reduceMul, Nat.reduceLeDiff, Nat.reduceLT, Nat.reduceEqDiff]; try trivial)) (by (simp only [ZZ, YY, Ze, ite_true, ite_false, forall_const, reduceCtorEq, Nat.reduceAdd, Nat.reduceMul, Nat.reduceLeDiff, Nat.reduceLT, Nat.reduceEqDiff]; try trivial)) ⟨k + 1, R ++ wr s, by omega, rfl, hnx.symm, rfl, rfl⟩
  · intro h
    have hge : k = ls.length := by have := of_decide_eq_false h; omega
    rw [hge, List.take_length] at hR
    simp only [ZZ, YY, Ze, ite_true, ite_false, forall_const, reduceCtorEq, Nat.reduceAdd, Nat.reduceMul, Nat.reduceLeDiff, Nat.reduceLT, Nat.reduceEqDiff]
    exact fin_F 5 _ rfl rfl (by rw [hR])
theorem Wrap_ok (t : List UInt8) (hs : t.length ≤ 100000) : PCall Tryz.prog E0 6 [.str t] (· = if bodyE t = 0 then .tup [.sl 1 (strE (wrapF (linesF t).1)), int 0] else .tup [.sl 1 [], int (bodyE t)]) := by
  refine pcallF mixed Tryz.func6 ck_produce_Wrap ?_
  simp only [a0, l0, OS.ao, List.map_cons, List.map_nil, List.length_cons, List.length_nil, List.cons_append, List.nil_append, Nat.reduceSub, Nat.reduceAdd, List.replicate_succ, List.replicate_zero, ir_produce_Wrap, rs_produce_Wrap, ZZ, YY, Ze, ite_true, ite_false, forall_const, reduceCtorEq, Nat.reduceAdd, Nat.reduceMul, Nat.reduceLeDiff, Nat.reduceLT, Nat.reduceEqDiff]
  refine use1 (ptextError_ok t (by omega)) rfl (.inl rfl) ?_
  simp only [ZZ, YY, Ze, ite_true, ite_false, forall_const, reduceCtorEq, Nat.reduceAdd, Nat.reduceMul, Nat.reduceLeDiff, Nat.reduceLT, Nat.reduceEqDiff]
  refine br ?_ ?_
  · intro h
    have h : ¬ bodyE t = 0 := by simpa using h
    simp only [ZZ, YY, Ze, ite_true, ite_false, forall_const, reduceCtorEq, Nat.reduceAdd, Nat.reduceMul, Nat.reduceLeDiff, Nat.reduceLT, Nat.reduceEqDiff]
    rw [if_neg h]
  · intro h
    have h : bodyE t = 0 := by simpa using h
    have ht : textE t = true := by
      unfold bodyE at h
      cases hq : textE t with
      | true => rfl
      | false => rw [hq] at h; simp at h; omega
    simp only [ZZ, YY, Ze, ite_true, ite_false, forall_const, reduceCtorEq, Nat.reduceAdd, Nat.reduceMul, Nat.reduceLeDiff, Nat.reduceLT, Nat.reduceEqDiff]
    refine use1 (plainR (pieces_ok t hs ht)) rfl (.inl rfl) ?_
    simp only [ZZ, YY, Ze, ite_true, ite_false, forall_const, reduceCtorEq, Nat.reduceAdd, Nat.reduceMul, Nat.reduceLeDiff, Nat.reduceLT, Nat.reduceEqDiff]
    rw [if_pos h]
set_option maxHeartbeats 4000000 in
theorem WrapOf_ok (t : List UInt8) (hs : t.length ≤ 100000) (ht : textE t = true) : FCall Tryz.prog E0 11 [.str t] tStr 1 (· = strE (wrapF (linesF t).1)) := by
  unfold FCall
  refine gcallR mixed Tryz.func11 ck_chaseref1_WrapOf ?_
  simp only [a0, l0, OS.ao, List.map_cons, List.map_nil, List.length_cons, List.length_nil, List.cons_append, List.nil_append, Nat.reduceSub, Nat.reduceAdd, List.replicate_succ, List.replicate_zero, ir_chaseref1_WrapOf, rs_chaseref1_WrapOf, ZZ, YY, Ze, ite_true, ite_false, forall_const, reduceCtorEq, Nat.reduceAdd, Nat.reduceMul, Nat.reduceLeDiff, Nat.reduceLT, Nat.reduceEqDiff]
  refine use1 (linesOf_ok t (by omega)) rfl (.inl rfl) ?_
  rw [lines_eq ht]
  obtain ⟨h1, h2, h3⟩ := lines_facts ht
  generalize (linesF t).1 = ls at *
  rw [strs_eq]
  simp only [ZZ, YY, Ze, ite_true, ite_false, forall_const, reduceCtorEq, Nat.reduceAdd, Nat.reduceMul, Nat.reduceLeDiff, Nat.reduceLT, Nat.reduceEqDiff, strE_len]
  have hR0 : ([] : List (List PV)) = strE [] := rfl
  rw [hR0]
  refine loop_intro (fun n fr L => ∃ (j : Nat) (R : SRow), j ≤ ls.length ∧ n = ls.length - j ∧ (R = wrapF (ls.take j)) ∧ fr = [.any, .any, .any, .row (.l 3), .any, .any, .any, .any, .p (.sl 1 (strE ls)), .p (int (ls.length : Nat)), .p (int (j : Nat)), .any, .any, .any, .any, .any, .any, .any, .any, .any, .any, .any, .any, .any, .any, .any, .any, .any, .any, .any, .any, .any, .any, .any, .any, .any, .any, .any, .any, .any, .any, .any, .any, .any, .any, .any, .any, .any, .any, .any, .any, .any, .any, .any, .any, .any, .any, .any, .any, .any, .any] ∧ L = [(.l 3, .row (strE R) tStr 1 true)]) (ls.length) [.any, .any, .any, .row (.l 3), .any, .any, .any, .any, .p (.sl 1 (strE ls)), .p (int (ls.length : Nat)), .p (int (0 : Nat)), .any, .any, .any, .any, .any, .any, .any, .any, .any, .any, .any, .any, .any, .any, .any, .any, .any, .any, .any, .any, .any, .any, .any, .any, .any, .any, .any, .any, .any, .any, .any, .any, .any, .any, .any, .any, .any, .any, .any, .any, .any, .any, .any, .any, .any, .any, .any, .any, .any, .any] [(.l 3, .row (strE []) tStr 1 true)] (by simp only [ZZ, YY, Ze, ite_true, ite_false, forall_const, reduceCtorEq, Nat.reduceAdd, Nat.reduceMul, Nat.reduceLeDiff, Nat.reduceLT, Nat.reduceEqDiff, strE_len]; try trivial) (by (simp only [ZZ, YY, Ze, ite_true, ite_false, forall_const, reduceCtorEq, Nat.reduceAdd, Nat.reduceMul, Nat.reduceLeDiff, Nat.reduceLT, Nat.reduceEqDiff]; try trivial)) ⟨0, [], by omega, by omega, rfl, rfl, rfl⟩ ?_
  rintro n fr L ⟨j, R, hj, rfl, hR, rfl, rfl⟩
  simp only [ir_chaseref1_WrapOf_L0, ZZ, YY, Ze, ite_true, ite_false, forall_const, reduceCtorEq, Nat.reduceAdd, Nat.reduceMul, Nat.reduceLeDiff, Nat.reduceLT, Nat.reduceEqDiff]
  refine br ?_ ?_
  · intro h
    have hlt : j < ls.length := by have := of_decide_eq_true h; omega
    obtain ⟨s0, hx⟩ : ∃ s, ls[j]? = some s := ⟨_, List.getElem?_eq_getElem hlt⟩
    have hg : (strE ls).getD j [] = [.str s0] := strE_get hx
    obtain ⟨hn, hsl0⟩ := h3 s0 (List.mem_of_getElem? hx)
    have hnx : wrapF (ls.take (j + 1)) = R ++ wr s0 := by rw [wrapF_take hx, hR]; rfl
    have hl1 := wrapF_len ls
    have hl2 := wrapF_take_le (ls := ls) (k := j + 1)
    rw [hnx, List.length_append] at hl2
    simp only [ZZ, YY, Ze, ite_true, ite_false, forall_const, reduceCtorEq, Nat.reduceAdd, Nat.reduceMul, Nat.reduceLeDiff, Nat.reduceLT, Nat.reduceEqDiff, hg, strE_len]
    ((repeat' (with_reducible apply And.intro)) <;> try ((first | first | assumption | trivial | exact (fun hq => by rw [hq]; rfl) | exact i64_of (by omega) (by omega) | omega | (simp; done) | (simp; omega) | (intro hsc; have hs0 := hsc; (try have hsd := of_decide_eq_true hsc); (try simp only [Bool.not_eq_true', Bool.or_eq_false_iff, Bool.and_eq_true, Bool.or_eq_true, decide_eq_true_eq, decide_eq_false_iff_not] at hsc); (repeat' (with_reducible apply And.intro)) <;> (first | assumption | trivial | exact (fun hq => by rw [hq]; rfl) | exact i64_of (by omega) (by omega) | omega | (simp; done) | (simp; omega) | (intro hse; simp [hse, hs0]; done) | (intro hse; simp only [hse, hs0, Bool.true_and, Bool.and_true, Bool.not_false, Bool.not_true, Bool.and_self]; done))))))
    refine loop_intro (fun n fr L => ∃ (Q : SRow) (s : List UInt8), s.length = n ∧ (Q ++ wr s = R ++ wr s0) ∧ (s.length ≤ s0.length) ∧ (NcP s) ∧ fr = [.any, .any, .any, .row (.l 3), .any, .p (.str s), .any, .any, .p (.sl 1 (strE ls)), .p (int (ls.length : Nat)), .p (int (j : Nat)), .any, .any, .any, .any, .any, .any, .any, .any, .any, .any, .any, .any, .any, .any, .any, .any, .any, .any, .any, .any, .any, .any, .any, .any, .any, .any, .any, .any, .any, .any, .any, .any, .any, .any, .any, .any, .any, .any, .any, .any, .any, .any, .any, .any, .any, .any, .any, .any, .any, .any] ∧ L = [(.l 3, .row (strE Q) tStr 1 true)]) (s0.length) [.any, .any, .any, .row (.l 3), .any, .p (.str s0), .any, .any, .p (.sl 1 (strE ls)), .p (int (ls.length : Nat)), .p (int (j : Nat)), .any, .any, .any, .any, .any, .any, .any, .any, .any, .any, .any, .any, .any, .any, .any, .any, .any, .any, .any, .any, .any, .any, .any, .any, .any, .any, .any, .any, .any, .any, .any, .any, .any, .any, .any, .any, .any, .any, .any, .any, .any, .any, .any, .any, .any, .any, .any, .any, .any, .any] [(.l 3, .row (strE R) tStr 1 true)] (by (simp only [ZZ, YY, Ze, ite_true, ite_false, forall_const, reduceCtorEq, Nat.reduceAdd, Nat.reduceMul, Nat.reduceLeDiff, Nat.reduceLT, Nat.reduceEqDiff]; try trivial)) (by (simp only [ZZ, YY, Ze, ite_true, ite_false, forall_const, reduceCtorEq, Nat.reduceAdd, Nat.reduceMul, Nat.reduceLeDiff, Nat.reduceLT, Nat.reduceEqDiff]; try trivial)) ⟨R, s0, rfl, rfl, Nat.le_refl _, hn, rfl, rfl⟩ ?_
    rintro n fr L ⟨Q, s, rfl, hQ, hsl, hns, rfl, rfl⟩
    simp only [ir_chaseref1_WrapOf_L1, ZZ, YY, Ze, ite_true, ite_false, forall_const, reduceCtorEq, Nat.reduceAdd, Nat.reduceMul, Nat.reduceLeDiff, Nat.reduceLT, Nat.reduceEqDiff]
    have hQl : Q.length ≤ 2000000 := by
      have h1 := congrArg List.length hQ
      rw [List.length_append, List.length_append] at h1
      omega
    refine br ?_ ?_
    · intro h
      have h80 : 80 < s.length := by have := of_decide_eq_true h; omega
      have hlw := liW_lt h80
      have e81 : (81 : Int).toNat = 81 := rfl
      simp only [ZZ, YY, Ze, ite_true, ite_false, forall_const, reduceCtorEq, Nat.reduceAdd, Nat.reduceMul, Nat.reduceLeDiff, Nat.reduceLT, Nat.reduceEqDiff, e81]
      ((repeat' (with_reducible apply And.intro)) <;> try ((first | first | assumption | trivial | exact (fun hq => by rw [hq]; rfl) | exact i64_of (by omega) (by omega) | omega | (simp; done) | (simp; omega) | (intro hsc; have hs0 := hsc; (try have hsd := of_decide_eq_true hsc); (try simp only [Bool.not_eq_true', Bool.or_eq_false_iff, Bool.and_eq_true, Bool.or_eq_true, decide_eq_true_eq, decide_eq_false_iff_not] at hsc); (repeat' (with_reducible apply And.intro)) <;> (first | assumption | trivial | exact (fun hq => by rw [hq]; rfl) | exact i64_of (by omega) (by omega) | omega | (simp; done) | (simp; omega) | (intro hse; simp [hse, hs0]; done) | (intro hse; simp only [hse, hs0, Bool.true_and, Bool.and_true, Bool.not_false, Bool.not_true, Bool.and_self]; done))))))
      refine use1 (LastIndex_ok (s.take 81) 32 (by rw [List.length_take]; omega)) rfl (.inl rfl) ?_
      rw [← liW_eq]
      simp only [ZZ, YY, Ze, ite_true, ite_false, forall_const, reduceCtorEq, Nat.reduceAdd, Nat.reduceMul, Nat.reduceLeDiff, Nat.reduceLT, Nat.reduceEqDiff]
      ((repeat' (with_reducible apply And.intro)) <;> try ((first | first | assumption | trivial | exact (fun hq => by rw [hq]; rfl) | exact i64_of (by omega) (by omega) | omega | (simp; done) | (simp; omega) | (intro hsc; have hs0 := hsc; (try have hsd := of_decide_eq_true hsc); (try simp only [Bool.not_eq_true', Bool.or_eq_false_iff, Bool.and_eq_true, Bool.or_eq_true, decide_eq_true_eq, decide_eq_false_iff_not] at hsc); (repeat' (with_reducible apply And.intro)) <;> (first | assumption | trivial | exact (fun hq => by rw [hq]; rfl) | exact i64_of (by omega) (by omega) | omega | (simp; done) | (simp; omega) | (intro hse; simp [hse, hs0]; done) | (intro hse; simp only [hse, hs0, Bool.true_and, Bool.and_true, Bool.not_false, Bool.not_true, Bool.and_self]; done))))))
      refine useG (fun hg => TrimSet_ok (s.take (liW s).toNat) [32] (by rw [List.length_take]; omega) (by simp) rfl) rfl (.inl rfl) ?_
      simp only [ZZ, YY, Ze, ite_true, ite_false, forall_const, reduceCtorEq, Nat.reduceAdd, Nat.reduceMul, Nat.reduceLeDiff, Nat.reduceLT, Nat.reduceEqDiff]
      ((repeat' (with_reducible apply And.intro)) <;> try ((first | first | assumption | trivial | exact (fun hq => by rw [hq]; rfl) | exact i64_of (by omega) (by omega) | omega | (simp; done) | (simp; omega) | (intro hsc; have hs0 := hsc; (try have hsd := of_decide_eq_true hsc); (try simp only [Bool.not_eq_true', Bool.or_eq_false_iff, Bool.and_eq_true, Bool.or_eq_true, decide_eq_true_eq, decide_eq_false_iff_not] at hsc); (repeat' (with_reducible apply And.intro)) <;> (first | assumption | trivial | exact (fun hq => by rw [hq]; rfl) | exact i64_of (by omega) (by omega) | omega | (simp; done) | (simp; omega) | (intro hse; simp [hse, hs0]; done) | (intro hse; simp only [hse, hs0, Bool.true_and, Bool.and_true, Bool.not_false, Bool.not_true, Bool.and_self]; done))))))
      refine br ?_ ?_
      · intro hb
        have hbk : brkB s = true := hb
        have h0 : 0 < liW s := of_decide_eq_true (Bool.and_eq_true_iff.1 hb).1
        rw [wr_brk hns h80 hbk] at hQ
        simp only [ZZ, YY, Ze, ite_true, ite_false, forall_const, reduceCtorEq, Nat.reduceAdd, Nat.reduceMul, Nat.reduceLeDiff, Nat.reduceLT, Nat.reduceEqDiff]
        refine drg0 ?_
        have e1 : (liW s + 1).toNat = (liW s).toNat + 1 := by omega
        have hdl : (s.drop ((liW s).toNat + 1)).length < s.length := by rw [List.length_drop]; omega
        have hst : strE Q ++ [[PV.str (s.take (liW s).toNat)]] = strE (Q ++ [s.take (liW s).toNat]) := by simp [strE]
        simp only [ZZ, YY, Ze, ite_true, ite_false, forall_const, reduceCtorEq, Nat.reduceAdd, Nat.reduceMul, Nat.reduceLeDiff, Nat.reduceLT, Nat.reduceEqDiff, strE_len, List.take_length, e1]
        ((repeat' (with_reducible apply And.intro)) <;> try ((first | first | assumption | trivial | exact (fun hq => by rw [hq]; rfl) | exact i64_of (by omega) (by omega) | omega | (simp; done) | (simp; omega) | (intro hsc; have hs0 := hsc; (try have hsd := of_decide_eq_true hsc); (try simp only [Bool.not_eq_true', Bool.or_eq_false_iff, Bool.and_eq_true, Bool.or_eq_true, decide_eq_true_eq, decide_eq_false_iff_not] at hsc); (repeat' (with_reducible apply And.intro)) <;> (first | assumption | trivial | exact (fun hq => by rw [hq]; rfl) | exact i64_of (by omega) (by omega) | omega | (simp; done) | (simp; omega) | (intro hse; simp [hse, hs0]; done) | (intro hse; simp only [hse, hs0, Bool.true_and, Bool.and_true, Bool.not_false, Bool.not_true, Bool.and_self]; done))))))
        rw [hst]
        refine end_round ((s.drop ((liW s).toNat + 1)).length) [.any, .any, .any, .row (.l 3), .any, .p (.str (s.drop ((liW s).toNat + 1))), .any, .any, .p (.sl 1 (strE ls)), .p (int (ls.length : Nat)), .p (int (j : Nat)), .any, .any, .any, .any, .any, .any, .any, .any, .any, .any, .any, .any, .any, .any, .any, .any, .any, .any, .any, .any, .any, .any, .any, .any, .any, .any, .any, .any, .any, .any, .any, .any, .any, .any, .any, .any, .any, .any, .any, .any, .any, .any, .any, .any, .any, .any, .any, .any, .any, .any] [(.l 3, .row (strE (Q ++ [s.take (liW s).toNat])) tStr 1 true)] (by omega) (by (simp only [ZZ, YY, Ze, ite_true, ite_false, forall_const, reduceCtorEq, Nat.reduceAdd, Nat.reduceMul, Nat.reduceLeDiff, Nat.reduceLT, Nat.reduceEqDiff]; try trivial)) (by (simp only [ZZ, YY, Ze, ite_true, ite_false, forall_const, reduceCtorEq, Nat.reduceAdd, Nat.reduceMul, Nat.reduceLeDiff, Nat.reduceLT, Nat.reduceEqDiff]; try trivial)) ⟨Q ++ [s.take (liW s).toNat], s.drop ((liW s).toNat + 1), rfl, by rw [List.append_assoc]; exact hQ, by omega, nc_drop hns _, rfl, rfl⟩
      · intro hb
        have hbk : brkB s = false := hb
        rw [wr_cut hns h80 hbk] at hQ
        obtain ⟨g1, g2⟩ := backN_ge hns h80
        simp only [ZZ, YY, Ze, ite_true, ite_false, forall_const, reduceCtorEq, Nat.reduceAdd, Nat.reduceMul, Nat.reduceLeDiff, Nat.reduceLT, Nat.reduceEqDiff]
        refine loop_intro (fun n fr L => ∃ (k : Nat), k = n ∧ (backN s k = backN s 80) ∧ (backN s 80 ≤ k) ∧ (k ≤ 80) ∧ fr = [.any, .any, .any, .row (.l 3), .any, .p (.str s), .p (int (k : Nat)), .any, .p (.sl 1 (strE ls)), .p (int (ls.length : Nat)), .p (int (j : Nat)), .any, .any, .any, .any, .any, .any, .any, .any, .any, .any, .any, .any, .any, .any, .any, .any, .any, .any, .any, .any, .any, .any, .any, .any, .any, .any, .any, .any, .any, .any, .any, .any, .any, .any, .any, .any, .any, .any, .any, .any, .any, .any, .any, .any, .any, .any, .any, .any, .any, .any] ∧ L = [(.l 3, .row (strE Q) tStr 1 true)]) (80) [.any, .any, .any, .row (.l 3), .any, .p (.str s), .p (int (80 : Nat)), .any, .p (.sl 1 (strE ls)), .p (int (ls.length : Nat)), .p (int (j : Nat)), .any, .any, .any, .any, .any, .any, .any, .any, .any, .any, .any, .any, .any, .any, .any, .any, .any, .any, .any, .any, .any, .any, .any, .any, .any, .any, .any, .any, .any, .any, .any, .any, .any, .any, .any, .any, .any, .any, .any, .any, .any, .any, .any, .any, .any, .any, .any, .any, .any, .any] [(.l 3, .row (strE Q) tStr 1 true)] (by (simp only [ZZ, YY, Ze, ite_true, ite_false, forall_const, reduceCtorEq, Nat.reduceAdd, Nat.reduceMul, Nat.reduceLeDiff, Nat.reduceLT, Nat.reduceEqDiff]; try trivial)) (by (simp only [ZZ, YY, Ze, ite_true, ite_false, forall_const, reduceCtorEq, Nat.reduceAdd, Nat.reduceMul, Nat.reduceLeDiff, Nat.reduceLT, Nat.reduceEqDiff]; try trivial)) ⟨80, rfl, rfl, backN_le s 80, Nat.le_refl _, rfl, rfl⟩ ?_
        rintro n fr L ⟨k, rfl, hk, hk2, hk3, rfl, rfl⟩
        simp only [ir_chaseref1_WrapOf_L2, ZZ, YY, Ze, ite_true, ite_false, forall_const, reduceCtorEq, Nat.reduceAdd, Nat.reduceMul, Nat.reduceLeDiff, Nat.reduceLT, Nat.reduceEqDiff]
        ((repeat' (with_reducible apply And.intro)) <;> try ((first | first | assumption | trivial | exact (fun hq => by rw [hq]; rfl) | exact i64_of (by omega) (by omega) | omega | (simp; done) | (simp; omega) | (intro hsc; have hs0 := hsc; (try have hsd := of_decide_eq_true hsc); (try simp only [Bool.not_eq_true', Bool.or_eq_false_iff, Bool.and_eq_true, Bool.or_eq_true, decide_eq_true_eq, decide_eq_false_iff_not] at hsc); (repeat' (with_reducible apply And.intro)) <;> (first | assumption | trivial | exact (fun hq => by rw [hq]; rfl) | exact i64_of (by omega) (by omega) | omega | (simp; done) | (simp; omega) | (intro hse; simp [hse, hs0]; done) | (intro hse; simp only [hse, hs0, Bool.true_and, Bool.and_true, Bool.not_false, Bool.not_true, Bool.and_self]; done))))))
        refine use1 (RuneStart_ok (s.getD k 0)) rfl (.inl rfl) ?_
        simp only [ZZ, YY, Ze, ite_true, ite_false, forall_const, reduceCtorEq, Nat.reduceAdd, Nat.reduceMul, Nat.reduceLeDiff, Nat.reduceLT, Nat.reduceEqDiff, Bool.not_not]
        refine br ?_ ?_
        · intro hc
          have hkb : backN s 80 < k := by
            rcases Nat.lt_or_eq_of_le hk2 with h1 | h1
            · exact h1
            · rw [← h1, g2] at hc; cases hc
          obtain ⟨g, rfl⟩ : ∃ g, k = g + 1 := ⟨k - 1, by omega⟩
          have hgg : ((g + 1 : Nat) : Int) - 1 = (g : Nat) := by omega
          simp only [ZZ, YY, Ze, ite_true, ite_false, forall_const, reduceCtorEq, Nat.reduceAdd, Nat.reduceMul, Nat.reduceLeDiff, Nat.reduceLT, Nat.reduceEqDiff, hgg]
          ((repeat' (with_reducible apply And.intro)) <;> try ((first | first | assumption | trivial | exact (fun hq => by rw [hq]; rfl) | exact i64_of (by omega) (by omega) | omega | (simp; done) | (simp; omega) | (intro hsc; have hs0 := hsc; (try have hsd := of_decide_eq_true hsc); (try simp only [Bool.not_eq_true', Bool.or_eq_false_iff, Bool.and_eq_true, Bool.or_eq_true, decide_eq_true_eq, decide_eq_false_iff_not] at hsc); (repeat' (with_reducible apply And.intro)) <;> (first | assumption | trivial | exact (fun hq => by rw [hq]; rfl) | exact i64_of (by omega) (by omega) | omega | (simp; done) | (simp; omega) | (intro hse; simp [hse, hs0]; done) | (intro hse; simp only [hse, hs0, Bool.true_and, Bool.and_true, Bool.not_false, Bool.not_true, Bool.and_self]; done))))))
          refine end_round ((g)) [.any, .any, .any, .row (.l 3), .any, .p (.str s), .p (int ((g) : Nat)), .any, .p (.sl 1 (strE ls)), .p (int (ls.length : Nat)), .p (int (j : Nat)), .any, .any, .any, .any, .any, .any, .any, .any, .any, .any, .any, .any, .any, .any, .any, .any, .any, .any, .any, .any, .any, .any, .any, .any, .any, .any, .any, .any, .any, .any, .any, .any, .any, .any, .any, .any, .any, .any, .any, .any, .any, .any, .any, .any, .any, .any, .any, .any, .any, .any] [(.l 3, .row (strE Q) tStr 1 true)] (by omega) (by (simp only [ZZ, YY, Ze, ite_true, ite_false, forall_const, reduceCtorEq, Nat.reduceAdd, Nat.reduceMul, Nat.reduceLeDiff, Nat.reduceLT, Nat.reduceEqDiff]; try trivial)) (by (simp only [ZZ, YY, Ze, ite_true, ite_false, forall_const, reduceCtorEq, Nat.reduceAdd, Nat.reduceMul, Nat.reduceLeDiff, Nat.reduceLT, Nat.reduceEqDiff]; try trivial)) ⟨g, rfl, back_go hk (by omega) hc, by omega, by omega, rfl, rfl⟩
        · intro hc
          have hkn := back_stop hk (by omega) (by omega) hc
          subst hkn
          have hdl : (s.drop (backN s 80)).length < s.length := by rw [List.length_drop]; omega
          have hst : strE Q ++ [[PV.str (s.take (backN s 80))]] = strE (Q ++ [s.take (backN s 80)]) := by simp [strE]
          have e1 : ((backN s 80 : Nat) : Int).toNat = backN s 80 := by omega
          simp only [ZZ, YY, Ze, ite_true, ite_false, forall_const, reduceCtorEq, Nat.reduceAdd, Nat.reduceMul, Nat.reduceLeDiff, Nat.reduceLT, Nat.reduceEqDiff]
          refine drg0 ?_
          simp only [ZZ, YY, Ze, ite_true, ite_false, forall_const, reduceCtorEq, Nat.reduceAdd, Nat.reduceMul, Nat.reduceLeDiff, Nat.reduceLT, Nat.reduceEqDiff, strE_len, List.take_length, e1]
          ((repeat' (with_reducible apply And.intro)) <;> try ((first | first | assumption | trivial | exact (fun hq => by rw [hq]; rfl) | exact i64_of (by omega) (by omega) | omega | (simp; done) | (simp; omega) | (intro hsc; have hs0 := hsc; (try have hsd := of_decide_eq_true hsc); (try simp only [Bool.not_eq_true', Bool.or_eq_false_iff, Bool.and_eq_true, Bool.or_eq_true, decide_eq_true_eq, decide_eq_false_iff_not] at hsc); (repeat' (with_reducible apply And.intro)) <;> (first | assumption | trivial | exact (fun hq => by rw [hq]; rfl) | exact i64_of (by omega) (by omega) | omega | (simp; done) | (simp; omega) | (intro hse; simp [hse, hs0]; done) | (intro hse; simp only [hse, hs0, Bool.true_and, Bool.and_true, Bool.not_false, Bool.not_true, Bool.and_self]; done))))))
          rw [hst]
          refine end_round ((s.drop (backN s 80)).length) [.any, .any, .any, .row (.l 3), .any, .p (.str (s.drop (backN s 80))), .any, .any, .p (.sl 1 (strE ls)), .p (int (ls.length : Nat)), .p (int (j : Nat)), .any, .any, .any, .any, .any, .any, .any, .any, .any, .any, .any, .any, .any, .any, .any, .any, .any, .any, .any, .any, .any, .any, .any, .any, .any, .any, .any, .any, .any, .any, .any, .any, .any, .any, .any, .any, .any, .any, .any, .any, .any, .any, .any, .any, .any, .any, .any, .any, .any, .any] [(.l 3, .row (strE (Q ++ [s.take (backN s 80)])) tStr 1 true)] (by omega) (by (simp only [ZZ, YY, Ze, ite_true, ite_false, forall_const, reduceCtorEq, Nat.reduceAdd, Nat.reduceMul, Nat.reduceLeDiff, Nat.reduceLT, Nat.reduceEqDiff]; try trivial)) (by (simp only [ZZ, YY, Ze, ite_true, ite_false, forall_const, reduceCtorEq, Nat.reduceAdd, Nat.reduceMul, Nat.reduceLeDiff, Nat.reduceLT, Nat.reduceEqDiff]; try trivial)) ⟨Q ++ [s.take (backN s 80)], s.drop (backN s 80), rfl, by rw [List.append_assoc]; exact hQ, by omega, nc_drop hns _, rfl, rfl⟩
    · intro h
      have h80 : s.length ≤ 80 := by have := of_decide_eq_false h; omega
      rw [wr_short h80] at hQ
      have hst : strE Q ++ [[PV.str s]] = strE (Q ++ [s]) := by simp [strE]
      simp only [ZZ, YY, Ze, ite_true, ite_false, forall_const, reduceCtorEq, Nat.reduceAdd, Nat.reduceMul, Nat.reduceLeDiff, Nat.reduceLT, Nat.reduceEqDiff, strE_len]
      ((repeat' (with_reducible apply And.intro)) <;> try ((first | first | assumption | trivial | exact (fun hq => by rw [hq]; rfl) | exact i64_of (by omega) (by omega) | omega | (simp; done) | (simp; omega) | (intro hsc; have hs0 := hsc; (try have hsd := of_decide_eq_true hsc); (try simp only [Bool.not_eq_true', Bool.or_eq_false_iff, Bool.and_eq_true, Bool.or_eq_true, decide_eq_true_eq, decide_eq_false_iff_not] at hsc); (repeat' (with_reducible apply And.intro)) <;> (first | assumption | trivial | exact (fun hq => by rw [hq]; rfl) | exact i64_of (by omega) (by omega) | omega | (simp; done) | (simp; omega) | (intro hse; simp [hse, hs0]; done) | (intro hse; simp only [hse, hs0, Bool.true_and, Bool.and_true, Bool.not_false, Bool.not_true, Bool.and_self]; done))))))
      rw [hst]
      refine end_round (ls.length - (j + 1)) [.any, .any, .any, .row (.l 3), .any, .any, .any, .any, .p (.sl 1 (strE ls)), .p (int (ls.length : Nat)), .p (int ((j + 1) : Nat)), .any, .any, .any, .any, .any, .any, .any, .any, .any, .any, .any, .any, .any, .any, .any, .any, .any, .any, .any, .any, .any, .any, .any, .any, .any, .any, .any, .any, .any, .any, .any, .any, .any, .any, .any, .any, .any, .any, .any, .any, .any, .any, .any, .any, .any, .any, .any, .any, .any, .any] [(.l 3, .row (strE (Q ++ [s])) tStr 1 true)] (by omega) (by (simp only [ZZ, YY, Ze, ite_true, ite_false, forall_const, reduceCtorEq, Nat.reduceAdd, Nat.reduceMul, Nat.reduceLeDiff, Nat.reduceLT, Nat.reduceEqDiff]; try trivial)) (by (simp only [ZZ, YY, Ze, ite_true, ite_false, forall_const, reduceCtorEq, Nat.reduceAdd, Nat.reduceMul, Nat.reduceLeDiff, Nat.reduceLT, Nat.reduceEqDiff]; try trivial)) ⟨j + 1, Q ++ [s], by omega, rfl, by rw [hQ, hnx], rfl, rfl⟩
  · intro h
    have hge : j = ls.length := by have := of_decide_eq_false h; omega
    rw [hge, List.take_length] at hR
    simp only [ZZ, YY, Ze, ite_true, ite_false, forall_const, reduceCtorEq, Nat.reduceAdd, Nat.reduceMul, Nat.reduceLeDiff, Nat.reduceLT, Nat.reduceEqDiff]
    exact fin_F 3 _ rfl rfl (by rw [hR])
end Go.Proofs.YtejekkhhpkeckaaGreatDoor

/- Pages, by the reference: the last page is live while lines are put to it. -/
namespace Go.Proofs.YtejekkhhpkeckaaGreatDoor
open Go.RowKit
set_option linter.unusedVariables false
set_option linter.unusedSimpArgs false
set_option linter.defProp false

/- paperchase/chaseref1.PagesOf -/
def ir_chaseref1_PagesOf_L0 : IC :=
  (.seq (.reg [⟨some 11, .bin .lss (.t 10) (.t 9), none⟩])
    (.seq (.cond (.t 11) .skip (.exit 0))
    (.seq (.block 1 (.seq (.reg [⟨some 12, .ixa 1 (.t 8) (.t 10), none⟩,
      ⟨some 13, .ld 1 false (.t 12), none⟩,
      ⟨some 5, .mov (.t 13), none⟩])
    (.seq (.seq (.reg [⟨some 14, .mov (.t 3), none⟩,
      ⟨some 15, .mov (.t 3), none⟩,
      ⟨some 16, .len (.t 15), none⟩,
      ⟨some 17, .bin .sub (.t 16) (.c (.int .i64 1)), none⟩,
      ⟨some 18, .ixa 1 (.t 14) (.t 17), none⟩,
      ⟨some 19, .ld 1 false (.t 18), none⟩,
      ⟨some 20, .len (.t 19), none⟩,
      ⟨some 21, .bin .eql (.t 20) (.c (.int .i64 50)), none⟩])
    (.cond (.t 21) (.reg [⟨some 22, .mov (.t 3), none⟩,
      ⟨some 23, .bsr 27 1 [.c (.nl 1)], none⟩,
      ⟨some 24, .app 27 1 24 (.t 22) (.t 23), none⟩,
      ⟨some 3, .mov (.t 24), none⟩]) .skip))
    (.cut (.reg [⟨some 25, .mov (.t 3), none⟩,
      ⟨some 26, .mov (.t 3), none⟩,
      ⟨some 27, .len (.t 26), none⟩,
      ⟨some 28, .bin .sub (.t 27) (.c (.int .i64 1)), none⟩,
      ⟨some 29, .mov (.t 3), none⟩,
      ⟨some 30, .mov (.t 3), none⟩,
      ⟨some 31, .len (.t 30), none⟩,
      ⟨some 32, .bin .sub (.t 31) (.c (.int .i64 1)), none⟩,
      ⟨some 33, .ixa 1 (.t 29) (.t 32), none⟩,
      ⟨some 34, .ld 1 false (.t 33), none⟩,
      ⟨some 35, .mov (.t 5), none⟩,
      ⟨some 36, .bsl 1 [.t 35], none⟩,
      ⟨some 37, .app 9 1 16 (.t 34) (.t 36), none⟩,
      ⟨some 38, .ixa 1 (.t 25) (.t 28), none⟩,
      ⟨none, .st 1 (.t 38) (.t 37), none⟩])))))
    (.reg [⟨some 39, .bin .add (.t 10) (.c (.int .i64 1)), none⟩,
      ⟨some 10, .mov (.t 39), none⟩]))))
def ir_chaseref1_PagesOf : IC :=
  (.seq (.reg [⟨some 2, .mov (.c (.nl 1)), none⟩])
    (.seq (.reg [⟨some 6, .bsr 27 1 [.c (.nl 1)], none⟩,
      ⟨some 3, .mov (.t 6), none⟩])
    (.seq (.seq (.reg [⟨some 7, .mov (.t 0), none⟩,
      ⟨some 8, .call 11 [.t 7], none⟩,
      ⟨some 9, .len (.t 8), none⟩,
      ⟨some 10, .mov (.c (.int .i64 0)), none⟩])
    (.block 0 (.loop ir_chaseref1_PagesOf_L0)))
    (.seq (.reg [⟨some 40, .mov (.t 3), none⟩,
      ⟨some 2, .mov (.t 40), none⟩])
    .ret))))
def rs_chaseref1_PagesOf : List IRes := [.t 2]
theorem ck_chaseref1_PagesOf : chkF Tryz.prog Tryz.f13 ir_chaseref1_PagesOf rs_chaseref1_PagesOf 41 = true := by kernel_rfl

abbrev tPgs : Nat := 27
/-- The cells of a table, as they lie in a row that is written. -/
def tbA (T : Tab) : List (List AV) := (tbE T).map (·.map AV.p)
theorem tbP_plain (T : Tab) : Zbb (tbA T) = some (tbE T) := by
  unfold tbA
  induction T with
  | nil => rfl
  | cons r T ih =>
    simp only [tbE, List.map_cons] at ih ⊢
    rw [Zbb, ih]
    rfl
theorem tbP_kill (T : Tab) (k : Key) : (tbA T).map (fun x => x.map fun y => AV.kill k y) = tbA T := by
  unfold tbA
  rw [List.map_map]
  exact List.map_congr_left fun x _ => map_kill_p k x
theorem tbP_ren (T : Tab) : (tbA T ++ [[AV.row (.l 37)]]).map (fun x => x.map fun y => AV.ren (r1 37 1000) y) = tbA T ++ [[AV.row (.l 1000)]] := by
  rw [List.map_append]
  congr 1
  unfold tbA
  rw [List.map_map]
  exact List.map_congr_left fun x _ => by rw [Function.comp_apply, List.map_map]; exact List.map_congr_left fun _ _ => rfl
theorem tbP_len (T : Tab) : (tbA T).length = T.length := by simp [tbA, tbE]
theorem tbP_len1 (T : Tab) (x : List AV) : (tbA T ++ [x]).length = T.length + 1 := by rw [List.length_append, tbP_len]; rfl
theorem tbP_last (T : Tab) (x : List AV) : (tbA T ++ [x]).getD T.length [] = x := by
  rw [List.getD, List.getElem?_append_right (by rw [tbP_len]; exact Nat.le_refl _), tbP_len, Nat.sub_self]
  rfl
theorem tbP_setl (T : Tab) (x y : List AV) : (tbA T ++ [x]).set T.length y = tbA T ++ [y] := by
  rw [List.set_append_right _ _ (by rw [tbP_len]; exact Nat.le_refl _), tbP_len, Nat.sub_self]
  rfl
theorem tbP_k1 (T : Tab) (k : Key) (c : AV) : (tbA T ++ [[c]]).map (fun x => x.map fun y => AV.kill k y) = tbA T ++ [[c.kill k]] := by
  rw [List.map_append, tbP_kill]; rfl
/-- The objects behind some lines. -/
def PgJ (L : Objs) (p : SRow) (k : Nat) : Prop :=
  (k = 0 ∧ Zas L (.l 6) = some (.rowv (tbA [] ++ [[.p (.nl 1)]]) tPgs 1)) ∨ (0 < k ∧ Zas L (.l 6) = some (.rowv (tbA (pgIn p k) ++ [[.row (.l 1000)]]) tPgs 1) ∧ Zas L (.l 1000) = some (.row (strE (pgCu p k)) tStr 1 true))
theorem pg_close {E : Envt} {fr : List AV} {L : Objs} {I : Tab} {cur : SRow} {x : List (List AV)} (hfr : ∀ y, fr.map (·.thaw (.l 1000) y) = fr) (hx : ∀ y, x.map (fun c => c.map (AV.thaw (.l 1000) y)) = x) (h1 : Zas L (.l 6) = some (.rowv (tbA I ++ [[.row (.l 1000)]] ++ x) tPgs 1)) (h2 : Zas L (.l 1000) = some (.row (strE cur) tStr 1 true)) :
    ∃ L', ReOk E fr L fr L' ∧ Zas L' (.l 6) = some (.rowv (tbA (I ++ [cur]) ++ x) tPgs 1) := by
  have hr := re_row (E := E) (fr := fr) h2
  rw [hfr] at hr
  refine ⟨_, hr, ?_⟩
  rw [look_thawO, if_neg (by simp), h1, Option.map_some, AO.thaw]
  congr 2
  rw [List.map_append, List.map_append, hx]
  simp [tbA, tbE, AV.thaw]
set_option maxHeartbeats 4000000 in
theorem PagesOf_ok (t : List UInt8) (hs : t.length ≤ 100000) (ht : textE t = true) : FCall Tryz.prog E0 13 [.str t] tPgs 1 (· = tbE (pgsF (wrapF (linesF t).1))) := by
  unfold FCall
  refine gcallR mixed Tryz.func13 ck_chaseref1_PagesOf ?_
  simp only [a0, l0, OS.ao, List.map_cons, List.map_nil, List.length_cons, List.length_nil, List.cons_append, List.nil_append, Nat.reduceSub, Nat.reduceAdd, List.replicate_succ, List.replicate_zero, ir_chaseref1_PagesOf, rs_chaseref1_PagesOf, ZZ, YY, Ze, ite_true, ite_false, forall_const, reduceCtorEq, Nat.reduceAdd, Nat.reduceMul, Nat.reduceLeDiff, Nat.reduceLT, Nat.reduceEqDiff]
  refine use1 (plainR (WrapOf_ok t hs ht)) rfl (.inl rfl) ?_
  have hpl : (wrapF (linesF t).1).length ≤ 1000000 := by
    have h1 := wrapF_len (linesF t).1
    have h2 := (lines_facts ht).1
    omega
  generalize wrapF (linesF t).1 = p at *
  simp only [ZZ, YY, Ze, ite_true, ite_false, forall_const, reduceCtorEq, Nat.reduceAdd, Nat.reduceMul, Nat.reduceLeDiff, Nat.reduceLT, Nat.reduceEqDiff, strE_len]
  obtain ⟨J, hJ⟩ : ∃ J : Nat → Objs → Prop, J = fun k L => (k < p.length ∧ PgJ L p k) ∨ (k = p.length ∧ Zas L (.l 6) = some (.row (tbE (pgsF p)) tPgs 1 true)) := ⟨_, rfl⟩
  have hnx : ∀ k L, k ≤ p.length → PgJ L p k → ∃ L', ReOk E0 [.p (.str t), .any, .any, .row (.l 6), .any, .any, .any, .any, .p (.sl 1 (strE p)), .p (int (p.length : Nat)), .p (int (k : Nat)), .any, .any, .any, .any, .any, .any, .any, .any, .any, .any, .any, .any, .any, .any, .any, .any, .any, .any, .any, .any, .any, .any, .any, .any, .any, .any, .any, .any, .any, .any] L [.p (.str t), .any, .any, .row (.l 6), .any, .any, .any, .any, .p (.sl 1 (strE p)), .p (int (p.length : Nat)), .p (int (k : Nat)), .any, .any, .any, .any, .any, .any, .any, .any, .any, .any, .any, .any, .any, .any, .any, .any, .any, .any, .any, .any, .any, .any, .any, .any, .any, .any, .any, .any, .any, .any] L' ∧ J k L' := by
    intro k L hk h
    by_cases hkl : k < p.length
    · exact ⟨L, ReOk.refl, by rw [hJ]; exact .inl ⟨hkl, h⟩⟩
    · rcases h with ⟨h0, h1⟩ | ⟨h0, h1, h2⟩
      · have hp : p = [] := List.eq_nil_of_length_eq_zero (by omega)
        refine ⟨_, re_plain h1 (es' := [[.sl 1 []]]) rfl, ?_⟩
        rw [hJ]
        refine .inr ⟨by omega, ?_⟩
        rw [look_putO, if_pos rfl, pgsF, if_pos hp]
        rfl
      · have hp : p ≠ [] := by intro e; rw [e] at hk; simp at hk; omega
        have hkp : k = p.length := by omega
        obtain ⟨L1, r1, h3⟩ := pg_close (E := E0) (fr := [.p (.str t), .any, .any, .row (.l 6), .any, .any, .any, .any, .p (.sl 1 (strE p)), .p (int (p.length : Nat)), .p (int (k : Nat)), .any, .any, .any, .any, .any, .any, .any, .any, .any, .any, .any, .any, .any, .any, .any, .any, .any, .any, .any, .any, .any, .any, .any, .any, .any, .any, .any, .any, .any, .any]) (x := []) (by
          intro y
          have e1 : (Key.l 6 = .l 1000) = False := by simp
          simp only [List.map_cons, List.map_nil, AV.thaw, e1, if_false]) (fun _ => rfl) (by rw [List.append_nil]; exact h1) h2
        rw [List.append_nil, hkp, pg_end hp] at h3
        refine ⟨_, ReOk.trans r1 (re_plain h3 (tbP_plain _)), ?_⟩
        rw [hJ]
        refine .inr ⟨hkp, ?_⟩
        rw [look_putO, if_pos rfl]
  obtain ⟨L1, q1, q2⟩ := hnx 0 [(.l 6, .rowv [[.p (.nl 1)]] tPgs 1)] (by omega) (.inl ⟨rfl, rfl⟩)
  refine loop_re (fun m fr L => ∃ k, k ≤ p.length ∧ m = p.length - k ∧ fr = [.p (.str t), .any, .any, .row (.l 6), .any, .any, .any, .any, .p (.sl 1 (strE p)), .p (int (p.length : Nat)), .p (int (k : Nat)), .any, .any, .any, .any, .any, .any, .any, .any, .any, .any, .any, .any, .any, .any, .any, .any, .any, .any, .any, .any, .any, .any, .any, .any, .any, .any, .any, .any, .any, .any] ∧ J k L) p.length [.p (.str t), .any, .any, .row (.l 6), .any, .any, .any, .any, .p (.sl 1 (strE p)), .p (int (p.length : Nat)), .p (int (0 : Nat)), .any, .any, .any, .any, .any, .any, .any, .any, .any, .any, .any, .any, .any, .any, .any, .any, .any, .any, .any, .any, .any, .any, .any, .any, .any, .any, .any, .any, .any, .any] L1 (ReOk.trans (re_le (by simp only [ZZ, YY, Ze, ite_true, ite_false, forall_const, reduceCtorEq, Nat.reduceAdd, Nat.reduceMul, Nat.reduceLeDiff, Nat.reduceLT, Nat.reduceEqDiff, strE_len]; try trivial)) q1) ⟨0, by omega, by omega, rfl, q2⟩ ?_
  clear q1 q2 L1
  rintro m fr L ⟨k, hk, rfl, rfl, hj⟩
  simp only [ir_chaseref1_PagesOf_L0, ZZ, YY, Ze, ite_true, ite_false, forall_const, reduceCtorEq, Nat.reduceAdd, Nat.reduceMul, Nat.reduceLeDiff, Nat.reduceLT, Nat.reduceEqDiff]
  rw [hJ] at hj
  refine br ?_ ?_
  · intro h
    have hlt : k < p.length := by have := of_decide_eq_true h; omega
    rcases hj with ⟨_, hj⟩ | ⟨e, _⟩
    rotate_left
    · omega
    obtain ⟨s, hsx⟩ : ∃ s, p[k]? = some s := ⟨_, List.getElem?_eq_getElem hlt⟩
    have hg : (strE p).getD k [] = [.str s] := strE_get hsx
    have hnx1 := fun L => hnx (k + 1) L (by omega)
    have hIl : (pgIn p k).length ≤ 1000000 := by rw [pgIn_len]; omega
    have hCl := pgCu_le (p := p) (k := k) hk
    rcases hj with ⟨h0, hl1⟩ | ⟨h0, hl1, hl2⟩
    · subst h0
      obtain ⟨w1, w2⟩ := pg_one hsx
      obtain ⟨I, hI⟩ : ∃ I : Tab, I = [] := ⟨_, rfl⟩
      have w1 : pgIn p (0 + 1) = I := by rw [hI]; exact w1
      have w2 : pgCu p (0 + 1) = [s] := w2
      rw [← hI] at hl1
      have hix : ((I.length + 1 : Nat) : Int) - 1 = (I.length : Nat) := by omega
      have hIl : I.length ≤ 1000000 := by rw [hI]; simp
      clear hI
      simp only [ZZ, YY, Ze, ite_true, ite_false, forall_const, reduceCtorEq, Nat.reduceAdd, Nat.reduceMul, Nat.reduceLeDiff, Nat.reduceLT, Nat.reduceEqDiff, hg, strE_len, hl1, tbP_len1, hix, tbP_last]
      ((repeat' (with_reducible apply And.intro)) <;> try ((first | first | assumption | trivial | exact (fun hq => by rw [hq]; rfl) | exact i64_of (by omega) (by omega) | omega | (simp; done) | (simp; omega) | (intro hsc; have hs0 := hsc; (try have hsd := of_decide_eq_true hsc); (try simp only [Bool.not_eq_true', Bool.or_eq_false_iff, Bool.and_eq_true, Bool.or_eq_true, decide_eq_true_eq, decide_eq_false_iff_not] at hsc); (repeat' (with_reducible apply And.intro)) <;> (first | assumption | trivial | exact (fun hq => by rw [hq]; rfl) | exact i64_of (by omega) (by omega) | omega | (simp; done) | (simp; omega) | (intro hse; simp [hse, hs0]; done) | (intro hse; simp only [hse, hs0, Bool.true_and, Bool.and_true, Bool.not_false, Bool.not_true, Bool.and_self]; done))))))
      refine br (fun h => by simp at h) ?_
      intro _
      simp only [ZZ, YY, Ze, ite_true, ite_false, forall_const, reduceCtorEq, Nat.reduceAdd, Nat.reduceMul, Nat.reduceLeDiff, Nat.reduceLT, Nat.reduceEqDiff]
      refine cut_re _ _ ReOk.refl ?_
      simp only [ZZ, YY, Ze, ite_true, ite_false, forall_const, reduceCtorEq, Nat.reduceAdd, Nat.reduceMul, Nat.reduceLeDiff, Nat.reduceLT, Nat.reduceEqDiff, look_updL, look_putO, look_killO, hl1, tbP_len1, hix, tbP_last, tbP_setl, tbP_k1]
      ((repeat' (with_reducible apply And.intro)) <;> try ((first | first | assumption | trivial | exact (fun hq => by rw [hq]; rfl) | exact i64_of (by omega) (by omega) | omega | (simp; done) | (simp; omega) | (intro hsc; have hs0 := hsc; (try have hsd := of_decide_eq_true hsc); (try simp only [Bool.not_eq_true', Bool.or_eq_false_iff, Bool.and_eq_true, Bool.or_eq_true, decide_eq_true_eq, decide_eq_false_iff_not] at hsc); (repeat' (with_reducible apply And.intro)) <;> (first | assumption | trivial | exact (fun hq => by rw [hq]; rfl) | exact i64_of (by omega) (by omega) | omega | (simp; done) | (simp; omega) | (intro hse; simp [hse, hs0]; done) | (intro hse; simp only [hse, hs0, Bool.true_and, Bool.and_true, Bool.not_false, Bool.not_true, Bool.and_self]; done))))))
      generalize hLL : Zat (Zat _ (Key.l 37) _) (Key.l 6) _ = LL
      obtain ⟨L2, r2, h2⟩ := hnx1 (mapO (r1 37 1000) LL) (by
        refine .inr ⟨by omega, ?_, ?_⟩
        · rw [w1, ← hLL, look_ren1, if_neg (by simp), if_neg (by simp), look_putO, if_pos rfl]
          simp only [Option.map_some, AO.ren]
          exact congrArg (fun c => some (AO.rowv c tPgs 1)) (tbP_ren _)
        · rw [w2, ← hLL, look_ren1, if_pos rfl, look_putO, if_neg (by simp), look_putO, if_pos rfl]
          rfl)
      refine end_re (p.length - (0 + 1)) [.p (.str t), .any, .any, .row (.l 6), .any, .any, .any, .any, .p (.sl 1 (strE p)), .p (int (p.length : Nat)), .p (int (0 + 1 : Nat)), .any, .any, .any, .any, .any, .any, .any, .any, .any, .any, .any, .any, .any, .any, .any, .any, .any, .any, .any, .any, .any, .any, .any, .any, .any, .any, .any, .any, .any, .any] L2 (by omega) (ReOk.trans (re_ren 37 1000) (ReOk.trans (re_le (by simp only [AV.ren, r1, ZZ, YY, Ze, ite_true, ite_false, forall_const, reduceCtorEq, Nat.reduceAdd, Nat.reduceMul, Nat.reduceLeDiff, Nat.reduceLT, Nat.reduceEqDiff]; try trivial)) r2)) ⟨0 + 1, by omega, rfl, rfl, h2⟩
    · obtain ⟨I, hI⟩ : ∃ I : Tab, I = pgIn p k := ⟨_, rfl⟩
      obtain ⟨cur, hcu⟩ : ∃ cur : SRow, cur = pgCu p k := ⟨_, rfl⟩
      have hix : ((I.length + 1 : Nat) : Int) - 1 = (I.length : Nat) := by omega
      rw [← hI] at hl1 hIl
      rw [← hcu] at hl2 hCl
      simp only [ZZ, YY, Ze, ite_true, ite_false, forall_const, reduceCtorEq, Nat.reduceAdd, Nat.reduceMul, Nat.reduceLeDiff, Nat.reduceLT, Nat.reduceEqDiff, hg, strE_len, hl1, hl2, tbP_len1, hix, tbP_last]
      ((repeat' (with_reducible apply And.intro)) <;> try ((first | first | assumption | trivial | exact (fun hq => by rw [hq]; rfl) | exact i64_of (by omega) (by omega) | omega | (simp; done) | (simp; omega) | (intro hsc; have hs0 := hsc; (try have hsd := of_decide_eq_true hsc); (try simp only [Bool.not_eq_true', Bool.or_eq_false_iff, Bool.and_eq_true, Bool.or_eq_true, decide_eq_true_eq, decide_eq_false_iff_not] at hsc); (repeat' (with_reducible apply And.intro)) <;> (first | assumption | trivial | exact (fun hq => by rw [hq]; rfl) | exact i64_of (by omega) (by omega) | omega | (simp; done) | (simp; omega) | (intro hse; simp [hse, hs0]; done) | (intro hse; simp only [hse, hs0, Bool.true_and, Bool.and_true, Bool.not_false, Bool.not_true, Bool.and_self]; done))))))
      refine br ?_ ?_
      · intro h50
        have h50 : (pgCu p k).length = 50 := by rw [← hcu]; have := of_decide_eq_true h50; omega
        obtain ⟨w1, w2⟩ := pg_full h0 h50 hsx
        rw [← hI, ← hcu] at w1
        simp only [ZZ, YY, Ze, ite_true, ite_false, forall_const, reduceCtorEq, Nat.reduceAdd, Nat.reduceMul, Nat.reduceLeDiff, Nat.reduceLT, Nat.reduceEqDiff, look_updL, look_putO, look_killO, hl1, hl2, tbP_len1, tbP_k1]
        ((repeat' (with_reducible apply And.intro)) <;> try ((first | first | assumption | trivial | exact (fun hq => by rw [hq]; rfl) | exact i64_of (by omega) (by omega) | omega | (simp; done) | (simp; omega) | (intro hsc; have hs0 := hsc; (try have hsd := of_decide_eq_true hsc); (try simp only [Bool.not_eq_true', Bool.or_eq_false_iff, Bool.and_eq_true, Bool.or_eq_true, decide_eq_true_eq, decide_eq_false_iff_not] at hsc); (repeat' (with_reducible apply And.intro)) <;> (first | assumption | trivial | exact (fun hq => by rw [hq]; rfl) | exact i64_of (by omega) (by omega) | omega | (simp; done) | (simp; omega) | (intro hse; simp [hse, hs0]; done) | (intro hse; simp only [hse, hs0, Bool.true_and, Bool.and_true, Bool.not_false, Bool.not_true, Bool.and_self]; done))))))
        generalize hLL : Zat (Zau _ (Zat _ (Key.l 23) _)) (Key.l 6) _ = LL
        have q1 : Zas LL (.l 6) = some (.rowv (tbA I ++ [[.row (.l 1000)]] ++ [[.p (.nl 1)]]) tPgs 1) := by rw [← hLL, look_putO, if_pos rfl]
        have q2 : Zas LL (.l 1000) = some (.row (strE cur) tStr 1 true) := by
          rw [← hLL]
          simp only [look_putO, look_killO, hl2, ZZ, YY, Ze, ite_true, ite_false, forall_const, reduceCtorEq, Nat.reduceAdd, Nat.reduceMul, Nat.reduceLeDiff, Nat.reduceLT, Nat.reduceEqDiff]
        clear hLL hl1 hl2
        obtain ⟨L3, r3, hl1⟩ := pg_close (E := E0) (fr := [.p (.str t), .any, .any, .row (.l 6), .any, .p (.str s), .any, .any, .p (.sl 1 (strE p)), .p (int (p.length : Nat)), .p (int (k : Nat)), .any, .any, .any, .any, .any, .any, .any, .any, .any, .any, .any, .any, .any, .any, .any, .any, .any, .any, .any, .any, .any, .any, .any, .any, .any, .any, .any, .any, .any, .any]) (x := [[.p (.nl 1)]]) (by
          intro y
          have e1 : (Key.l 6 = .l 1000) = False := by simp
          simp only [List.map_cons, List.map_nil, AV.thaw, e1, if_false]) (fun _ => rfl) q1 q2
        refine cut_re [.p (.str t), .any, .any, .row (.l 6), .any, .p (.str s), .any, .any, .p (.sl 1 (strE p)), .p (int (p.length : Nat)), .p (int (k : Nat)), .any, .any, .any, .any, .any, .any, .any, .any, .any, .any, .any, .any, .any, .any, .any, .any, .any, .any, .any, .any, .any, .any, .any, .any, .any, .any, .any, .any, .any, .any] L3 (ReOk.trans (re_le (by simp only [ZZ, YY, Ze, ite_true, ite_false, forall_const, reduceCtorEq, Nat.reduceAdd, Nat.reduceMul, Nat.reduceLeDiff, Nat.reduceLT, Nat.reduceEqDiff]; try trivial)) r3) ?_
        clear r3 q1 q2
        obtain ⟨I2, hI2⟩ : ∃ I2 : Tab, I2 = I ++ [cur] := ⟨_, rfl⟩
        rw [← hI2] at hl1 w1
        have hix : ((I2.length + 1 : Nat) : Int) - 1 = (I2.length : Nat) := by omega
        have hIl : I2.length ≤ 2000000 := by rw [hI2, List.length_append]; simp; omega
        clear hI2
        simp only [ZZ, YY, Ze, ite_true, ite_false, forall_const, reduceCtorEq, Nat.reduceAdd, Nat.reduceMul, Nat.reduceLeDiff, Nat.reduceLT, Nat.reduceEqDiff, look_updL, look_putO, look_killO, hl1, tbP_len1, hix, tbP_last, tbP_setl, tbP_k1]
        ((repeat' (with_reducible apply And.intro)) <;> try ((first | first | assumption | trivial | exact (fun hq => by rw [hq]; rfl) | exact i64_of (by omega) (by omega) | omega | (simp; done) | (simp; omega) | (intro hsc; have hs0 := hsc; (try have hsd := of_decide_eq_true hsc); (try simp only [Bool.not_eq_true', Bool.or_eq_false_iff, Bool.and_eq_true, Bool.or_eq_true, decide_eq_true_eq, decide_eq_false_iff_not] at hsc); (repeat' (with_reducible apply And.intro)) <;> (first | assumption | trivial | exact (fun hq => by rw [hq]; rfl) | exact i64_of (by omega) (by omega) | omega | (simp; done) | (simp; omega) | (intro hse; simp [hse, hs0]; done) | (intro hse; simp only [hse, hs0, Bool.true_and, Bool.and_true, Bool.not_false, Bool.not_true, Bool.and_self]; done))))))
        generalize hLL : Zat (Zat _ (Key.l 37) _) (Key.l 6) _ = LL
        obtain ⟨L2, r2, h2⟩ := hnx1 (mapO (r1 37 1000) LL) (by
          refine .inr ⟨by omega, ?_, ?_⟩
          · rw [w1, ← hLL, look_ren1, if_neg (by simp), if_neg (by simp), look_putO, if_pos rfl]
            simp only [Option.map_some, AO.ren]
            exact congrArg (fun c => some (AO.rowv c tPgs 1)) (tbP_ren _)
          · rw [w2, ← hLL, look_ren1, if_pos rfl, look_putO, if_neg (by simp), look_putO, if_pos rfl]
            rfl)
        refine end_re (p.length - (k + 1)) [.p (.str t), .any, .any, .row (.l 6), .any, .any, .any, .any, .p (.sl 1 (strE p)), .p (int (p.length : Nat)), .p (int (k + 1 : Nat)), .any, .any, .any, .any, .any, .any, .any, .any, .any, .any, .any, .any, .any, .any, .any, .any, .any, .any, .any, .any, .any, .any, .any, .any, .any, .any, .any, .any, .any, .any] L2 (by omega) (ReOk.trans (re_ren 37 1000) (ReOk.trans (re_le (by simp only [AV.ren, r1, ZZ, YY, Ze, ite_true, ite_false, forall_const, reduceCtorEq, Nat.reduceAdd, Nat.reduceMul, Nat.reduceLeDiff, Nat.reduceLT, Nat.reduceEqDiff]; try trivial)) r2)) ⟨k + 1, by omega, rfl, rfl, h2⟩
      · intro h50
        have h50 : ¬ (pgCu p k).length = 50 := by rw [← hcu]; have := of_decide_eq_false h50; omega
        obtain ⟨w1, w2⟩ := pg_more h0 h50 hsx
        rw [← hI] at w1
        rw [← hcu] at w2
        simp only [ZZ, YY, Ze, ite_true, ite_false, forall_const, reduceCtorEq, Nat.reduceAdd, Nat.reduceMul, Nat.reduceLeDiff, Nat.reduceLT, Nat.reduceEqDiff]
        refine cut_re _ _ ReOk.refl ?_
        simp only [ZZ, YY, Ze, ite_true, ite_false, forall_const, reduceCtorEq, Nat.reduceAdd, Nat.reduceMul, Nat.reduceLeDiff, Nat.reduceLT, Nat.reduceEqDiff, look_updL, look_putO, look_killO, hl1, hl2, tbP_len1, hix, tbP_last, tbP_setl, tbP_k1, strE_len]
        ((repeat' (with_reducible apply And.intro)) <;> try ((first | first | assumption | trivial | exact (fun hq => by rw [hq]; rfl) | exact i64_of (by omega) (by omega) | omega | (simp; done) | (simp; omega) | (intro hsc; have hs0 := hsc; (try have hsd := of_decide_eq_true hsc); (try simp only [Bool.not_eq_true', Bool.or_eq_false_iff, Bool.and_eq_true, Bool.or_eq_true, decide_eq_true_eq, decide_eq_false_iff_not] at hsc); (repeat' (with_reducible apply And.intro)) <;> (first | assumption | trivial | exact (fun hq => by rw [hq]; rfl) | exact i64_of (by omega) (by omega) | omega | (simp; done) | (simp; omega) | (intro hse; simp [hse, hs0]; done) | (intro hse; simp only [hse, hs0, Bool.true_and, Bool.and_true, Bool.not_false, Bool.not_true, Bool.and_self]; done))))))
        generalize hLL : Zat (Zat _ (Key.l 1000) _) (Key.l 6) _ = LL
        obtain ⟨L2, r2, h2⟩ := hnx1 LL (.inr ⟨by omega, by rw [w1, ← hLL, look_putO, if_pos rfl], by rw [w2, ← hLL, look_putO, if_neg (by simp), look_putO, if_pos rfl, strE_app]; rfl⟩)
        refine end_re (p.length - (k + 1)) [.p (.str t), .any, .any, .row (.l 6), .any, .any, .any, .any, .p (.sl 1 (strE p)), .p (int (p.length : Nat)), .p (int (k + 1 : Nat)), .any, .any, .any, .any, .any, .any, .any, .any, .any, .any, .any, .any, .any, .any, .any, .any, .any, .any, .any, .any, .any, .any, .any, .any, .any, .any, .any, .any, .any, .any] L2 (by omega) (ReOk.trans (re_le (by simp only [ZZ, YY, Ze, ite_true, ite_false, forall_const, reduceCtorEq, Nat.reduceAdd, Nat.reduceMul, Nat.reduceLeDiff, Nat.reduceLT, Nat.reduceEqDiff]; try trivial)) r2) ⟨k + 1, by omega, rfl, rfl, h2⟩
  · intro h
    have hge : k = p.length := by have := of_decide_eq_false h; omega
    rcases hj with ⟨e, _⟩ | ⟨_, hO⟩
    · omega
    subst hge
    simp only [ZZ, YY, Ze, ite_true, ite_false, forall_const, reduceCtorEq, Nat.reduceAdd, Nat.reduceMul, Nat.reduceLeDiff, Nat.reduceLT, Nat.reduceEqDiff]
    exact fin_F 6 _ rfl hO rfl
end Go.Proofs.YtejekkhhpkeckaaGreatDoor

/- slices.Equal of strings. -/
namespace Go.Proofs.YtejekkhhpkeckaaGreatDoor
set_option linter.unusedVariables false
set_option linter.unusedSimpArgs false
set_option linter.defProp false
/- slices.Equal[[]string,string] -/
def ir_slices_Equal_string_string_L0 : IC :=
  (.seq (.reg [⟨some 14, .bin .lss (.t 13) (.t 12), none⟩])
    (.seq (.cond (.t 14) .skip (.exit 0))
    (.seq (.block 1 (.seq (.reg [⟨some 15, .mov (.t 13), none⟩,
      ⟨some 5, .mov (.t 15), none⟩])
    (.seq (.drg [⟨some 16, .mov (.t 0), none⟩,
      ⟨some 17, .mov (.t 5), none⟩,
      ⟨some 18, .ixa 1 (.t 16) (.t 17), none⟩,
      ⟨some 19, .ld 1 false (.t 18), none⟩,
      ⟨some 20, .mov (.t 1), none⟩,
      ⟨some 21, .mov (.t 5), none⟩,
      ⟨some 22, .ixa 1 (.t 20) (.t 21), none⟩,
      ⟨some 23, .ld 1 false (.t 22), none⟩,
      ⟨some 24, .bin .neq (.t 19) (.t 23), none⟩])
    (.cond (.t 24) (.seq (.reg [⟨some 4, .mov (.c (.bool false)), none⟩])
    .ret) .skip))))
    (.reg [⟨some 25, .bin .add (.t 13) (.c (.int .i64 1)), none⟩,
      ⟨some 13, .mov (.t 25), none⟩]))))
def ir_slices_Equal_string_string : IC :=
  (.seq (.reg [⟨some 4, .mov (.c (.bool false)), none⟩])
    (.seq (.seq (.reg [⟨some 6, .mov (.t 0), none⟩,
      ⟨some 7, .len (.t 6), none⟩,
      ⟨some 8, .mov (.t 1), none⟩,
      ⟨some 9, .len (.t 8), none⟩,
      ⟨some 10, .bin .neq (.t 7) (.t 9), none⟩])
    (.cond (.t 10) (.seq (.reg [⟨some 4, .mov (.c (.bool false)), none⟩])
    .ret) .skip))
    (.seq (.seq (.reg [⟨some 11, .mov (.t 0), none⟩,
      ⟨some 12, .len (.t 11), none⟩,
      ⟨some 13, .mov (.c (.int .i64 0)), none⟩])
    (.block 0 (.loop ir_slices_Equal_string_string_L0)))
    (.seq (.reg [⟨some 4, .mov (.c (.bool true)), none⟩])
    .ret))))
def rs_slices_Equal_string_string : List IRes := [.t 4]
theorem ck_slices_Equal_string_string : chkF Tryz.prog Tryz.f10 ir_slices_Equal_string_string rs_slices_Equal_string_string 26 = true := by kernel_rfl

section
variable {E : Envt}
theorem EqualT_ok (l m : List (List UInt8)) (hl : l.length ≤ 1000000000) : PCall Tryz.prog E 10 [strs l, strs m] (· = .bool (decide (l = m))) := by
  refine pcallF mixed Tryz.func10 ck_slices_Equal_string_string ?_
  simp only [a0, l0, OS.ao, List.map_cons, List.map_nil, List.length_cons, List.length_nil, List.cons_append, List.nil_append, Nat.reduceSub, Nat.reduceAdd, List.replicate_succ, List.replicate_zero, ir_slices_Equal_string_string, rs_slices_Equal_string_string, ZZ, YY, Ze, ite_true, ite_false, forall_const, reduceCtorEq, Nat.reduceAdd, Nat.reduceMul, Nat.reduceLeDiff, Nat.reduceLT, Nat.reduceEqDiff]
  simp only [strs, ZZ, YY, Ze, ite_true, ite_false, forall_const, reduceCtorEq, Nat.reduceAdd, Nat.reduceMul, Nat.reduceLeDiff, Nat.reduceLT, Nat.reduceEqDiff]
  have hln : (l.map fun x => [PV.str x]).length = l.length := by simp
  have hlm : (m.map fun x => [PV.str x]).length = m.length := by simp
  have hget : ∀ k x, l[k]? = some x → (l.map fun x => [PV.str x]).getD k [] = [.str x] := fun k p hp => getD_map hp
  have hgem : ∀ k x, m[k]? = some x → (m.map fun x => [PV.str x]).getD k [] = [.str x] := fun k p hp => getD_map hp
  generalize (l.map fun x => [PV.str x]) = es at *
  generalize (m.map fun x => [PV.str x]) = fs at *
  simp only [ZZ, YY, Ze, ite_true, ite_false, forall_const, reduceCtorEq, Nat.reduceAdd, Nat.reduceMul, Nat.reduceLeDiff, Nat.reduceLT, Nat.reduceEqDiff, hln, hlm]
  refine br ?_ ?_
  · intro h
    have : ¬ l = m := by rintro rfl; simp at h
    simp only [ZZ, YY, Ze, ite_true, ite_false, forall_const, reduceCtorEq, Nat.reduceAdd, Nat.reduceMul, Nat.reduceLeDiff, Nat.reduceLT, Nat.reduceEqDiff]
    simp [this]
  intro h
  have hlen : l.length = m.length := by have : (l.length : Int) = m.length := by simpa using h
                                        omega
  simp only [ZZ, YY, Ze, ite_true, ite_false, forall_const, reduceCtorEq, Nat.reduceAdd, Nat.reduceMul, Nat.reduceLeDiff, Nat.reduceLT, Nat.reduceEqDiff]
  refine loop_intro (fun n fr L => ∃ (k : Nat), k ≤ l.length ∧ n = l.length - k ∧ (l.take k = m.take k) ∧ fr = [.p (.sl 1 es), .p (.sl 1 fs), .any, .any, .any, .any, .any, .any, .any, .any, .any, .any, .p (int (l.length : Nat)), .p (int (k : Nat)), .any, .any, .any, .any, .any, .any, .any, .any, .any, .any, .any, .any] ∧ L = []) (l.length) [.p (.sl 1 es), .p (.sl 1 fs), .any, .any, .any, .any, .any, .any, .any, .any, .any, .any, .p (int (l.length : Nat)), .p (int (0 : Nat)), .any, .any, .any, .any, .any, .any, .any, .any, .any, .any, .any, .any] [] (by simp only [hln, ZZ, YY, Ze, ite_true, ite_false, forall_const, reduceCtorEq, Nat.reduceAdd, Nat.reduceMul, Nat.reduceLeDiff, Nat.reduceLT, Nat.reduceEqDiff]; try trivial) (by (simp only [ZZ, YY, Ze, ite_true, ite_false, forall_const, reduceCtorEq, Nat.reduceAdd, Nat.reduceMul, Nat.reduceLeDiff, Nat.reduceLT, Nat.reduceEqDiff]; try trivial)) ⟨0, by omega, by omega, by simp, rfl, rfl⟩ ?_
  rintro n fr L ⟨k, hk, rfl, hf, rfl, rfl⟩
  simp only [ir_slices_Equal_string_string_L0, ZZ, YY, Ze, ite_true, ite_false, forall_const, reduceCtorEq, Nat.reduceAdd, Nat.reduceMul, Nat.reduceLeDiff, Nat.reduceLT, Nat.reduceEqDiff]
  refine br ?_ ?_
  · intro h
    have hlt : k < l.length := by have := of_decide_eq_true h; omega
    obtain ⟨x, hx⟩ : ∃ x, l[k]? = some x := ⟨_, List.getElem?_eq_getElem hlt⟩
    obtain ⟨y, hy⟩ : ∃ y, m[k]? = some y := ⟨_, List.getElem?_eq_getElem (by omega)⟩
    have hg := hget k x hx
    have hg2 := hgem k y hy
    simp only [ZZ, YY, Ze, ite_true, ite_false, forall_const, reduceCtorEq, Nat.reduceAdd, Nat.reduceMul, Nat.reduceLeDiff, Nat.reduceLT, Nat.reduceEqDiff]
    refine drg0 ?_
    simp only [ZZ, YY, Ze, ite_true, ite_false, forall_const, reduceCtorEq, Nat.reduceAdd, Nat.reduceMul, Nat.reduceLeDiff, Nat.reduceLT, Nat.reduceEqDiff, hg, hg2, hln, hlm]
    ((repeat' (with_reducible apply And.intro)) <;> try ((first | first | assumption | trivial | exact (fun hq => by rw [hq]; rfl) | exact i64_of (by omega) (by omega) | omega | (simp; done) | (simp; omega) | (intro hsc; have hs0 := hsc; (try have hsd := of_decide_eq_true hsc); (try simp only [Bool.not_eq_true', Bool.or_eq_false_iff, Bool.and_eq_true, Bool.or_eq_true, decide_eq_true_eq, decide_eq_false_iff_not] at hsc); (repeat' (with_reducible apply And.intro)) <;> (first | assumption | trivial | exact (fun hq => by rw [hq]; rfl) | exact i64_of (by omega) (by omega) | omega | (simp; done) | (simp; omega) | (intro hse; simp [hse, hs0]; done) | (intro hse; simp only [hse, hs0, Bool.true_and, Bool.and_true, Bool.not_false, Bool.not_true, Bool.and_self]; done))))))
    refine br ?_ ?_
    · intro h2
      have : ¬ l = m := by
        rintro rfl
        rw [hx] at hy
        cases hy
        simp at h2
      simp only [ZZ, YY, Ze, ite_true, ite_false, forall_const, reduceCtorEq, Nat.reduceAdd, Nat.reduceMul, Nat.reduceLeDiff, Nat.reduceLT, Nat.reduceEqDiff]
      simp [this]
    · intro h2
      have hxy : x = y := by simpa using h2
      simp only [ZZ, YY, Ze, ite_true, ite_false, forall_const, reduceCtorEq, Nat.reduceAdd, Nat.reduceMul, Nat.reduceLeDiff, Nat.reduceLT, Nat.reduceEqDiff]
      ((repeat' (with_reducible apply And.intro)) <;> try ((first | first | assumption | trivial | exact (fun hq => by rw [hq]; rfl) | exact i64_of (by omega) (by omega) | omega | (simp; done) | (simp; omega) | (intro hsc; have hs0 := hsc; (try have hsd := of_decide_eq_true hsc); (try simp only [Bool.not_eq_true', Bool.or_eq_false_iff, Bool.and_eq_true, Bool.or_eq_true, decide_eq_true_eq, decide_eq_false_iff_not] at hsc); (repeat' (with_reducible apply And.intro)) <;> (first | assumption | trivial | exact (fun hq => by rw [hq]; rfl) | exact i64_of (by omega) (by omega) | omega | (simp; done) | (simp; omega) | (intro hse; simp [hse, hs0]; done) | (intro hse; simp only [hse, hs0, Bool.true_and, Bool.and_true, Bool.not_false, Bool.not_true, Bool.and_self]; done))))))
      refine end_round (l.length - (k + 1)) [.p (.sl 1 es), .p (.sl 1 fs), .any, .any, .any, .any, .any, .any, .any, .any, .any, .any, .p (int (l.length : Nat)), .p (int ((k + 1) : Nat)), .any, .any, .any, .any, .any, .any, .any, .any, .any, .any, .any, .any] [] (by omega) (by (simp only [ZZ, YY, Ze, ite_true, ite_false, forall_const, reduceCtorEq, Nat.reduceAdd, Nat.reduceMul, Nat.reduceLeDiff, Nat.reduceLT, Nat.reduceEqDiff]; try trivial)) (by (simp only [ZZ, YY, Ze, ite_true, ite_false, forall_const, reduceCtorEq, Nat.reduceAdd, Nat.reduceMul, Nat.reduceLeDiff, Nat.reduceLT, Nat.reduceEqDiff]; try trivial)) ⟨k + 1, by omega, rfl, by rw [List.take_add_one, List.take_add_one, hf, hx, hy, hxy], rfl, rfl⟩
  · intro h
    have hge : l.length ≤ k := by have := of_decide_eq_false h; omega
    simp only [ZZ, YY, Ze, ite_true, ite_false, forall_const, reduceCtorEq, Nat.reduceAdd, Nat.reduceMul, Nat.reduceLeDiff, Nat.reduceLT, Nat.reduceEqDiff]
    rw [List.take_of_length_le hge, List.take_of_length_le (by omega)] at hf
    simp [hf]
end
end Go.Proofs.YtejekkhhpkeckaaGreatDoor

/- The same tables: told of equal ones. -/
namespace Go.Proofs.YtejekkhhpkeckaaGreatDoor
open Go.RowKit
set_option linter.unusedVariables false
set_option linter.unusedSimpArgs false
set_option linter.defProp false

/- slices.EqualFunc[[][]string,[][]string,[]string,[]string] -/
def ir_slices_EqualFunc_string_string_string_string_L0 : IC :=
  (.seq (.reg [⟨some 18, .bin .lss (.t 17) (.t 16), none⟩])
    (.seq (.cond (.t 18) .skip (.exit 0))
    (.seq (.block 1 (.seq (.reg [⟨some 19, .mov (.t 17), none⟩,
      ⟨some 20, .ixa 1 (.t 15) (.t 17), none⟩,
      ⟨some 21, .ld 1 false (.t 20), none⟩,
      ⟨some 7, .mov (.t 19), none⟩,
      ⟨some 8, .mov (.t 21), none⟩])
    (.seq (.reg [⟨some 22, .mov (.t 1), none⟩,
      ⟨some 23, .mov (.t 7), none⟩,
      ⟨some 24, .ixa 1 (.t 22) (.t 23), none⟩,
      ⟨some 25, .ld 1 false (.t 24), none⟩,
      ⟨some 9, .mov (.t 25), none⟩])
    (.seq (.reg [⟨some 26, .mov (.t 2), none⟩,
      ⟨some 27, .mov (.t 8), none⟩,
      ⟨some 28, .mov (.t 9), none⟩,
      ⟨some 29, .callv (.t 26) [.t 27, .t 28], none⟩,
      ⟨some 30, .not (.t 29), none⟩])
    (.cond (.t 30) (.seq (.reg [⟨some 6, .mov (.c (.bool false)), none⟩])
    .ret) .skip)))))
    (.reg [⟨some 31, .bin .add (.t 17) (.c (.int .i64 1)), none⟩,
      ⟨some 17, .mov (.t 31), none⟩]))))
def ir_slices_EqualFunc_string_string_string_string : IC :=
  (.seq (.reg [⟨some 6, .mov (.c (.bool false)), none⟩])
    (.seq (.seq (.reg [⟨some 10, .mov (.t 0), none⟩,
      ⟨some 11, .len (.t 10), none⟩,
      ⟨some 12, .mov (.t 1), none⟩,
      ⟨some 13, .len (.t 12), none⟩,
      ⟨some 14, .bin .neq (.t 11) (.t 13), none⟩])
    (.cond (.t 14) (.seq (.reg [⟨some 6, .mov (.c (.bool false)), none⟩])
    .ret) .skip))
    (.seq (.seq (.reg [⟨some 15, .mov (.t 0), none⟩,
      ⟨some 16, .len (.t 15), none⟩,
      ⟨some 17, .mov (.c (.int .i64 0)), none⟩])
    (.block 0 (.loop ir_slices_EqualFunc_string_string_string_string_L0)))
    (.seq (.reg [⟨some 6, .mov (.c (.bool true)), none⟩])
    .ret))))
def rs_slices_EqualFunc_string_string_string_string : List IRes := [.t 6]
theorem ck_slices_EqualFunc_string_string_string_string : chkF Tryz.prog Tryz.f36 ir_slices_EqualFunc_string_string_string_string rs_slices_EqualFunc_string_string_string_string 32 = true := by kernel_rfl
/- paperchase/chaseref1.SameTable -/
def ir_chaseref1_SameTable : IC :=
  (.seq (.reg [⟨some 4, .mov (.c (.bool false)), none⟩])
    (.seq (.reg [⟨some 5, .mov (.t 0), none⟩,
      ⟨some 6, .mov (.t 1), none⟩,
      ⟨some 7, .call 36 [.t 5, .t 6, .f 10], none⟩,
      ⟨some 4, .mov (.t 7), none⟩])
    .ret))
def rs_chaseref1_SameTable : List IRes := [.t 4]
theorem ck_chaseref1_SameTable : chkF Tryz.prog Tryz.f12 ir_chaseref1_SameTable rs_chaseref1_SameTable 8 = true := by kernel_rfl

set_option maxRecDepth 100000 in
theorem EqualFuncT_ok {E : Envt} (t : Tab) (f : FuncId) (hl : t.length ≤ 1000000000) (hfn : fnB Tryz.prog f = true) (hf : ∀ r ∈ t, PCall Tryz.prog E f [.sl 1 (strE r), .sl 1 (strE r)] (· = .bool true)) : PCall Tryz.prog E 36 [.sl 1 (tbE t), .sl 1 (tbE t), .clo f []] (· = .bool true) := by
  refine pcallF mixed Tryz.func36 ck_slices_EqualFunc_string_string_string_string ?_
  simp only [a0, l0, OS.ao, List.map_cons, List.map_nil, List.length_cons, List.length_nil, List.cons_append, List.nil_append, Nat.reduceSub, Nat.reduceAdd, List.replicate_succ, List.replicate_zero, ir_slices_EqualFunc_string_string_string_string, rs_slices_EqualFunc_string_string_string_string, ZZ, YY, Ze, ite_true, ite_false, forall_const, reduceCtorEq, Nat.reduceAdd, Nat.reduceMul, Nat.reduceLeDiff, Nat.reduceLT, Nat.reduceEqDiff]
  simp only [ZZ, YY, Ze, ite_true, ite_false, forall_const, reduceCtorEq, Nat.reduceAdd, Nat.reduceMul, Nat.reduceLeDiff, Nat.reduceLT, Nat.reduceEqDiff, tbE_len, decide_true, Bool.not_true]
  refine loop_intro (fun n fr L => ∃ (k : Nat), k ≤ t.length ∧ n = t.length - k ∧ fr = [.p (.sl 1 (tbE t)), .p (.sl 1 (tbE t)), .p (.clo f []), .any, .any, .any, .any, .any, .any, .any, .any, .any, .any, .any, .any, .p (.sl 1 (tbE t)), .p (int (t.length : Nat)), .p (int (k : Nat)), .any, .any, .any, .any, .any, .any, .any, .any, .any, .any, .any, .any, .any, .any] ∧ L = []) (t.length) [.p (.sl 1 (tbE t)), .p (.sl 1 (tbE t)), .p (.clo f []), .any, .any, .any, .any, .any, .any, .any, .any, .any, .any, .any, .any, .p (.sl 1 (tbE t)), .p (int (t.length : Nat)), .p (int (0 : Nat)), .any, .any, .any, .any, .any, .any, .any, .any, .any, .any, .any, .any, .any, .any] [] (by simp only [ZZ, YY, Ze, ite_true, ite_false, forall_const, reduceCtorEq, Nat.reduceAdd, Nat.reduceMul, Nat.reduceLeDiff, Nat.reduceLT, Nat.reduceEqDiff, tbE_len]; try trivial) (by (simp only [ZZ, YY, Ze, ite_true, ite_false, forall_const, reduceCtorEq, Nat.reduceAdd, Nat.reduceMul, Nat.reduceLeDiff, Nat.reduceLT, Nat.reduceEqDiff]; try trivial)) ⟨0, by omega, by omega, rfl, rfl⟩ ?_
  rintro n fr L ⟨k, hk, rfl, rfl, rfl⟩
  simp only [ir_slices_EqualFunc_string_string_string_string_L0, ZZ, YY, Ze, ite_true, ite_false, forall_const, reduceCtorEq, Nat.reduceAdd, Nat.reduceMul, Nat.reduceLeDiff, Nat.reduceLT, Nat.reduceEqDiff]
  refine br ?_ ?_
  · intro h
    have hlt : k < t.length := by have := of_decide_eq_true h; omega
    obtain ⟨r, hr⟩ : ∃ r, t[k]? = some r := ⟨_, List.getElem?_eq_getElem hlt⟩
    have hg := tbE_get hr
    simp only [ZZ, YY, Ze, ite_true, ite_false, forall_const, reduceCtorEq, Nat.reduceAdd, Nat.reduceMul, Nat.reduceLeDiff, Nat.reduceLT, Nat.reduceEqDiff, hg, tbE_len, hfn]
    ((repeat' (with_reducible apply And.intro)) <;> try ((first | first | assumption | trivial | exact (fun hq => by rw [hq]; rfl) | exact i64_of (by omega) (by omega) | omega | (simp; done) | (simp; omega) | (intro hsc; have hs0 := hsc; (try have hsd := of_decide_eq_true hsc); (try simp only [Bool.not_eq_true', Bool.or_eq_false_iff, Bool.and_eq_true, Bool.or_eq_true, decide_eq_true_eq, decide_eq_false_iff_not] at hsc); (repeat' (with_reducible apply And.intro)) <;> (first | assumption | trivial | exact (fun hq => by rw [hq]; rfl) | exact i64_of (by omega) (by omega) | omega | (simp; done) | (simp; omega) | (intro hse; simp [hse, hs0]; done) | (intro hse; simp only [hse, hs0, Bool.true_and, Bool.and_true, Bool.not_false, Bool.not_true, Bool.and_self]; done))))))
    refine use1 (hf r (List.mem_of_getElem? hr)) rfl (.inl rfl) ?_
    simp only [ZZ, YY, Ze, ite_true, ite_false, forall_const, reduceCtorEq, Nat.reduceAdd, Nat.reduceMul, Nat.reduceLeDiff, Nat.reduceLT, Nat.reduceEqDiff]
    ((repeat' (with_reducible apply And.intro)) <;> try ((first | first | assumption | trivial | exact (fun hq => by rw [hq]; rfl) | exact i64_of (by omega) (by omega) | omega | (simp; done) | (simp; omega) | (intro hsc; have hs0 := hsc; (try have hsd := of_decide_eq_true hsc); (try simp only [Bool.not_eq_true', Bool.or_eq_false_iff, Bool.and_eq_true, Bool.or_eq_true, decide_eq_true_eq, decide_eq_false_iff_not] at hsc); (repeat' (with_reducible apply And.intro)) <;> (first | assumption | trivial | exact (fun hq => by rw [hq]; rfl) | exact i64_of (by omega) (by omega) | omega | (simp; done) | (simp; omega) | (intro hse; simp [hse, hs0]; done) | (intro hse; simp only [hse, hs0, Bool.true_and, Bool.and_true, Bool.not_false, Bool.not_true, Bool.and_self]; done))))))
    refine end_round (t.length - (k + 1)) [.p (.sl 1 (tbE t)), .p (.sl 1 (tbE t)), .p (.clo f []), .any, .any, .any, .any, .any, .any, .any, .any, .any, .any, .any, .any, .p (.sl 1 (tbE t)), .p (int (t.length : Nat)), .p (int ((k + 1) : Nat)), .any, .any, .any, .any, .any, .any, .any, .any, .any, .any, .any, .any, .any, .any] [] (by omega) (by (simp only [ZZ, YY, Ze, ite_true, ite_false, forall_const, reduceCtorEq, Nat.reduceAdd, Nat.reduceMul, Nat.reduceLeDiff, Nat.reduceLT, Nat.reduceEqDiff]; try trivial)) (by (simp only [ZZ, YY, Ze, ite_true, ite_false, forall_const, reduceCtorEq, Nat.reduceAdd, Nat.reduceMul, Nat.reduceLeDiff, Nat.reduceLT, Nat.reduceEqDiff]; try trivial)) ⟨k + 1, by omega, rfl, rfl, rfl⟩
  · intro h
    have hge : t.length ≤ k := by have := of_decide_eq_false h; omega
    simp only [ZZ, YY, Ze, ite_true, ite_false, forall_const, reduceCtorEq, Nat.reduceAdd, Nat.reduceMul, Nat.reduceLeDiff, Nat.reduceLT, Nat.reduceEqDiff]
theorem SameTable_ok {E : Envt} (t : Tab) (hl : t.length ≤ 1000000000) (hb : ∀ r ∈ t, r.length ≤ 1000000000) : PCall Tryz.prog E 12 [.sl 1 (tbE t), .sl 1 (tbE t)] (· = .bool true) := by
  refine pcallF mixed Tryz.func12 ck_chaseref1_SameTable ?_
  simp only [a0, l0, OS.ao, List.map_cons, List.map_nil, List.length_cons, List.length_nil, List.cons_append, List.nil_append, Nat.reduceSub, Nat.reduceAdd, List.replicate_succ, List.replicate_zero, ir_chaseref1_SameTable, rs_chaseref1_SameTable, ZZ, YY, Ze, ite_true, ite_false, forall_const, reduceCtorEq, Nat.reduceAdd, Nat.reduceMul, Nat.reduceLeDiff, Nat.reduceLT, Nat.reduceEqDiff]
  refine use1 (EqualFuncT_ok t _ hl (by kernel_rfl) (fun r hr => by have h := EqualT_ok (E := E) r r (hb r hr); rwa [decide_eq_true rfl] at h)) rfl (.inl rfl) ?_
  simp only [ZZ, YY, Ze, ite_true, ite_false, forall_const, reduceCtorEq, Nat.reduceAdd, Nat.reduceMul, Nat.reduceLeDiff, Nat.reduceLT, Nat.reduceEqDiff]
end Go.Proofs.YtejekkhhpkeckaaGreatDoor
