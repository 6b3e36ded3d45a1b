/- Contracts of the reference's wordByte, lower, wordSpans, WordsOf. -/
import Derived.Test.YtpddiepfolfnoaaWords
namespace Go.Proofs.Ytpddiepfolfnoaa
open Go.RowKit
set_option linter.unusedVariables false

def alph : List UInt8 := [97, 98, 99, 100, 101, 102, 103, 104, 105, 106, 107, 108, 109, 110, 111, 112, 113, 114, 115, 116, 117, 118, 119, 120, 121, 122, 65, 66, 67, 68, 69, 70, 71, 72, 73, 74, 75, 76, 77, 78, 79, 80, 81, 82, 83, 84, 85, 86, 87, 88, 89, 90, 48, 49, 50, 51, 52, 53, 54, 55, 56, 57]
def capl : List UInt8 := [65, 66, 67, 68, 69, 70, 71, 72, 73, 74, 75, 76, 77, 78, 79, 80, 81, 82, 83, 84, 85, 86, 87, 88, 89, 90]
theorem alph_all : ∀ n : Fin 256, (128 ≤ UInt8.ofNat n || decide (0 ≤ Lib.indexByte alph (UInt8.ofNat n))) = Sp.isLet (UInt8.ofNat n) := by decide +kernel
theorem alph_ok (c : UInt8) : (128 ≤ c || decide (0 ≤ Lib.indexByte alph c)) = Sp.isLet c := by
  have := alph_all ⟨c.toNat, c.toNat_lt⟩
  simpa using this
theorem cap_all : ∀ n : Fin 256, Lib.indexByte capl (UInt8.ofNat n) = if 65 ≤ n.val ∧ n.val ≤ 90 then (n.val : Int) - 65 else -1 := by decide +kernel
theorem cap_ok (c : UInt8) : Lib.indexByte capl c = if 65 ≤ c.toNat ∧ c.toNat ≤ 90 then (c.toNat : Int) - 65 else -1 := by
  have := cap_all ⟨c.toNat, c.toNat_lt⟩
  simpa using this
def smallB : ByteArray := ⟨#[97, 98, 99, 100, 101, 102, 103, 104, 105, 106, 107, 108, 109, 110, 111, 112, 113, 114, 115, 116, 117, 118, 119, 120, 121, 122]⟩
theorem small_all : ∀ j : Fin 26, (smallB[j.val]'(j.isLt)).toNat = 97 + j.val := by decide +kernel
theorem small_at (j : Nat) (hj : j < 26) : ((smallB[j]'hj).toNat : Int) = 97 + j := by
  have := small_all ⟨j, hj⟩
  simp only at this
  omega
theorem byte_back (c : UInt8) : ((c.toNat : Int)).toNat.toUInt8 = c := by simp

set_option maxHeartbeats 400000 in
theorem wordByte_any (c : UInt8) (w : World) : Calls Try.prog 90 #[.int .u8 (c.toNat : Int)] w fun e w' => e = .returned (.bool (Sp.isLet c)) ∧ w = w' := by
  have h := alph_ok c
  by_cases h1 : 128 ≤ (c.toNat : Int)
  · have H := Lib.hid h
    clear h
    go_enter Try.func90, Try.ntmps90
    go_wp2_with fail
    go_ret
    exact ⟨ret_bool (by rw [← H.out]; simp [UInt8.le_iff_toNat_le]; omega), rfl⟩
  · have d1 : decide (128 ≤ (c.toNat : Int)) = false := by simpa using h1
    have H : Hid (decide (0 ≤ Lib.indexByte alph c) = Sp.isLet c) := by
      rw [← h, show (decide (128 ≤ c)) = false from by simp [UInt8.le_iff_toNat_le] at *; omega]; rfl
    clear h
    go_enter Try.func90, Try.ntmps90
    go_wp2_with fail
    refine (Try.strings_IndexByte ⟨alph.toArray⟩ _ _).mono ?_
    rintro e w' ⟨rfl, rfl⟩
    rw [byte_back]
    generalize hx : Lib.indexByte alph c = x at *
    go_wp2_with fail
    go_ret
    exact ⟨ret_bool (by rw [← H.out]), rfl⟩

set_option maxRecDepth 100000 in
set_option maxHeartbeats 1000000 in
theorem rlower_any (s : ByteArray) (w : World) (hs : s.size ≤ 1000000000) : Calls Try.prog 68 #[.string s] w fun e w' => e = .returned (.string ⟨(Sp.lowS s.data.toList).toArray⟩) ∧ w.grownBy w' none := by
  have hconv := fun W => Lib.run_convert_string_bytes (P := Try.prog) W 9 94 5 s Try.underlying9 Try.underlying94 Try.underlying5
  have st := LowRow.start w s
  have g0 := gb_bytes w s none
  have HB := Lib.hid (Lib.bytesWorld_size w 5 s)
  go_enter Try.func68, Try.ntmps68
  go_wp2_with fail
  go_loopw [11] (fun i wr => ∃ k : Nat, k ≤ s.size ∧ i = .int .i64 k ∧ LowRow wr w.heap.size k s ∧ w.grownBy wr none) (fun i _ => s.size - (intOf i).toNat)
  case atStart => exact ⟨0, Nat.zero_le _, rfl, st, g0⟩
  case round =>
    obtain ⟨k, hk, rfl, hrow, hg⟩ := hrel
    by_cases hlt : k < s.size
    · obtain ⟨hc, hf⟩ := hrow.cell hlt
      rw [if_neg (by omega)] at hc
      obtain ⟨c, hcc⟩ : ∃ c, s.data.toList.getD k 0 = c := ⟨_, rfl⟩
      rw [hcc] at hc
      have HC := Lib.hid hcc
      clear hcc
      go_wp2_with fail
      refine (Try.strings_IndexByte ⟨capl.toArray⟩ _ _).mono ?_
      rintro e w' ⟨rfl, rfl⟩
      rw [byte_back]
      simp only []
      rw [cap_ok c]
      by_cases hu : 65 ≤ c.toNat ∧ c.toNat ≤ 90
      · rw [if_pos hu]
        obtain ⟨hu1, hu2⟩ := hu
        obtain ⟨j, hj⟩ : ∃ j : Nat, (c.toNat : Int) - 65 = j := ⟨c.toNat - 65, by omega⟩
        have hj1 : j < 26 := by omega
        rw [hj]
        have HJ := Lib.hid hj
        clear hj
        go_wp2_with fail
        refine ⟨⟨k + 1, by omega, by go_num, hrow.put hlt _ ?_, gb_set hg (.inr (Nat.le_refl _)) _⟩, by simp [intOf]; omega⟩
        rw [HC.out, ← low_up c (by omega) (by omega)]
        have h1 := small_at j hj1
        have h2 := HJ.out
        simp only [smallB] at h1
        omega
      · rw [if_neg hu]
        go_wp2_with fail
        exact ⟨⟨k + 1, by omega, by go_num, hrow.skip hlt (by rw [HC.out]; exact low_not c (by omega)), hg⟩, by simp [intOf]; omega⟩
    · obtain rfl : k = s.size := by omega
      have hback := run_back (P := Try.prog) wr 94 9 5 Try.underlying94 Try.underlying5 Try.underlying9 w.heap.size (grownCap w s.size 0 5) (Sp.lowS s.data.toList) s.size (by simp [Sp.lowS]) hrow.done
      go_wp2_with fail
      go_ret
      exact ⟨rfl, hg⟩

theorem info_span : (Try.prog.info? 91).map (fun i => (i.zero, i.size, i.bytes)) = some (some (.agg #[.int .i64 0, .int .i64 0]), 2, 16) := by kernel_rfl
/-- The cells of spans. -/
def spanV (l : List (Nat × Nat)) : List Value := l.flatMap fun p => [.int .i64 p.1, .int .i64 p.2]
theorem spanV_app (a b : List (Nat × Nat)) : spanV (a ++ b) = spanV a ++ spanV b := by simp [spanV]
theorem spanV_len (l : List (Nat × Nat)) : (spanV l).length = l.length * 2 := by
  induction l with
  | nil => rfl
  | cons p l ih => simp [spanV] at *; omega

theorem span_app {w' : World} {base : Nat} {v : Value} {o : List (Nat × Nat)} (p : Nat × Nat) (h : w'.ownsRow base 91 2 v (o.length + 1) (spanV o ++ [.int .i64 p.1, .int .i64 p.2])) :
    w'.ownsRow base 91 2 v (o ++ [p]).length (spanV (o ++ [p])) := by
  rw [spanV_app]
  simpa [spanV] using h

theorem app_span {ops : Array Oper} {rest : List Oper} {o : Oper} {a : Act} {Q : Exit → Act → World → Prop} {w0 w : World} {row : Option Nat} (hgd : o.guard = none) (s x : Operand)
    (ho : o.op = .call { callee := .builtin .append, args := #[s, x], argTypes := #[88, 88] }) (v : Value) (n : Nat) (xs : List Value) (p q : Int)
    (hs : a.eval s = v) (hown : w.ownsRow w0.heap.size 91 2 v n xs) (hx : a.eval x = .slice (some ⟨w.heap.size, 0, none⟩) 1 1) (hn : n ≤ 8000000000000) (hg : w0.grownBy w row)
    (h : ∀ v' w', w'.ownsRow w0.heap.size 91 2 v' (n + 1) (xs ++ [.int .i64 p, .int .i64 q]) → w0.grownBy w' row → wpList Try.prog ops Q rest (a.put o.dst v') w') :
    wpList Try.prog ops Q (o :: rest) a (w.alloc (.cells #[.int .i64 p, .int .i64 q] 91)) := by
  obtain ⟨i0, hi, hz0, hz1, hz2⟩ := info_parts info_span
  refine wpList_append_own _ hgd s x 88 ho w0.heap.size 91 i0 _ 2 16 Try.underlying88 hi hz0 hz1 hz2 rfl (by decide) v n xs hs (hown.alloc _) ⟨w.heap.size, 0, none⟩ 1 1 [.int .i64 p, .int .i64 q] hx rfl
    (World.news_of_block (cs := #[.int .i64 p, .int .i64 q]) (heap_alloc_new w _)) (by intro u hu; simp at hu; rcases hu with rfl | rfl <;> rfl) (by unfold maxLen; omega) (by omega) (by have := hg.size; simp; omega) ?_
  intro v' w' h1 h2 _
  exact h v' w' h1 (gb_new (gb_alloc hg _) h2 (fun b hb => (hown.lt b hb).1))

def InRel (s : ByteArray) (k : Nat) (j : Value) : Prop :=
  ∃ m : Nat, j = .int .i64 m ∧ k ≤ m ∧ m ≤ s.size ∧ (m = k ∨ (k < m ∧ Sp.wsp k none (s.data.toList.drop k) = Sp.wsp m (some k) (s.data.toList.drop m)))

set_option maxRecDepth 100000 in
set_option maxHeartbeats 1000000 in
theorem wordSpans_any (s : ByteArray) (w : World) (hs : s.size ≤ 1000000000) : Calls Try.prog 67 #[.string s] w fun e w' =>
    ∃ v, e = .returned v ∧ w'.ownsRow w.heap.size 91 2 v (Sp.spans s.data.toList).length (spanV (Sp.spans s.data.toList)) ∧ w.grownBy w' none := by
  go_enter Try.func67, Try.ntmps67
  go_wp2_with fail
  go_loopw [3, 4] (fun l i wr => ∃ (k : Nat) (o : List (Nat × Nat)), i = .int .i64 k ∧ k ≤ s.size + 1 ∧ o ++ Sp.wsp k none (s.data.toList.drop k) = Sp.spans s.data.toList ∧
      wr.ownsRow w.heap.size 91 2 l o.length (spanV o) ∧ w.grownBy wr none) (fun _ i _ => s.size + 1 - (intOf i).toNat)
  case atStart => exact ⟨0, [], rfl, by omega, by simp [Sp.spans], World.ownsRow_nil _ _ _ _, gb_refl _ _⟩
  case round =>
    obtain ⟨k, o, rfl, hk, hsp, hown, hg⟩ := hrel
    have HS := Lib.hid hsp
    clear hsp
    by_cases hlt : k < s.size
    · have hkl : k < s.data.toList.length := by simpa using hlt
      obtain ⟨c, hc⟩ : ∃ c, s[k] = c := ⟨_, rfl⟩
      have hc' : s.data.toList[k] = c := by rw [← hc]; rfl
      have HC := Lib.hid hc'
      clear hc'
      cases hl : Sp.isLet c with
      | false =>
        have HW := Lib.hid (Sp.wsp_non _ k hkl c HC.out hl)
        go_wp2_with (go_at_call 90; refine (wordByte_any _ _).mono ?_; rintro e w' ⟨rfl, rfl⟩)
        exact ⟨⟨k + 1, o, by go_num, by omega, by rw [← HS.out, HW.out], hown, hg⟩, by simp [intOf]; omega⟩
      | true =>
        go_wp2_with (go_at_call 90; refine (wordByte_any _ _).mono ?_; rintro e w' ⟨rfl, rfl⟩)
        go_loop [5] (fun j => InRel s k j) (fun j => s.size - (intOf j).toNat)
        case atStart => exact ⟨k, rfl, Nat.le_refl _, by omega, .inl rfl⟩
        case round =>
          obtain ⟨m, rfl, hkm, hms, hin⟩ := hrel
          have HI := Lib.hid hin
          clear hin
          by_cases hlm : m < s.size
          · have hml : m < s.data.toList.length := by simpa using hlm
            obtain ⟨d, hd⟩ : ∃ d, s[m] = d := ⟨_, rfl⟩
            have hd' : s.data.toList[m] = d := by rw [← hd]; rfl
            have HD := Lib.hid hd'
            clear hd'
            cases hm : Sp.isLet d with
            | true =>
              have HW := Lib.hid (Sp.wsp_let _ m (some k) hml d HD.out hm)
              have HW0 := Lib.hid (Sp.wsp_let _ m none hml d HD.out hm)
              go_wp2_with (go_at_call 90; refine (wordByte_any _ _).mono ?_; rintro e w' ⟨rfl, rfl⟩)
              refine ⟨⟨m + 1, by go_num, by omega, by omega, .inr ⟨by omega, ?_⟩⟩, by simp [intOf]; omega⟩
              rcases HI.out with e | ⟨_, e⟩
              · subst e; exact HW0.out
              · exact e.trans HW.out
            | false =>
              have HW := Lib.hid (Sp.wsp_end _ m k hml d HD.out hm)
              have HI2 : Hid (Sp.wsp k none (s.data.toList.drop k) = (k, m) :: Sp.wsp (m + 1) none (s.data.toList.drop (m + 1))) := by
                rcases HI.out with e | ⟨_, e⟩
                · subst e; rw [HC.out] at HD; rw [HD.out] at hl; rw [hl] at hm; cases hm
                · exact e.trans HW.out
              have hol : o.length ≤ 1000000001 := by
                have h1 := congrArg List.length HS.out
                have h2 := Sp.spans_len s.data.toList
                simp at h1 h2; omega
              go_wp2_with (first
                | (go_at_call 90; refine (wordByte_any _ _).mono ?_; rintro e w' ⟨rfl, rfl⟩)
                | (at_builtin; refine app_span rfl _ _ rfl _ _ _ _ _ rfl hown rfl (by omega) hg ?_; intro v' w2 hown2 hg2))
              exact ⟨⟨m + 1, o ++ [(k, m)], by go_num, by omega, by rw [← HS.out, HI2.out]; simp, span_app (k, m) hown2, hg2⟩, by simp [intOf]; omega⟩
          · have hnm : decide ((m : Int) < (s.size : Int)) = false := by simp; omega
            have HI2 : Hid (Sp.wsp k none (s.data.toList.drop k) = (k, m) :: Sp.wsp (m + 1) none (s.data.toList.drop (m + 1))) := by
              rcases HI.out with e | ⟨_, e⟩
              · omega
              · exact e.trans (Sp.wsp_fin _ m k (by simp; omega))
            have hol : o.length ≤ 1000000001 := by
              have h1 := congrArg List.length HS.out
              have h2 := Sp.spans_len s.data.toList
              simp at h1 h2; omega
            go_wp2_with (at_builtin; refine app_span rfl _ _ rfl _ _ _ _ _ rfl hown rfl (by omega) hg ?_; intro v' w2 hown2 hg2)
            exact ⟨⟨m + 1, o ++ [(k, m)], by go_num, by omega, by rw [← HS.out, HI2.out]; simp, span_app (k, m) hown2, hg2⟩, by simp [intOf]; omega⟩
    · have hns : decide ((k : Int) < (s.size : Int)) = false := by simp; omega
      have HF : Hid (o = Sp.spans s.data.toList) := by
        have h1 := HS.out
        rw [Sp.wsp_out _ k (by simp; omega), List.append_nil] at h1
        exact h1
      go_wp2_with fail
      go_ret
      refine ⟨_, rfl, ?_, hg⟩
      have h1 := HF.out
      subst h1
      exact hown

theorem words_rd (s : ByteArray) (w : World) (hs : s.size ≤ 1000000000) : Calls Try.prog 57 #[.string s] w fun e w' =>
    ∃ A c, e = .returned (.slice A (Sp.words s.data.toList).length c) ∧ (Sp.words s.data.toList).length ≤ c ∧ Rd w' w.heap.size A ((Sp.words s.data.toList).map sv) ∧ w.grownBy w' none :=
  (words_any s w hs).mono fun e w' ⟨v, he, ho, hg⟩ => by
    obtain ⟨A, c, rfl, hc, hr⟩ := own_slice ho
    have hl : (Sp.words s.data.toList).length = (Sp.spans s.data.toList).length := by simp [Sp.words]
    exact ⟨A, c, by rw [he, hl], by omega, hr, hg⟩
theorem wordSpans_rd (s : ByteArray) (w : World) (hs : s.size ≤ 1000000000) : Calls Try.prog 67 #[.string s] w fun e w' =>
    ∃ A c, e = .returned (.slice A (Sp.spans s.data.toList).length c) ∧ (Sp.spans s.data.toList).length ≤ c ∧ Rd w' w.heap.size A (spanV (Sp.spans s.data.toList)) ∧ w.grownBy w' none :=
  (wordSpans_any s w hs).mono fun e w' ⟨v, he, ho, hg⟩ => by
    obtain ⟨A, c, rfl, hc, hr⟩ := own_slice ho
    exact ⟨A, c, he, hc, hr, hg⟩
theorem spanV_at (l : List (Nat × Nat)) (k : Nat) (hk : k < l.length) : (spanV l)[2 * k]? = some (.int .i64 (l[k].1 : Int)) ∧ (spanV l)[2 * k + 1]? = some (.int .i64 (l[k].2 : Int)) := by
  induction l generalizing k with
  | nil => simp at hk
  | cons p l ih =>
    cases k with
    | zero => simp [spanV]
    | succ k =>
      have := ih k (by simpa using hk)
      simp only [spanV, List.flatMap_cons] at *
      rw [show 2 * (k + 1) = 2 * k + 1 + 1 from by omega, show 2 * k + 1 + 1 + 1 = (2 * k + 1) + 1 + 1 from by omega]
      simpa using this
theorem spans_in (t : Sp.Bs) : ∀ (i : Nat) (f : Option Nat), (∀ a, f = some a → a ≤ i) → ∀ p ∈ Sp.wsp i f t, p.1 ≤ p.2 ∧ p.2 ≤ i + t.length := by
  induction t with
  | nil =>
    intro i f hf p hp
    cases f with
    | none => simp [Sp.wsp] at hp
    | some a => simp [Sp.wsp] at hp; subst hp; have := hf a rfl; simp; omega
  | cons c r ih =>
    intro i f hf p hp
    unfold Sp.wsp at hp
    split at hp
    · have := ih (i + 1) _ (by rintro a ⟨⟩; cases f with | none => simp | some b => have := hf b rfl; simp; omega) p hp
      simp; omega
    · cases f with
      | none => have := ih (i + 1) none (by simp) p hp; simp; omega
      | some a =>
        simp at hp
        rcases hp with rfl | hp
        · have := hf a rfl; simp; omega
        · have := ih (i + 1) none (by simp) p hp; simp; omega
theorem spans_bd (t : Sp.Bs) (p : Nat × Nat) (hp : p ∈ Sp.spans t) : p.1 ≤ p.2 ∧ p.2 ≤ t.length := by
  have := spans_in t 0 none (by simp) p hp
  omega

theorem app_str {ops : Array Oper} {rest : List Oper} {o : Oper} {a : Act} {Q : Exit → Act → World → Prop} {w0 w : World} {row : Option Nat} (hgd : o.guard = none) (s x : Operand)
    (ho : o.op = .call { callee := .builtin .append, args := #[s, x], argTypes := #[41, 41] }) (v : Value) (n : Nat) (xs : List Value) (p : ByteArray)
    (hs : a.eval s = v) (hown : w.ownsRow w0.heap.size 9 1 v n xs) (hx : a.eval x = .slice (some ⟨w.heap.size, 0, none⟩) 1 1) (hn : n ≤ 8000000000000) (hg : w0.grownBy w row)
    (h : ∀ v' w', w'.ownsRow w0.heap.size 9 1 v' (n + 1) (xs ++ [.string p]) → w0.grownBy w' row → wpList Try.prog ops Q rest (a.put o.dst v') w') :
    wpList Try.prog ops Q (o :: rest) a (w.alloc (.cells #[.string p] 9)) := by
  obtain ⟨i0, hi, hz0, hz1, hz2⟩ := info_parts info_string
  refine wpList_append_own _ hgd s x 41 ho w0.heap.size 9 i0 _ 1 16 Try.underlying41 hi hz0 hz1 hz2 rfl (by decide) v n xs hs (hown.alloc _) ⟨w.heap.size, 0, none⟩ 1 1 [.string p] hx rfl
    (cell_one_new _ _ _) (by intro u hu; simp at hu; subst hu; rfl) (by unfold maxLen; omega) (by omega) (by have := hg.size; simp; omega) ?_
  intro v' w' h1 h2 _
  exact h v' w' h1 (gb_new (gb_alloc hg _) h2 (fun b hb => (hown.lt b hb).1))

set_option maxRecDepth 100000 in
set_option maxHeartbeats 1000000 in
theorem rwords_any (s : ByteArray) (w : World) (hs : s.size ≤ 1000000000) : Calls Try.prog 48 #[.string s] w fun e w' =>
    ∃ A c, e = .returned (.slice A (Sp.words s.data.toList).length c) ∧ (Sp.words s.data.toList).length ≤ c ∧ Rd w' w.heap.size A ((Sp.words s.data.toList).map sv) ∧ w.grownBy w' none := by
  have hlen : (Sp.spans s.data.toList).length ≤ s.size + 1 := by simpa using Sp.spans_len s.data.toList
  go_enter Try.func48, Try.ntmps48
  go_wp2_with fail
  refine (wordSpans_rd s _ hs).mono ?_
  rintro e w1 ⟨A, c, rfl, hc, hr, hg1⟩
  have hbd := Lib.hid (spans_bd s.data.toList)
  generalize hS : Sp.spans s.data.toList = S at *
  have HS := Lib.hid hS
  clear hS
  go_wp2_with fail
  go_loopw [3, 9] (fun l i wr => ∃ k : Nat, i = .int .i64 k ∧ k ≤ S.length ∧ wr.ownsRow w1.heap.size 9 1 l k ((S.take k).map (wordV s)) ∧ w1.grownBy wr none) (fun _ i _ => S.length - (intOf i).toNat)
  case atStart => exact ⟨0, rfl, by omega, World.ownsRow_nil _ _ _ _, gb_refl _ _⟩
  case round =>
    obtain ⟨k, rfl, hk, hown, hg⟩ := hrel
    by_cases hlt : k < S.length
    · obtain ⟨b, off, rfl, hlo, hb, hcell⟩ := (hr.pure hg).open_ (by rw [spanV_len]; omega)
      have h1 := hcell (2 * k) (by rw [spanV_len]; omega)
      have h2 := hcell (2 * k + 1) (by rw [spanV_len]; omega)
      obtain ⟨e1, e2⟩ := spanV_at S k hlt
      obtain ⟨p, q, hpq⟩ : ∃ p q, S[k] = (p, q) := ⟨_, _, rfl⟩
      have hbd2 := hbd.out (p, q) (by rw [← hpq]; exact List.getElem_mem _)
      rw [hpq] at e1 e2
      rw [List.getElem?_eq_some_iff] at e1 e2
      obtain ⟨_, e1⟩ := e1
      obtain ⟨_, e2⟩ := e2
      rw [e1] at h1
      rw [e2] at h2
      rw [show off + 2 * k = off + k * 2 from by omega] at h1
      rw [show off + (2 * k + 1) = off + k * 2 + 1 from by omega] at h2
      clear hcell e1 e2
      obtain ⟨hpq1, hqs⟩ := hbd2
      simp only [Array.length_toList] at hqs
      have HPQ := Lib.hid hpq
      clear hpq
      go_wp2_with fail
      refine (rlower_any _ _ ?_).mono ?_
      · simp; omega
      rintro e w2 ⟨rfl, hg2⟩
      rw [ext_part]
      have hg3 : w1.grownBy w2 none := gb_new (gb_alloc hg _) hg2 (by simp)
      have hown2 := (hown.alloc (.cells #[.int .i64 p, .int .i64 q] 91)).kept hg2 (by cases u3.ownBlock <;> simp)
      go_wp2_with (at_builtin; refine app_str rfl _ _ rfl _ _ _ _ rfl hown2 rfl (by omega) hg3 ?_; intro v' w4 hown4 hg4)
      exact ⟨⟨k + 1, by go_num, by omega, by rw [List.take_succ_eq_append_getElem hlt, HPQ.out, List.map_append]; exact hown4, hg4⟩, by simp [intOf]; omega⟩
    · have hns : decide (k < S.length) = false := by simp; omega
      have HK : Hid (k = S.length) := Nat.le_antisymm hk (by omega)
      go_wp2_with fail
      go_ret
      have hk2 := HK.out
      subst hk2
      rw [List.take_of_length_le (Nat.le_refl _)] at hown
      obtain ⟨A2, c2, rfl, hc2, hr2⟩ := own_slice hown
      have e1 : (Sp.words s.data.toList).length = S.length := by simp [Sp.words, HS.out]
      refine ⟨A2, c2, by simp [e1], by omega, ?_, hg1.trans hg⟩
      rw [show (Sp.words s.data.toList).map sv = S.map (wordV s) from by unfold Sp.words; rw [List.map_map, HS.out]; rfl]
      exact hr2.lower hg1.size
end Go.Proofs.Ytpddiepfolfnoaa
