/- The plain law of the likes: of strictly sorted lists x and y, the sorted union has |x| + |y| - (what is common) elements; the merge counts what is common. -/
import Derived.Test.YtpddiepfolfnoaaNears
namespace Go.Proofs.Ytpddiepfolfnoaa
set_option linter.unusedVariables false

theorem bs_lt_irrefl (x : List UInt8) : ¬ x < x := List.lt_irrefl x
theorem bs_lt_trans {x y z : List UInt8} (h : x < y) (k : y < z) : x < z := List.lt_trans h k
theorem bs_le_trans {x y z : List UInt8} (h : x ≤ y) (k : y ≤ z) : x ≤ z := List.le_trans h k
theorem bs_lt_of_le_of_lt {x y z : List UInt8} (h : x ≤ y) (k : y < z) : x < z := List.lt_of_le_of_lt h k
theorem bs_antisymm {x y : List UInt8} (h : x ≤ y) (k : y ≤ x) : x = y := List.le_antisymm h k
theorem bs_lt_of_le_of_ne {x y : List UInt8} (h : x ≤ y) (k : x ≠ y) : x < y := by
  by_cases h1 : x < y
  · exact h1
  · exact absurd (bs_antisymm h h1) k
theorem bs_ne {x y : List UInt8} (h : x < y) : x ≠ y := by rintro rfl; exact bs_lt_irrefl _ h

/-- How many elements of x are in y. -/
def com (x y : List (List UInt8)) : Nat := x.countP fun a => y.contains a

theorem nodup_len_le : ∀ (l m : List (List UInt8)), l.Nodup → (∀ a ∈ l, a ∈ m) → l.length ≤ m.length
  | [], m, _, _ => Nat.zero_le _
  | a :: l, m, hn, hs => by
    rw [List.nodup_cons] at hn
    have h1 := nodup_len_le l (m.erase a) hn.2 (fun b hb => by
      rw [List.mem_erase_of_ne (by rintro rfl; exact hn.1 hb)]
      exact hs b (List.mem_cons_of_mem _ hb))
    have hm := hs a (List.mem_cons_self)
    rw [List.length_erase_of_mem hm] at h1
    have := List.length_pos_of_mem hm
    simp only [List.length_cons]
    omega
theorem nodup_of_lt {l : List (List UInt8)} (h : l.Pairwise (· < ·)) : l.Nodup := List.Pairwise.imp (fun h => bs_ne h) h

theorem union_len (x y u : List (List UInt8)) (hx : x.Nodup) (hy : y.Nodup) (hu : u.Nodup) (h1 : ∀ a, a ∈ u ↔ a ∈ x ∨ a ∈ y) : u.length = x.length + y.length - com x y ∧ com x y ≤ x.length := by
  have hc : com x y = (y.filter fun a => x.contains a).length := by
    unfold com
    rw [List.countP_eq_length_filter]
    apply Nat.le_antisymm
    · exact nodup_len_le _ _ (hx.filter _) (fun a ha => by simp at ha ⊢; exact ⟨ha.2, ha.1⟩)
    · exact nodup_len_le _ _ (hy.filter _) (fun a ha => by simp at ha ⊢; exact ⟨ha.2, ha.1⟩)
  have hs : y.length = (y.filter fun a => x.contains a).length + (y.filter fun a => !x.contains a).length := by
    have := List.length_eq_countP_add_countP (fun a => x.contains a) (l := y)
    rw [List.countP_eq_length_filter, List.countP_eq_length_filter] at this
    rw [this]
    congr 2
    apply List.filter_congr
    intro a _
    cases x.contains a <;> simp
  have hw : (x ++ y.filter fun a => !x.contains a).Nodup := by
    rw [List.nodup_append]
    refine ⟨hx, hy.filter _, ?_⟩
    intro a ha b hb
    simp at hb
    rintro rfl
    exact hb.2 ha
  have e : u.length = (x ++ y.filter fun a => !x.contains a).length := by
    apply Nat.le_antisymm
    · refine nodup_len_le _ _ hu (fun a ha => ?_)
      rcases (h1 a).1 ha with h | h
      · simp [h]
      · by_cases k : a ∈ x
        · simp [k]
        · simp [k, h]
    · refine nodup_len_le _ _ hw (fun a ha => (h1 a).2 ?_)
      simp at ha
      rcases ha with h | h
      · exact .inl h
      · exact .inr h.1
  rw [List.length_append] at e
  exact ⟨by omega, List.countP_le_length⟩

theorem compact_facts (d : Array (List UInt8)) (hd : ∀ i j, i ≤ j → j < d.size → d[i]! ≤ d[j]!) : ∀ m, m ≤ d.size → (Lib.compactUpTo d m).Pairwise (· < ·) ∧ (∀ a ∈ Lib.compactUpTo d m, ∃ i, i < m ∧ a = d[i]!) ∧ ∀ j, j < m → d[j]! ∈ Lib.compactUpTo d m := by
  intro m
  induction m with
  | zero => intro _; exact ⟨by simp [Lib.compactUpTo], by simp [Lib.compactUpTo], by omega⟩
  | succ m ih =>
    intro hm
    obtain ⟨h1, h2, h3⟩ := ih (by omega)
    rw [Lib.compactUpTo_succ]
    by_cases hk : Lib.keeps d m = true
    · rw [if_pos hk]
      refine ⟨?_, ?_, ?_⟩
      · rw [List.pairwise_append]
        refine ⟨h1, by simp, fun a ha b hb => ?_⟩
        simp at hb
        subst hb
        obtain ⟨i, hi, rfl⟩ := h2 a ha
        have hne : d[m]! ≠ d[m - 1]! := by
          intro e
          have := Lib.keeps_neg (by omega) e
          rw [this] at hk
          cases hk
        exact bs_lt_of_le_of_lt (hd i (m - 1) (by omega) (by omega)) (bs_lt_of_le_of_ne (hd (m - 1) m (by omega) (by omega)) (Ne.symm hne))
      · intro a ha
        rcases List.mem_append.1 ha with h | h
        · obtain ⟨i, hi, e⟩ := h2 a h
          exact ⟨i, by omega, e⟩
        · exact ⟨m, by omega, by simpa using h⟩
      · intro j hj
        by_cases e : j = m
        · subst e; simp
        · exact List.mem_append_left _ (h3 j (by omega))
    · rw [if_neg hk, List.append_nil]
      refine ⟨h1, fun a ha => ?_, fun j hj => ?_⟩
      · obtain ⟨i, hi, e⟩ := h2 a ha
        exact ⟨i, by omega, e⟩
      · by_cases e : j = m
        · subst e
          have hj0 : 0 < j := by
            rcases Nat.eq_zero_or_pos j with h0 | h0
            · subst h0; exact absurd (Lib.keeps_lt_one d 0 (by omega)) hk
            · exact h0
          by_cases e : d[j]! = d[j - 1]!
          · rw [e]; exact h3 (j - 1) (by omega)
          · exact absurd (Lib.keeps_pos e) hk
        · exact h3 j (by omega)

theorem srt_sorted (L : List (List UInt8)) : (srt L).Pairwise (· ≤ ·) := by
  have := List.pairwise_mergeSort (le := fun x y : List UInt8 => decide (x ≤ y)) (fun a b c h k => by simp only [decide_eq_true_eq] at *; exact bs_le_trans h k) (fun a b => by simp only [Bool.or_eq_true, decide_eq_true_eq]; exact List.le_total a b) L
  exact this.imp (fun h => by simpa using h)
theorem cs_facts (L : List (List UInt8)) : (Lib.compact (srt L)).Pairwise (· < ·) ∧ ∀ a, a ∈ Lib.compact (srt L) ↔ a ∈ L := by
  have hs := srt_sorted L
  have hp : (srt L).Perm L := List.mergeSort_perm _ _
  generalize srt L = K at *
  have hd : ∀ i j, i ≤ j → j < K.toArray.size → K.toArray[i]! ≤ K.toArray[j]! := by
    intro i j hij hj
    have hj' : j < K.length := by simpa using hj
    have e1 : K.toArray[i]! = K[i]'(by omega) := by simp [show i < K.length by omega]
    have e2 : K.toArray[j]! = K[j] := by simp [hj']
    rw [e1, e2]
    by_cases e : i = j
    · subst e; exact List.le_refl _
    · exact (List.pairwise_iff_getElem.1 hs) i j (by omega) hj' (by omega)
  obtain ⟨h1, h2, h3⟩ := compact_facts K.toArray hd K.length (by simp)
  refine ⟨h1, fun a => ⟨fun h => ?_, fun h => ?_⟩⟩
  · obtain ⟨i, hi, rfl⟩ := h2 a h
    have : K.toArray[i]! = K[i] := by simp [hi]
    rw [this]
    exact hp.mem_iff.1 (List.getElem_mem _)
  · obtain ⟨i, hi, rfl⟩ := List.getElem_of_mem (hp.mem_iff.2 h)
    have := h3 i hi
    have e : K.toArray[i]! = K[i] := by simp [hi]
    rw [e] at this
    exact this
theorem shg_sorted (t : List UInt8) (k : Nat) : (shg t k).Pairwise (· < ·) := by
  unfold shg
  split
  · exact List.Pairwise.nil
  · exact (cs_facts _).1
theorem like_len (x y : List (List UInt8)) (hx : x.Pairwise (· < ·)) (hy : y.Pairwise (· < ·)) : (Lib.compact (srt (x ++ y))).length = x.length + y.length - com x y ∧ com x y ≤ x.length := by
  obtain ⟨h1, h2⟩ := cs_facts (x ++ y)
  exact union_len x y _ (nodup_of_lt hx) (nodup_of_lt hy) (nodup_of_lt h1) (fun a => by rw [h2, List.mem_append])

theorem com_nil_left (y : List (List UInt8)) : com [] y = 0 := rfl
theorem com_nil_right (x : List (List UInt8)) : com x [] = 0 := by simp [com]
theorem com_lt (a b : List UInt8) (x y : List (List UInt8)) (hy : (b :: y).Pairwise (· < ·)) (h : a < b) : com (a :: x) (b :: y) = com x (b :: y) := by
  have hn : ¬ a ∈ b :: y := by
    intro hm
    rcases List.mem_cons.1 hm with rfl | hm
    · exact bs_lt_irrefl _ h
    · exact bs_lt_irrefl _ (bs_lt_trans h ((List.pairwise_cons.1 hy).1 a hm))
  unfold com
  rw [List.countP_cons_of_neg (by simpa using hn)]
theorem com_drop (b : List UInt8) (x y : List (List UInt8)) (h : ¬ b ∈ x) : com x (b :: y) = com x y := by
  unfold com
  apply List.countP_congr
  intro a ha
  have : a ≠ b := by rintro rfl; exact h ha
  simp [this]
theorem com_gt (a b : List UInt8) (x y : List (List UInt8)) (hx : (a :: x).Pairwise (· < ·)) (h : b < a) : com (a :: x) (b :: y) = com (a :: x) y := by
  refine com_drop b _ y (fun hm => ?_)
  rcases List.mem_cons.1 hm with rfl | hm
  · exact bs_lt_irrefl _ h
  · exact bs_lt_irrefl _ (bs_lt_trans h ((List.pairwise_cons.1 hx).1 b hm))
theorem com_eq (a : List UInt8) (x y : List (List UInt8)) (hx : (a :: x).Pairwise (· < ·)) : com (a :: x) (a :: y) = com x y + 1 := by
  have h1 : com (a :: x) (a :: y) = com x (a :: y) + 1 := by
    unfold com
    rw [List.countP_cons_of_pos (by simp)]
  rw [h1, com_drop a x y (fun hm => bs_lt_irrefl _ ((List.pairwise_cons.1 hx).1 a hm))]
theorem com_take (x y : List (List UInt8)) (j : Nat) (h : j < x.length) : com (x.take (j + 1)) y = com (x.take j) y + if y.contains x[j] then 1 else 0 := by
  unfold com
  rw [List.take_succ_eq_append_getElem h, List.countP_append, List.countP_singleton]
end Go.Proofs.Ytpddiepfolfnoaa
