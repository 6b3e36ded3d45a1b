/- Phrases: the places of phrases, found one by one or painted (plain). -/
import Derived.Test.YtpddiepfolfnoaaDoorC1
import Derived.Lib.IndexMore
namespace Go.Proofs.YtpddiepfolfnoaaDoor
set_option linter.unusedVariables false
set_option linter.unusedSimpArgs false
set_option linter.defProp false

/-- The places of a phrase that begin below n. -/
def occS (low p : List UInt8) (n : Nat) (s : Int × Int) : Prop := ∃ i : Nat, i < n ∧ Lib.occAt low p i = true ∧ s = ((i : Int), ((i + p.length : Nat) : Int))

theorem occ_room {s p : List UInt8} {i : Nat} (h : Lib.occAt s p i = true) (hi : i ≤ s.length) : i + p.length ≤ s.length := by
  have := List.IsPrefix.length_le (List.isPrefixOf_iff_prefix.1 h)
  rw [List.length_drop] at this
  omega
theorem occ_drop (s p : List UInt8) (a i : Nat) : Lib.occAt (s.drop a) p i = Lib.occAt s p (a + i) := by
  simp [Lib.occAt, List.drop_drop]
/-- No more places behind a. -/
theorem occS_none {low p : List UInt8} {a : Nat} (ha : a ≤ low.length) (h : ∀ j, j ≤ (low.drop a).length → Lib.occAt (low.drop a) p j = false) (s : Int × Int) : occS low p low.length s ↔ occS low p a s := by
  constructor
  · rintro ⟨i, h1, h2, h3⟩
    by_cases hi : i < a
    · exact ⟨i, hi, h2, h3⟩
    · have := h (i - a) (by rw [List.length_drop]; omega)
      rw [occ_drop, show a + (i - a) = i from by omega, h2] at this
      cases this
  · rintro ⟨i, h1, h2, h3⟩
    exact ⟨i, by omega, h2, h3⟩
/-- The next place. -/
theorem occS_next {low p : List UInt8} {a i : Nat} (h : Lib.occAt (low.drop a) p i = true) (hn : Lib.NoOcc (low.drop a) p i) (s : Int × Int) : occS low p (a + i + 1) s ↔ occS low p a s ∨ s = (((a + i : Nat) : Int), ((a + i + p.length : Nat) : Int)) := by
  rw [occ_drop] at h
  constructor
  · rintro ⟨j, h1, h2, h3⟩
    by_cases hj : j < a
    · exact .inl ⟨j, hj, h2, h3⟩
    · by_cases he : j = a + i
      · subst he; exact .inr h3
      · have := hn (j - a) (by omega)
        rw [occ_drop, show a + (j - a) = j from by omega, h2] at this
        cases this
  · rintro (⟨j, h1, h2, h3⟩ | h3)
    · exact ⟨j, by omega, h2, h3⟩
    · exact ⟨a + i, by omega, h, h3⟩
/-- All places of phrases. -/
def allS (low : List UInt8) (ps : List (List UInt8)) (s : Int × Int) : Prop := ∃ p ∈ ps, occS low (lowF p) low.length s
theorem allS_take {low : List UInt8} {ps : List (List UInt8)} {k : Nat} {p : List UInt8} (h : ps[k]? = some p) (s : Int × Int) : allS low (ps.take (k + 1)) s ↔ allS low (ps.take k) s ∨ occS low (lowF p) low.length s := by
  obtain ⟨hk, hx⟩ := List.getElem?_eq_some_iff.1 h
  rw [List.take_succ_eq_append_getElem hk, hx]
  simp only [allS, List.mem_append, List.mem_singleton]
  constructor
  · rintro ⟨q, h1 | rfl, h2⟩
    · exact .inl ⟨q, h1, h2⟩
    · exact .inr h2
  · rintro (⟨q, h1, h2⟩ | h2)
    · exact ⟨q, .inl h1, h2⟩
    · exact ⟨p, .inr rfl, h2⟩
/-- What is painted is what is put together. -/
theorem put_paint {n : Nat} {l : List (Int × Int)} {g : Nat → Bool} (hin : ∀ s ∈ l, 0 ≤ s.1 ∧ s.1 < s.2 ∧ s.2 ≤ n) (hs : l.Pairwise (fun u v => u.1 ≤ v.1)) (hg : ∀ j, j < n → (g j = true ↔ cv l j)) : putF l = spansFromF (tab n g) := by
  have hI := inP_all l hs (fun s h => (hin s h).2.1)
  refine from_tab hI.right ?_ ?_
  · intro t ht
    obtain ⟨⟨u, hu, e1⟩, ⟨v, hv, e2⟩⟩ := hI.src t ht
    have := hin u hu
    have := hin v hv
    omega
  · intro j hj
    rw [hg j hj, hI.cov]
theorem find_same {low : List UInt8} {ps : List (List UInt8)} {l : List (Int × Int)} {g : Nat → Bool} (hne : ∀ p ∈ ps, p ≠ []) (hm : ∀ s, s ∈ l ↔ allS low ps s) (hs : l.Pairwise (fun u v => u.1 ≤ v.1)) (hg : ∀ j, j < low.length → (g j = true ↔ ∃ s, allS low ps s ∧ s.1 ≤ j ∧ (j : Int) < s.2)) :
    putF l = spansFromF (tab low.length g) := by
  refine put_paint ?_ hs ?_
  · intro s h
    obtain ⟨p, hp, i, h1, h2, rfl⟩ := (hm s).1 h
    have := occ_room h2 (by omega)
    have : 0 < (lowF p).length := by
      rw [lowF_len]
      exact List.length_pos_iff.2 (hne p hp)
    simp only
    omega
  · intro j hj
    rw [hg j hj]
    constructor
    · rintro ⟨s, h1, h2⟩
      exact ⟨s, (hm s).2 h1, h2⟩
    · rintro ⟨s, h1, h2⟩
      exact ⟨s, (hm s).1 h1, h2⟩
end Go.Proofs.YtpddiepfolfnoaaDoor
