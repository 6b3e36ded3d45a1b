/- Spans: Without covers what a covers and b does not (plain). -/
import Derived.Test.YtpddiepfolfnoaaDoorB6
namespace Go.Proofs.YtpddiepfolfnoaaDoor
set_option linter.unusedVariables false
set_option linter.unusedSimpArgs false
set_option linter.defProp false

theorem rev_ind {α : Type} {P : List α → Prop} (h0 : P []) (h1 : ∀ l x, P l → P (l ++ [x])) (l : List α) : P l := by
  rw [← List.reverse_reverse l]
  induction l.reverse with
  | nil => exact h0
  | cons x r ih => rw [List.reverse_cons]; exact h1 _ _ ih

theorem spansF_right {l : List (Int × Int)} {size : Int} (h : spansF l size = 0) : Right l := by
  refine ⟨fun s hs => ?_, ?_⟩
  · obtain ⟨i, hi⟩ := List.getElem?_of_mem hs
    exact (spansF_at h hi).2.1
  · have hstep : ∀ k (hk : k + 1 < l.length), (l[k]'(by omega)).2 < (l[k + 1]'hk).1 := by
      intro k hk
      have h' := h
      unfold spansF at h'
      split at h'
      · cases h'
      · split at h'
        · cases h'
        · have := firstE_mem h' (errAt size l (k + 1)) (List.mem_of_getElem? (errAt_get size l hk))
          unfold errAt at this
          rw [show l.getD (k + 1) (0, 0) = l[k + 1]'hk from by simp [List.getD, hk], show l.getD (k + 1 - 1) (0, 0) = l[k]'(by omega) from by simp [List.getD, show k < l.length by omega]] at this
          split at this
          · cases this
          · split at this
            · cases this
            · omega
    rw [List.pairwise_iff_getElem]
    intro i j hi hj hij
    obtain ⟨d, rfl⟩ : ∃ d, j = i + 1 + d := ⟨j - i - 1, by omega⟩
    clear hij
    induction d with
    | zero => exact hstep i hj
    | succ d ih =>
      have h1 := ih (by omega)
      have h2 := hstep (i + 1 + d) (by omega)
      have h3 := (spansF_at h (List.getElem?_eq_getElem (show i + 1 + d < l.length by omega))).2.1
      simp only [Nat.add_assoc] at h1 h2 h3 ⊢
      omega

structure InB (s : Int × Int) (o0 b : List (Int × Int)) (st : Int × List (Int × Int)) : Prop where
  lo : s.1 ≤ st.1
  src : st.1 = s.1 ∨ ∃ x ∈ b, st.1 = x.2
  right : Right st.2
  bd : ∀ t ∈ st.2, t.2 < st.1
  hi : ∀ t ∈ st.2, t ∈ o0 ∨ t.2 ≤ s.2
  fre : ∀ j, st.1 ≤ j → j < s.2 → ¬ cv b j
  cov : ∀ j, cv st.2 j ↔ cv o0 j ∨ (s.1 ≤ j ∧ j < st.1 ∧ j < s.2 ∧ ¬ cv b j)

theorem inB_all (s : Int × Int) (o0 : List (Int × Int)) (h0 : Right o0) (hb0 : ∀ t ∈ o0, t.2 < s.1) : ∀ b, Right b → InB s o0 b (b.foldl (stepB s.2) (s.1, o0)) := by
  intro b
  refine rev_ind (P := fun b => Right b → InB s o0 b (b.foldl (stepB s.2) (s.1, o0))) ?_ ?_ b
  · intro _
    exact ⟨by simp, .inl rfl, h0, hb0, fun t ht => .inl ht, fun j _ _ ⟨x, hx, _⟩ => (by cases hx), fun j => ⟨fun h => .inl h, fun h => h.elim id (fun ⟨h1, h2, _⟩ => by simp at h2; omega)⟩⟩
  · intro b x ih hR
    obtain ⟨r1, r2, r3⟩ := right_app.1 hR
    have hI := ih r1
    rw [List.foldl_append]
    simp only [List.foldl_cons, List.foldl_nil]
    generalize b.foldl (stepB s.2) (s.1, o0) = st at *
    unfold stepB
    have hcx : ∀ j, cv (b ++ [x]) j ↔ cv b j ∨ (x.1 ≤ j ∧ j < x.2) := fun j => by rw [cv_app, cv_one]
    by_cases hc : x.2 ≤ st.1 ∨ s.2 ≤ x.1
    · rw [if_pos hc]
      refine ⟨hI.lo, hI.src.imp id (fun ⟨y, hy, e⟩ => ⟨y, by simp [hy], e⟩), hI.right, hI.bd, hI.hi, ?_, ?_⟩
      · intro j h1 h2 h3
        rcases (hcx j).1 h3 with h3 | h3
        · exact hI.fre j h1 h2 h3
        · omega
      · intro j
        rw [hI.cov, hcx]
        have hsrc : ¬ (x.1 ≤ j ∧ j < x.2 ∧ s.1 ≤ j ∧ j < st.1 ∧ j < s.2) := by
          intro hh
          rcases hI.src with e | ⟨y, hy, e⟩
          · omega
          · have := r3 y hy
            omega
        constructor
        · rintro (h1 | ⟨h1, h2, h3, h4⟩)
          · exact .inl h1
          · exact .inr ⟨h1, h2, h3, fun h5 => h5.elim h4 (fun h5 => hsrc ⟨h5.1, h5.2, h1, h2, h3⟩)⟩
        · rintro (h1 | ⟨h1, h2, h3, h4⟩)
          · exact .inl h1
          · exact .inr ⟨h1, h2, h3, fun h5 => h4 (.inl h5)⟩
    · rw [if_neg hc]
      have hgt : s.1 < x.2 ∧ st.1 < x.2 ∧ x.1 < s.2 := by have := hI.lo; omega
      have hxl : ∀ j, cv b j → j < x.1 := by
        rintro j ⟨y, hy, h1, h2⟩
        have := r3 y hy
        omega
      have hbel : ∀ j, s.1 ≤ j → j < st.1 → ¬ (x.1 ≤ j ∧ j < x.2) := by
        intro j h1 h2 h3
        rcases hI.src with e | ⟨y, hy, e⟩
        · omega
        · have := r3 y hy
          omega
      by_cases hd : st.1 < x.1
      · rw [if_pos hd]
        refine ⟨by show s.1 ≤ x.2; omega, .inr ⟨x, by simp, rfl⟩, right_app.2 ⟨hI.right, hd, hI.bd⟩, ?_, ?_, ?_, ?_⟩
        · intro t ht
          rcases List.mem_append.1 ht with ht | ht
          · have := hI.bd t ht; show t.2 < x.2; omega
          · rw [List.mem_singleton] at ht; subst ht; show x.1 < x.2; omega
        · intro t ht
          rcases List.mem_append.1 ht with ht | ht
          · exact hI.hi t ht
          · rw [List.mem_singleton] at ht; subst ht; exact .inr (by show x.1 ≤ s.2; omega)
        · intro j h1 h2 h3
          have h1 : x.2 ≤ j := h1
          rcases (hcx j).1 h3 with h3 | h3
          · have := hxl j h3; omega
          · omega
        · intro j
          show cv (st.2 ++ [(st.1, x.1)]) j ↔ cv o0 j ∨ (s.1 ≤ j ∧ j < x.2 ∧ j < s.2 ∧ ¬ cv (b ++ [x]) j)
          rw [cv_app, cv_one, hI.cov, hcx]
          constructor
          · rintro ((h1 | ⟨h1, h2, h3, h4⟩) | h1)
            · exact .inl h1
            · exact .inr ⟨h1, by omega, h3, fun h5 => h5.elim h4 (hbel j h1 h2)⟩
            · have h1 : st.1 ≤ j ∧ j < x.1 := h1
              have := hI.lo
              refine .inr ⟨by omega, by omega, by omega, fun h5 => h5.elim (hI.fre j h1.1 (by omega)) (by omega)⟩
          · rintro (h1 | ⟨h1, h2, h3, h4⟩)
            · exact .inl (.inl h1)
            · by_cases hj : j < st.1
              · exact .inl (.inr ⟨h1, hj, h3, fun h5 => h4 (.inl h5)⟩)
              · refine .inr (show st.1 ≤ j ∧ j < x.1 from ⟨by omega, ?_⟩)
                refine Int.not_le.1 fun h6 => h4 (.inr ⟨h6, h2⟩)
      · rw [if_neg hd]
        refine ⟨by show s.1 ≤ x.2; omega, .inr ⟨x, by simp, rfl⟩, hI.right, ?_, hI.hi, ?_, ?_⟩
        · intro t ht
          have := hI.bd t ht; show t.2 < x.2; omega
        · intro j h1 h2 h3
          have h1 : x.2 ≤ j := h1
          rcases (hcx j).1 h3 with h3 | h3
          · have := hxl j h3; omega
          · omega
        · intro j
          show cv st.2 j ↔ cv o0 j ∨ (s.1 ≤ j ∧ j < x.2 ∧ j < s.2 ∧ ¬ cv (b ++ [x]) j)
          rw [hI.cov, hcx]
          constructor
          · rintro (h1 | ⟨h1, h2, h3, h4⟩)
            · exact .inl h1
            · exact .inr ⟨h1, by omega, h3, fun h5 => h5.elim h4 (hbel j h1 h2)⟩
          · rintro (h1 | ⟨h1, h2, h3, h4⟩)
            · exact .inl h1
            · by_cases hj : j < st.1
              · exact .inr ⟨h1, hj, h3, fun h5 => h4 (.inl h5)⟩
              · exact absurd (.inr ⟨by omega, h2⟩) h4

structure InA (b a out : List (Int × Int)) : Prop where
  right : Right out
  bd : ∀ t ∈ out, ∃ s ∈ a, t.2 ≤ s.2
  cov : ∀ j, cv out j ↔ cv a j ∧ ¬ cv b j
theorem inA_all (b : List (Int × Int)) (hb : Right b) : ∀ a, Right a → InA b a (a.foldl (stepA b) []) := by
  intro a
  refine rev_ind (P := fun a => Right a → InA b a (a.foldl (stepA b) [])) ?_ ?_ a
  · intro _
    refine ⟨⟨by simp, by simp⟩, by simp, fun j => ?_⟩
    constructor
    · rintro ⟨s, hs, _⟩; cases hs
    · rintro ⟨⟨s, hs, _⟩, _⟩; cases hs
  · intro a s ih hR
    obtain ⟨r1, r2, r3⟩ := right_app.1 hR
    have hI := ih r1
    rw [List.foldl_append]
    simp only [List.foldl_cons, List.foldl_nil]
    generalize a.foldl (stepA b) [] = out at *
    have hlt : ∀ t ∈ out, t.2 < s.1 := by
      intro t ht
      obtain ⟨u, hu, h1⟩ := hI.bd t ht
      have := r3 u hu
      omega
    have hB := inB_all s out hI.right hlt b hb
    unfold stepA endA
    generalize b.foldl (stepB s.2) (s.1, out) = st at *
    have hca : ∀ j, cv (a ++ [s]) j ↔ cv a j ∨ (s.1 ≤ j ∧ j < s.2) := fun j => by rw [cv_app, cv_one]
    by_cases hd : st.1 < s.2
    · rw [if_pos hd]
      refine ⟨right_app.2 ⟨hB.right, hd, hB.bd⟩, ?_, ?_⟩
      · intro t ht
        rcases List.mem_append.1 ht with ht | ht
        · rcases hB.hi t ht with h1 | h1
          · obtain ⟨u, hu, h2⟩ := hI.bd t h1
            exact ⟨u, by simp [hu], h2⟩
          · exact ⟨s, by simp, h1⟩
        · rw [List.mem_singleton] at ht; subst ht; exact ⟨s, by simp, Int.le_refl _⟩
      · intro j
        rw [cv_app, cv_one, hB.cov, hI.cov, hca]
        constructor
        · rintro ((h1 | ⟨h1, h2, h3, h4⟩) | h1)
          · exact ⟨.inl h1.1, h1.2⟩
          · exact ⟨.inr ⟨h1, h3⟩, h4⟩
          · have h1 : st.1 ≤ j ∧ j < s.2 := h1
            have := hB.lo
            exact ⟨.inr ⟨by omega, h1.2⟩, hB.fre j h1.1 h1.2⟩
        · rintro ⟨h1 | h1, h2⟩
          · exact .inl (.inl ⟨h1, h2⟩)
          · by_cases hj : j < st.1
            · exact .inl (.inr ⟨h1.1, hj, h1.2, h2⟩)
            · exact .inr (show st.1 ≤ j ∧ j < s.2 from ⟨by omega, h1.2⟩)
    · rw [if_neg hd]
      refine ⟨hB.right, ?_, ?_⟩
      · intro t ht
        rcases hB.hi t ht with h1 | h1
        · obtain ⟨u, hu, h2⟩ := hI.bd t h1
          exact ⟨u, by simp [hu], h2⟩
        · exact ⟨s, by simp, h1⟩
      · intro j
        rw [hB.cov, hI.cov, hca]
        constructor
        · rintro (h1 | ⟨h1, h2, h3, h4⟩)
          · exact ⟨.inl h1.1, h1.2⟩
          · exact ⟨.inr ⟨h1, h3⟩, h4⟩
        · rintro ⟨h1 | h1, h2⟩
          · exact .inl ⟨h1, h2⟩
          · exact .inr ⟨h1.1, by omega, h1.2, h2⟩

theorem cov_cv (l : List (Int × Int)) (j : Nat) : cov l j = true ↔ cv l j := by
  unfold cov cv
  simp
theorem onAt_tab {n : Nat} {f : Nat → Bool} {i : Nat} (h : i < n) : onAt (tab n f) i = f i := by
  rw [onAt, List.getD_eq_getElem?_getD, tab_get h]; rfl

/-- A right list within a size is what spansFrom makes of the bytes that it covers. -/
theorem from_tab {out : List (Int × Int)} {n : Nat} {f : Nat → Bool} (hR : Right out) (h0 : ∀ s ∈ out, 0 ≤ s.1 ∧ s.2 ≤ n) (hf : ∀ j : Nat, j < n → (f j = true ↔ cv out j)) : out = spansFromF (tab n f) := by
  refine right_uniq hR (spansFrom_right _) fun j => ?_
  rw [spansFrom_cov, tab_len]
  constructor
  · rintro ⟨s, hs, h1, h2⟩
    have := h0 s hs
    obtain ⟨i, rfl⟩ : ∃ i : Nat, j = i := ⟨j.toNat, by omega⟩
    refine ⟨i, rfl, by omega, ?_⟩
    rw [onAt_tab (by omega)]
    exact (hf i (by omega)).2 ⟨s, hs, h1, h2⟩
  · rintro ⟨i, rfl, h1, h2⟩
    rw [onAt_tab h1] at h2
    exact (hf i h1).1 h2

theorem spansF_in {l : List (Int × Int)} {size : Int} (h : spansF l size = 0) : ∀ s ∈ l, 0 ≤ s.1 ∧ s.1 < s.2 ∧ s.2 ≤ size := by
  intro s hs
  obtain ⟨i, hi⟩ := List.getElem?_of_mem hs
  exact spansF_at h hi

theorem without_mixed (a b : List (Int × Int)) (size : Int) : withoutR a b size = mixedR a b size true := by
  unfold withoutR mixedR
  by_cases h : firstE [spansF a size, spansF b size] = 0
  · rw [if_pos h, if_pos h]
    obtain ⟨h1, h2⟩ := firstE2_zero h
    have hI := inA_all b (spansF_right h2) a (spansF_right h1)
    have hsz := spansF_len h1
    refine congrArg fewF (from_tab hI.right ?_ ?_)
    · intro t ht
      have hlt := hI.right.ok t ht
      obtain ⟨u, hu, g1, g2⟩ := ((hI.cov t.1).1 ⟨t, ht, by omega⟩).1
      obtain ⟨v, hv, g3⟩ := hI.bd t ht
      have := spansF_in h1 u hu
      have := spansF_in h1 v hv
      omega
    · intro j hj
      rw [show withoutF a b = a.foldl (stepA b) [] from rfl, hI.cov]
      simp only [mixP, if_true, Bool.and_eq_true, Bool.not_eq_true', cov_cv]
      rw [← cov_cv b j]
      simp
  · rw [if_neg h, if_neg h]
end Go.Proofs.YtpddiepfolfnoaaDoor
