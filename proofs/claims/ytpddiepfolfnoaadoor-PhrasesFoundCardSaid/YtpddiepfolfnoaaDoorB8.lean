/- Spans: put joins sorted spans to right ones (plain). -/
import Derived.Test.YtpddiepfolfnoaaDoorB7
namespace Go.Proofs.YtpddiepfolfnoaaDoor
set_option linter.unusedVariables false
set_option linter.unusedSimpArgs false
set_option linter.defProp false

def lastTo (out : List (Int × Int)) : Int := (out.getD (out.length - 1) (0, 0)).2
def stepP (out : List (Int × Int)) (s : Int × Int) : List (Int × Int) :=
  if 0 < out.length ∧ s.1 ≤ lastTo out then setTo out (max (lastTo out) s.2) else out ++ [s]
def putF (l : List (Int × Int)) : List (Int × Int) := l.foldl stepP []
theorem lastTo_app (i : List (Int × Int)) (y : Int × Int) : lastTo (i ++ [y]) = y.2 := by
  unfold lastTo
  simp

structure InP (l out : List (Int × Int)) : Prop where
  right : Right out
  src : ∀ t ∈ out, (∃ u ∈ l, t.1 = u.1) ∧ ∃ u ∈ l, t.2 = u.2
  cov : ∀ j, cv out j ↔ cv l j
theorem inP_all : ∀ l : List (Int × Int), l.Pairwise (fun u v => u.1 ≤ v.1) → (∀ s ∈ l, s.1 < s.2) → InP l (putF l) := by
  intro l
  refine rev_ind (P := fun l => l.Pairwise (fun u v => u.1 ≤ v.1) → (∀ s ∈ l, s.1 < s.2) → InP l (putF l)) ?_ ?_ l
  · intro _ _
    exact ⟨⟨by simp [putF], by simp [putF]⟩, by simp [putF], fun j => Iff.rfl⟩
  · intro l s ih hS hV
    obtain ⟨p1, _, p3⟩ := List.pairwise_append.1 hS
    have hle : ∀ u ∈ l, u.1 ≤ s.1 := fun u hu => p3 u hu s (by simp)
    have hI := ih p1 (fun u hu => hV u (by simp [hu]))
    have hs := hV s (by simp)
    unfold putF at hI ⊢
    rw [List.foldl_append]
    simp only [List.foldl_cons, List.foldl_nil]
    generalize l.foldl stepP [] = out at *
    have hcl : ∀ j, cv (l ++ [s]) j ↔ cv l j ∨ (s.1 ≤ j ∧ j < s.2) := fun j => by rw [cv_app, cv_one]
    unfold stepP
    by_cases hc : 0 < out.length ∧ s.1 ≤ lastTo out
    · rw [if_pos hc]
      rcases List.eq_nil_or_concat out with rfl | ⟨i, y, rfl⟩
      · simp at hc
      simp only [List.concat_eq_append] at hc hI ⊢
      rw [lastTo_app] at hc ⊢
      rw [setTo_app]
      obtain ⟨r1, r2, r3⟩ := right_app.1 hI.right
      obtain ⟨⟨u, hu, e1⟩, ⟨v, hv, e2⟩⟩ := hI.src y (by simp)
      have h1 := hle u hu
      refine ⟨right_app.2 ⟨r1, by show y.1 < max y.2 s.2; omega, r3⟩, ?_, ?_⟩
      · intro t ht
        rcases List.mem_append.1 ht with ht | ht
        · obtain ⟨⟨u, hu, e1⟩, ⟨v, hv, e2⟩⟩ := hI.src t (by simp [ht])
          exact ⟨⟨u, by simp [hu], e1⟩, ⟨v, by simp [hv], e2⟩⟩
        · rw [List.mem_singleton] at ht
          subst ht
          refine ⟨⟨u, by simp [hu], e1⟩, ?_⟩
          by_cases hm : y.2 ≤ s.2
          · exact ⟨s, by simp, by show max y.2 s.2 = s.2; omega⟩
          · exact ⟨v, by simp [hv], by show max y.2 s.2 = v.2; omega⟩
      · intro j
        rw [cv_app, cv_one, hcl, ← hI.cov, cv_app, cv_one]
        show cv i j ∨ (y.1 ≤ j ∧ j < max y.2 s.2) ↔ _
        constructor
        · rintro (h2 | h2)
          · exact .inl (.inl h2)
          · by_cases hj : j < y.2
            · exact .inl (.inr ⟨h2.1, hj⟩)
            · exact .inr ⟨by omega, by omega⟩
        · rintro ((h2 | h2) | h2)
          · exact .inl h2
          · exact .inr ⟨h2.1, by omega⟩
          · exact .inr ⟨by omega, by omega⟩
    · rw [if_neg hc]
      have hlt : ∀ t ∈ out, t.2 < s.1 := by
        rcases List.eq_nil_or_concat out with rfl | ⟨i, y, rfl⟩
        · simp
        simp only [List.concat_eq_append] at hc hI ⊢
        rw [lastTo_app] at hc
        obtain ⟨r1, r2, r3⟩ := right_app.1 hI.right
        have hy : y.2 < s.1 := by
          refine Int.not_le.1 fun h => hc ⟨by simp, h⟩
        intro t ht
        rcases List.mem_append.1 ht with ht | ht
        · have := r3 t ht; omega
        · rw [List.mem_singleton] at ht; subst ht; exact hy
      refine ⟨right_app.2 ⟨hI.right, hs, hlt⟩, ?_, ?_⟩
      · intro t ht
        rcases List.mem_append.1 ht with ht | ht
        · obtain ⟨⟨u, hu, e1⟩, ⟨v, hv, e2⟩⟩ := hI.src t ht
          exact ⟨⟨u, by simp [hu], e1⟩, ⟨v, by simp [hv], e2⟩⟩
        · rw [List.mem_singleton] at ht
          subst ht
          exact ⟨⟨t, by simp, rfl⟩, ⟨t, by simp, rfl⟩⟩
      · intro j
        rw [cv_app, cv_one, hcl, hI.cov]

/-- Whatever order the sort gives. -/
theorem union_mixed {a b l : List (Int × Int)} {size : Int} (ha : spansF a size = 0) (hb : spansF b size = 0) (hp : ∀ s, s ∈ l ↔ s ∈ a ∨ s ∈ b) (hs : l.Pairwise (fun u v => u.1 ≤ v.1)) : fewF (putF l) = fewF (spansFromF (tab size.toNat (mixP a b false))) := by
  have hin : ∀ s ∈ l, 0 ≤ s.1 ∧ s.1 < s.2 ∧ s.2 ≤ size := by
    intro s h
    rcases (hp s).1 h with h | h
    · exact spansF_in ha s h
    · exact spansF_in hb s h
  have hI := inP_all l hs (fun s h => (hin s h).2.1)
  have hsz := spansF_len ha
  refine congrArg fewF (from_tab hI.right ?_ ?_)
  · intro t ht
    obtain ⟨⟨u, hu, e1⟩, ⟨v, hv, e2⟩⟩ := hI.src t ht
    have := hin u hu
    have := hin v hv
    omega
  · intro j hj
    rw [hI.cov]
    simp only [mixP, Bool.false_eq_true, if_false, Bool.or_eq_true, cov_cv]
    constructor
    · rintro (⟨s, h1, h2⟩ | ⟨s, h1, h2⟩)
      · exact ⟨s, (hp s).2 (.inl h1), h2⟩
      · exact ⟨s, (hp s).2 (.inr h1), h2⟩
    · rintro ⟨s, h1, h2⟩
      rcases (hp s).1 h1 with h | h
      · exact .inl ⟨s, h, h2⟩
      · exact .inr ⟨s, h, h2⟩
end Go.Proofs.YtpddiepfolfnoaaDoor
