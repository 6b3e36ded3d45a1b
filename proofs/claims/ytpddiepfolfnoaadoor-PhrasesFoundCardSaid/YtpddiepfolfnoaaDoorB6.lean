/- Spans: a right list is told by what it covers (plain). -/
import Derived.Test.YtpddiepfolfnoaaDoorB5
namespace Go.Proofs.YtpddiepfolfnoaaDoor
set_option linter.unusedVariables false
set_option linter.unusedSimpArgs false
set_option linter.defProp false

def cv (l : List (Int × Int)) (j : Int) : Prop := ∃ s ∈ l, s.1 ≤ j ∧ j < s.2
structure Right (l : List (Int × Int)) : Prop where
  ok : ∀ s ∈ l, s.1 < s.2
  ord : l.Pairwise (fun s t => s.2 < t.1)
theorem Right.tail {s : Int × Int} {l : List (Int × Int)} (h : Right (s :: l)) : Right l := ⟨fun t ht => h.ok t (by simp [ht]), (List.pairwise_cons.1 h.ord).2⟩
theorem Right.head {s : Int × Int} {l : List (Int × Int)} (h : Right (s :: l)) : s.1 < s.2 ∧ ∀ t ∈ l, s.2 < t.1 := ⟨h.ok s (by simp), (List.pairwise_cons.1 h.ord).1⟩

theorem right_uniq : ∀ {l m : List (Int × Int)}, Right l → Right m → (∀ j, cv l j ↔ cv m j) → l = m := by
  have head : ∀ {s t : Int × Int} {l m : List (Int × Int)}, Right (s :: l) → Right (t :: m) → (∀ j, cv (s :: l) j ↔ cv (t :: m) j) → t.1 ≤ s.1 := by
    intro s t l m hl hm h
    obtain ⟨u, hu, h1, h2⟩ := (h s.1).1 ⟨s, by simp, by have := hl.head.1; omega⟩
    rcases List.mem_cons.1 hu with rfl | hu
    · exact h1
    · have := hm.head.2 u hu
      have := hm.head.1
      omega
  have tl : ∀ {s t : Int × Int} {l m : List (Int × Int)}, Right (s :: l) → Right (t :: m) → s.1 = t.1 → (∀ j, cv (s :: l) j ↔ cv (t :: m) j) → t.2 ≤ s.2 := by
    intro s t l m hl hm e h
    refine Int.not_lt.1 fun hlt => ?_
    have h0 := hl.head.1
    obtain ⟨u, hu, h1, h2⟩ := (h s.2).2 ⟨t, by simp, by omega⟩
    rcases List.mem_cons.1 hu with rfl | hu
    · omega
    · have := hl.head.2 u hu
      omega
  intro l
  induction l with
  | nil =>
    intro m hl hm h
    cases m with
    | nil => rfl
    | cons t m =>
      obtain ⟨u, hu, _⟩ := (h t.1).2 ⟨t, by simp, by have := hm.head.1; omega⟩
      cases hu
  | cons s l ih =>
    intro m hl hm h
    cases m with
    | nil =>
      obtain ⟨u, hu, _⟩ := (h s.1).1 ⟨s, by simp, by have := hl.head.1; omega⟩
      cases hu
    | cons t m =>
      have e1 : s.1 = t.1 := Int.le_antisymm (head hm hl fun j => (h j).symm) (head hl hm h)
      have e2 : s.2 = t.2 := Int.le_antisymm (tl hm hl e1.symm fun j => (h j).symm) (tl hl hm e1 h)
      have e : s = t := Prod.ext e1 e2
      subst e
      rw [ih hl.tail hm.tail fun j => ?_]
      have key : ∀ {l m : List (Int × Int)}, Right (s :: l) → (∀ j, cv (s :: l) j → cv (s :: m) j) → cv l j → cv m j := by
        rintro l m hl h ⟨u, hu, h1, h2⟩
        obtain ⟨v, hv, g1, g2⟩ := h j ⟨u, by simp [hu], h1, h2⟩
        rcases List.mem_cons.1 hv with rfl | hv
        · have := hl.head.2 u hu
          omega
        · exact ⟨v, hv, g1, g2⟩
      exact ⟨key hl fun j => (h j).1, key hm fun j => (h j).2⟩

/-- What spansFrom gives. -/
structure FromInv (p : List Bool) (k : Nat) (out : List (Int × Int)) : Prop where
  right : Right out
  bd : ∀ s ∈ out, s.2 ≤ k
  last : onAt p (k - 1) = true → 0 < k → ∃ (i : List (Int × Int)) (y : Int × Int), out = i ++ [y] ∧ y.2 = (k : Int)
  gap : onAt p (k - 1) = false → 0 < k → ∀ s ∈ out, s.2 < k
  cov : ∀ j, cv out j ↔ ∃ i : Nat, j = i ∧ i < k ∧ onAt p i = true

theorem cv_app {l m : List (Int × Int)} {j : Int} : cv (l ++ m) j ↔ cv l j ∨ cv m j := by
  constructor
  · rintro ⟨s, hs, h⟩
    rcases List.mem_append.1 hs with hs | hs
    · exact .inl ⟨s, hs, h⟩
    · exact .inr ⟨s, hs, h⟩
  · rintro (⟨s, hs, h⟩ | ⟨s, hs, h⟩)
    · exact ⟨s, by simp [hs], h⟩
    · exact ⟨s, by simp [hs], h⟩
theorem cv_one {y : Int × Int} {j : Int} : cv [y] j ↔ y.1 ≤ j ∧ j < y.2 := by
  constructor
  · rintro ⟨s, hs, h⟩
    rw [List.mem_singleton] at hs
    subst hs
    exact h
  · intro h; exact ⟨y, by simp, h⟩
theorem right_app {l : List (Int × Int)} {y : Int × Int} : Right (l ++ [y]) ↔ Right l ∧ y.1 < y.2 ∧ ∀ s ∈ l, s.2 < y.1 := by
  constructor
  · intro h
    have := List.pairwise_append.1 h.ord
    exact ⟨⟨fun s hs => h.ok s (by simp [hs]), this.1⟩, h.ok y (by simp), fun s hs => this.2.2 s hs y (by simp)⟩
  · rintro ⟨h1, h2, h3⟩
    refine ⟨fun s hs => ?_, List.pairwise_append.2 ⟨h1.ord, by simp, fun s hs t ht => ?_⟩⟩
    · rcases List.mem_append.1 hs with hs | hs
      · exact h1.ok s hs
      · rw [List.mem_singleton] at hs; subst hs; exact h2
    · rw [List.mem_singleton] at ht; subst ht; exact h3 s hs
theorem setTo_app (i : List (Int × Int)) (y : Int × Int) (v : Int) : setTo (i ++ [y]) v = i ++ [(y.1, v)] := by
  unfold setTo
  simp

theorem from_step {p : List Bool} {k : Nat} {out : List (Int × Int)} (h : FromInv p k out) : FromInv p (k + 1) (stepS p out k) := by
  unfold stepS
  have hcov : ∀ (o : List (Int × Int)) (b : Prop), (∀ j, cv o j ↔ cv out j ∨ (j = k ∧ b)) → (b ↔ onAt p k = true) → ∀ j, cv o j ↔ ∃ i : Nat, j = i ∧ i < k + 1 ∧ onAt p i = true := by
    intro o b h1 h2 j
    rw [h1, h.cov, h2]
    constructor
    · rintro (⟨i, rfl, h3, h4⟩ | ⟨rfl, h4⟩)
      · exact ⟨i, rfl, by omega, h4⟩
      · exact ⟨k, rfl, by omega, h4⟩
    · rintro ⟨i, rfl, h3, h4⟩
      by_cases hi : i = k
      · subst hi; exact .inr ⟨rfl, h4⟩
      · exact .inl ⟨i, rfl, by omega, h4⟩
  by_cases hon : onAt p k = true
  · rw [if_pos hon]
    by_cases hprev : 0 < k ∧ onAt p (k - 1) = true
    · have hb : begS p out k = out := by
        unfold begS
        rw [if_neg (by simp [hon, hprev.2]; omega)]
      rw [hb]
      obtain ⟨i, y, rfl, hy⟩ := h.last hprev.2 hprev.1
      rw [setTo_app]
      obtain ⟨r1, r2, r3⟩ := right_app.1 h.right
      refine ⟨right_app.2 ⟨r1, by show y.1 < (k : Int) + 1; omega, r3⟩, ?_, fun _ _ => ⟨i, _, rfl, by simp⟩, ?_, ?_⟩
      · intro s hs
        rcases List.mem_append.1 hs with hs | hs
        · have := h.bd s (by simp [hs]); omega
        · rw [List.mem_singleton] at hs; subst hs; simp
      · intro hf; simp [hon] at hf
      · refine hcov _ True (fun j => ?_) (by simp [hon])
        rw [cv_app, cv_app, cv_one, cv_one]
        simp only [and_true]
        constructor
        · rintro (h1 | h1)
          · exact .inl (.inl h1)
          · by_cases hj : j = k
            · exact .inr hj
            · exact .inl (.inr (by omega))
        · rintro ((h1 | h1) | h1)
          · exact .inl h1
          · exact .inr (by omega)
          · exact .inr (by omega)
    · have hb : begS p out k = out ++ [((k : Int), 0)] := by
        unfold begS
        rw [if_pos ?_]
        simp only [hon, Bool.true_and, Bool.or_eq_true, decide_eq_true_eq, Bool.not_eq_true']
        by_cases hk : k = 0
        · exact .inl hk
        · right
          cases hq : onAt p (k - 1) with
          | false => rfl
          | true => exact absurd ⟨by omega, hq⟩ hprev
      rw [hb, setTo_app]
      have hlt : ∀ s ∈ out, s.2 < (k : Int) := by
        intro s hs
        by_cases hk : 0 < k
        · refine h.gap ?_ hk s hs
          cases hq : onAt p (k - 1) with
          | false => rfl
          | true => exact absurd ⟨hk, hq⟩ hprev
        · exfalso
          have h1 := h.right.ok s hs
          obtain ⟨i, _, hi, _⟩ := (h.cov s.1).1 ⟨s, hs, by omega⟩
          omega
      refine ⟨right_app.2 ⟨h.right, by show (k : Int) < (k : Int) + 1; omega, hlt⟩, ?_, fun _ _ => ⟨out, _, rfl, by simp⟩, ?_, ?_⟩
      · intro s hs
        rcases List.mem_append.1 hs with hs | hs
        · have := hlt s hs; omega
        · rw [List.mem_singleton] at hs; subst hs; simp
      · intro hf; simp [hon] at hf
      · refine hcov _ True (fun j => ?_) (by simp [hon])
        rw [cv_app, cv_one]
        simp only [and_true]
        constructor
        · rintro (h1 | h1)
          · exact .inl h1
          · exact .inr (by have h1 : (k : Int) ≤ j ∧ j < (k : Int) + 1 := h1; omega)
        · rintro (h1 | h1)
          · exact .inl h1
          · exact .inr (show (k : Int) ≤ j ∧ j < (k : Int) + 1 by omega)
  · rw [if_neg hon]
    have hb : begS p out k = out := by
      unfold begS
      rw [if_neg (by simp [hon])]
    rw [hb]
    refine ⟨h.right, fun s hs => by have := h.bd s hs; omega, ?_, ?_, ?_⟩
    · intro hf; simp [hon] at hf
    · intro _ _ s hs; have := h.bd s hs; omega
    · exact hcov _ False (fun j => by simp) (by simp [hon])
theorem from_all (p : List Bool) (k : Nat) : FromInv p k ((List.range k).foldl (stepS p) []) := by
  induction k with
  | zero =>
    refine ⟨⟨by simp, by simp⟩, by simp, by omega, by omega, fun j => ?_⟩
    constructor
    · rintro ⟨s, hs, _⟩; cases hs
    · rintro ⟨i, _, hi, _⟩; omega
  | succ k ih => rw [range_foldl]; exact from_step ih
theorem spansFrom_right (p : List Bool) : Right (spansFromF p) := (from_all p p.length).right
theorem spansFrom_cov (p : List Bool) (j : Int) : cv (spansFromF p) j ↔ ∃ i : Nat, j = i ∧ i < p.length ∧ onAt p i = true := (from_all p p.length).cov j
end Go.Proofs.YtpddiepfolfnoaaDoor
