
/- Own texts, put together: L1 L2 L3 I8. -/
import Derived.Test.YtndjmidmfmcbkaaGreatDoorM7
import Derived.Lib.LastIndexByte
import Derived.Test.YtndjmidmfmcbkaaGreatDoorLayLastIndex
import Derived.Test.YtndjmidmfmcbkaaGreatDoorM5
import Derived.Test.YtndjmidmfmcbkaaGreatDoorM3
import Derived.Test.YtndjmidmfmcbkaaGreatDoorLayDelStr
import Derived.Lib.OwnBridge
import Derived.WalkKit
/- Addresses, in plain lists: both texts read the same. -/
namespace Go.Proofs.YtndjmidmfmcbkaaGreatDoor
open Go.RowKit
set_option linter.unusedVariables false
set_option linter.unusedSimpArgs false
set_option linter.defProp false

def liF (s : List UInt8) (c : UInt8) : Int := Lib.lastIndexByte ⟨s.toArray⟩ (c.toNat : Nat)
theorem li_cases (s : List UInt8) (c : UInt8) : (liF s c = -1 ∧ c ∉ s) ∨ ∃ a b, s = a ++ c :: b ∧ c ∉ b ∧ liF s c = a.length := by
  have hg : ∀ j (hj : j < s.length), ((⟨s.toArray⟩ : ByteArray).data[j]!) = s[j] := by
    intro j hj
    rw [getElem!_pos _ j (by simpa using hj)]
    simp
  have hsz : (⟨s.toArray⟩ : ByteArray).size = s.length := ba_size s
  rcases Lib.lastIndexByte_spec ⟨s.toArray⟩ (c.toNat : Nat) with ⟨h1, h2⟩ | ⟨i, h0, h1, h2, h3⟩
  · refine .inl ⟨h1, fun hm => ?_⟩
    obtain ⟨j, hj, e⟩ := List.getElem_of_mem hm
    have := h2 j (by rw [hsz]; exact hj)
    rw [hg j hj, e] at this
    exact this rfl
  · rw [hsz] at h0
    rw [hg i h0] at h2
    have hc : s[i] = c := UInt8.toNat_inj.1 (by omega)
    refine .inr ⟨s.take i, s.drop (i + 1), by rw [← hc, ← List.drop_eq_getElem_cons h0, List.take_append_drop], fun hm => ?_, by rw [liF, h1]; simp; omega⟩
    obtain ⟨j, hj, e⟩ := List.getElem_of_mem hm
    rw [List.length_drop] at hj
    rw [List.getElem_drop] at e
    have := h3 (i + 1 + j) (by omega) (by rw [hsz]; omega)
    rw [hg (i + 1 + j) (by omega), e] at this
    exact this rfl
theorem suf1 (s : List UInt8) (c : UInt8) : sufE s [c] = true ↔ ∃ t, s = t ++ [c] := by
  unfold sufE
  simp only [Bool.and_eq_true, decide_eq_true_eq, List.length_cons, List.length_nil, Nat.zero_add]
  constructor
  · rintro ⟨_, h⟩
    exact ⟨s.take (s.length - 1), by rw [← h, List.take_append_drop]⟩
  · rintro ⟨t, rfl⟩
    simp
    omega
theorem cutSuf_hit (t : List UInt8) (c : UInt8) : cutSufF (t ++ [c]) [c] = (t, true) := by
  rw [cutSufF, if_pos ((suf1 _ _).2 ⟨t, rfl⟩)]
  simp
theorem cutSuf_miss {s : List UInt8} {c : UInt8} (h : ¬ sufE s [c] = true) : cutSufF s [c] = (s, false) := by rw [cutSufF, if_neg h]
/-- What mails and names never hold. -/
theorem sp_in {c d : UInt8} (hcd : c ≠ d) : ∀ {s : List UInt8}, c ∈ s → ∃ x ∈ sp d s, c ∈ x
  | y :: s, h => by
    rw [sp]
    split
    · rename_i hy
      have : c ∈ s := by
        rcases List.mem_cons.1 h with rfl | h
        · exact absurd hy hcd
        · exact h
      obtain ⟨x, h1, h2⟩ := sp_in hcd this
      exact ⟨x, by simp [h1], h2⟩
    · cases hs : sp d s with
      | nil => exact absurd hs (sp_ne d s)
      | cons z r =>
        rcases List.mem_cons.1 h with rfl | h
        · exact ⟨_ :: z, List.mem_cons_self .., List.mem_cons_self ..⟩
        · obtain ⟨x, h1, h2⟩ := sp_in hcd h
          rw [hs] at h1
          rcases List.mem_cons.1 h1 with rfl | h1
          · exact ⟨_ :: x, List.mem_cons_self .., List.mem_cons_of_mem _ h2⟩
          · exact ⟨x, List.mem_cons_of_mem _ h1, h2⟩
theorem allB_not {s o : List UInt8} {c : UInt8} (hc : inB o c = false) (h : c ∈ s) : allB s o = false := by
  rw [allB, List.all_eq_false]
  exact ⟨c, h, by simp [hc]⟩
theorem mail_no {s : List UInt8} (h : (60 : UInt8) ∈ s) : mailF s = false := by
  rw [Bool.eq_false_iff]
  intro hm
  simp only [mailF, Bool.and_eq_true] at hm
  obtain ⟨⟨⟨h1, _⟩, h2, _⟩, h3⟩ := hm
  rcases ix_cases s [64] with ⟨h4, _⟩ | ⟨a, b, h4, h5, _⟩
  · rw [cut_not h4] at h1; cases h1
  · have hc : cutF s [64] = (a, b, true) := by rw [h4] at h5 ⊢; exact cut_at h5
    rw [hc] at h2 h3
    rw [h4] at h
    rcases List.mem_append.1 h with h | h
    · rw [allB_not (by decide) h] at h2; cases h2
    · have hb : (60 : UInt8) ∈ b := by simpa using h
      simp only [domF, Bool.and_eq_true, List.all_eq_true] at h3
      rw [splF_sp] at h3
      obtain ⟨x, h6, h7⟩ := sp_in (d := 46) (by decide) hb
      have := (h3.1 x h6).1
      rw [allB_not (by decide) h7] at this
      cases this
theorem low60 (s : List UInt8) : (60 : UInt8) ∈ lowF s ↔ (60 : UInt8) ∈ s := by
  have hk : ∀ c : UInt8, lowB c = 60 ↔ c = 60 := all256 (p := fun c => lowB c = 60 ↔ c = 60) (by decide +kernel)
  simp only [lowF, List.mem_map]
  constructor
  · rintro ⟨c, h1, h2⟩; rw [(hk c).1 h2] at h1; exact h1
  · intro h; exact ⟨60, h, rfl⟩
theorem name_no {s : List UInt8} {c : UInt8} (hc : nameS.contains c = true) (h : c ∈ s) : nameB s = false := by
  rw [nameB]
  rcases ia_cases s nameS with ⟨_, h2⟩ | ⟨a, x, b, _, _, _, h3⟩
  · rw [h2 c h] at hc; cases hc
  · rw [h3]; simp
theorem name_nil : nameB [] = true := by decide +kernel

/-- The name that stands ahead of a mail in brackets. -/
def nmF (front : List UInt8) : Option (List UInt8) :=
  if Lib.trimRightS front [32] = front then none
  else if Lib.hasPrefix (Lib.trimRightS front [32]) [34] = true then
    if sufE ((Lib.trimRightS front [32]).drop 1) [34] = true then
      some (if (cutF (cutSufF ((Lib.trimRightS front [32]).drop 1) [34]).1 [44, 32]).2.2 = true ∧ (cutF (cutSufF ((Lib.trimRightS front [32]).drop 1) [34]).1 [44, 32]).1 ≠ [] ∧ (cutF (cutSufF ((Lib.trimRightS front [32]).drop 1) [34]).1 [44, 32]).2.1 ≠ []
        then (cutF (cutSufF ((Lib.trimRightS front [32]).drop 1) [34]).1 [44, 32]).2.1 ++ [32] ++ (cutF (cutSufF ((Lib.trimRightS front [32]).drop 1) [34]).1 [44, 32]).1
        else (cutSufF ((Lib.trimRightS front [32]).drop 1) [34]).1)
    else none
  else some (Lib.trimRightS front [32])
/-- An address that the program reads. -/
def adP (s : List UInt8) : Option (List UInt8 × List UInt8) :=
  if (cutF s [60]).2.2 = false then (if mailF (lowF s) = true then some ([], lowF s) else none)
  else if (cutF s [60]).1 = [] then (if (cutSufF (cutF s [60]).2.1 [62]).2 = true ∧ mailF (lowF (cutSufF (cutF s [60]).2.1 [62]).1) = true then some ([], lowF (cutSufF (cutF s [60]).2.1 [62]).1) else none)
  else match nmF (cutF s [60]).1 with
    | none => none
    | some n => if ((cutSufF (cutF s [60]).2.1 [62]).2 = true ∧ n ≠ []) ∧ nameB n = true ∧ mailF (lowF (cutSufF (cutF s [60]).2.1 [62]).1) = true then some (n, lowF (cutSufF (cutF s [60]).2.1 [62]).1) else none
/-- The name that the reference reads out of what stands ahead. -/
def nmR (f : List UInt8) : Option (List UInt8) :=
  if (2 ≤ f.length ∧ f.getD 0 0 = 34) ∧ sufE f [34] = true then
    if (cutF ((f.take (f.length - 1)).drop 1) [44, 32]).2.2 = true then
      if (cutF ((f.take (f.length - 1)).drop 1) [44, 32]).1 = [] ∨ (cutF ((f.take (f.length - 1)).drop 1) [44, 32]).2.1 = [] then none
      else some ((cutF ((f.take (f.length - 1)).drop 1) [44, 32]).2.1 ++ [32] ++ (cutF ((f.take (f.length - 1)).drop 1) [44, 32]).1)
    else some ((f.take (f.length - 1)).drop 1)
  else some f
def mlR (s : List UInt8) : List UInt8 := lowF ((s.take (s.length - 1)).drop ((liF s 60).toNat + 1))
def adR (s : List UInt8) : Option (List UInt8 × List UInt8) :=
  if mailF (lowF s) = true then some ([], lowF s)
  else if (liF s 60 < 0 ∨ sufE s [62] = false) ∨ mailF (mlR s) = false then none
  else if liF s 60 = 0 then some ([], mlR s)
  else if Lib.trimRightS (s.take (liF s 60).toNat) [32] = s.take (liF s 60).toNat ∨ Lib.trimRightS (s.take (liF s 60).toNat) [32] = [] then none
  else match nmR (Lib.trimRightS (s.take (liF s 60).toNat) [32]) with
    | none => none
    | some n => if nameB n = false ∨ n = [] then none else some (n, mlR s)
theorem trimR_mem {s : List UInt8} {c : UInt8} (hc : c ≠ 32) (h : c ∈ s) : c ∈ Lib.trimRightS s [32] := by
  unfold Lib.trimRightS
  rw [List.mem_reverse]
  have h : c ∈ s.reverse := by simpa using h
  generalize s.reverse = r at h
  induction r with
  | nil => exact h
  | cons y r ih =>
    rw [List.dropWhile_cons]
    split
    · rename_i hy
      rcases List.mem_cons.1 h with rfl | h
      · exfalso; revert hy; simp [hc]
      · exact ih h
    · exact h
/-- A name that holds what names never hold. -/
theorem nmR_no {f n : List UInt8} (hf : (60 : UInt8) ∈ f) (h : nmR f = some n) : nameB n = false := by
  refine name_no (c := 60) (by decide) ?_
  rw [nmR] at h
  split at h
  · rename_i hq
    obtain ⟨⟨h1, h2⟩, h3⟩ := hq
    have hi : (60 : UInt8) ∈ (f.take (f.length - 1)).drop 1 := by
      obtain ⟨t, ht⟩ := (suf1 _ _).1 h3
      cases t with
      | nil => rw [ht] at h1; simp at h1
      | cons y t =>
        rw [ht] at h2 hf ⊢
        simp at h2
        subst h2
        simp at hf ⊢
        exact hf
    generalize (f.take (f.length - 1)).drop 1 = i at *
    split at h
    · rename_i hc
      split at h
      · cases h
      · cases h
        rcases ix_cases i [44, 32] with ⟨h4, _⟩ | ⟨a, b, h4, h5, _⟩
        · rw [cut_not h4] at hc; cases hc
        · have hcut : cutF i [44, 32] = (a, b, true) := by rw [h4] at h5 ⊢; exact cut_at h5
          rw [hcut]
          rw [h4] at hi
          simp at hi ⊢
          rcases hi with hi | hi
          · exact .inr hi
          · exact .inl hi
    · cases h; exact hi
  · cases h; exact hf
/-- The names are read alike, but for such as cannot be. -/
theorem nm_same (a : List UInt8) (h1 : Lib.trimRightS a [32] ≠ a) (h2 : Lib.trimRightS a [32] ≠ []) :
    (match nmF a with | none => none | some n => if nameB n = true ∧ n ≠ [] then some n else none) = (match nmR (Lib.trimRightS a [32]) with | none => none | some n => if nameB n = false ∨ n = [] then none else some n) := by
  have hfin : ∀ n : List UInt8, (if nameB n = true ∧ n ≠ [] then some n else none) = (if nameB n = false ∨ n = [] then none else some n) := by
    intro n
    by_cases e1 : nameB n = true <;> by_cases e2 : n = [] <;> simp [e1, e2]
  have hbad : ∀ {n : List UInt8}, nameB n = false → (if nameB n = true ∧ n ≠ [] then some n else none) = none := by
    intro n h; rw [if_neg]; rintro ⟨h', _⟩; rw [h] at h'; cases h'
  have hbad2 : ∀ {n : List UInt8}, nameB n = false → (if nameB n = false ∨ n = [] then none else some n) = none := by
    intro n h; rw [if_pos (.inl h)]
  rw [nmF, if_neg h1]
  generalize Lib.trimRightS a [32] = f at *
  by_cases hp : Lib.hasPrefix f [34] = true
  · obtain ⟨q, rfl⟩ := (hp1 _ _).1 hp
    rw [if_pos hp]
    simp only [List.drop_succ_cons, List.drop_zero]
    by_cases hs : sufE q [34] = true
    · obtain ⟨i, rfl⟩ := (suf1 _ _).1 hs
      rw [if_pos hs, cutSuf_hit]
      have hR : nmR (34 :: (i ++ [34])) = if (cutF i [44, 32]).2.2 = true then (if (cutF i [44, 32]).1 = [] ∨ (cutF i [44, 32]).2.1 = [] then none else some ((cutF i [44, 32]).2.1 ++ [32] ++ (cutF i [44, 32]).1)) else some i := by
        have e : ((34 :: (i ++ [34])).take ((34 :: (i ++ [34])).length - 1)).drop 1 = i := by simp
        rw [nmR, e, if_pos]
        refine ⟨⟨by simp, rfl⟩, (suf1 _ _).2 ⟨34 :: i, rfl⟩⟩
      rw [hR]
      rcases ix_cases i [44, 32] with ⟨h4, _⟩ | ⟨x, y, h4, h5, _⟩
      · rw [cut_not h4, if_neg (by simp), if_neg (by simp)]
        exact hfin i
      · have hcut : cutF i [44, 32] = (x, y, true) := by rw [h4] at h5 ⊢; exact cut_at h5
        rw [hcut]
        simp only [if_true, true_and]
        by_cases hx : x = [] ∨ y = []
        · have hx2 : ¬ (x ≠ [] ∧ y ≠ []) := by rintro ⟨g1, g2⟩; rcases hx with h | h; exact g1 h; exact g2 h
          simp only [if_pos hx, if_neg hx2]
          exact hbad (name_no (c := 44) (by decide) (by rw [h4]; simp))
        · have hx2 : x ≠ [] ∧ y ≠ [] := ⟨fun h => hx (.inl h), fun h => hx (.inr h)⟩
          simp only [if_neg hx, if_pos hx2]
          exact hfin _
    · rw [if_neg hs]
      have hR : nmR (34 :: q) = some (34 :: q) := by
        rw [nmR, if_neg]
        rintro ⟨⟨g1, _⟩, g2⟩
        obtain ⟨t, ht⟩ := (suf1 _ _).1 g2
        cases t with
        | nil => simp at ht; rw [ht] at g1; simp at g1
        | cons z t => exact hs ((suf1 _ _).2 ⟨t, by simp at ht; exact ht.2⟩)
      rw [hR]
      exact (hbad2 (name_no (c := 34) (by decide) (by simp))).symm
  · rw [if_neg hp]
    have hR : nmR f = some f := by
      rw [nmR, if_neg]
      rintro ⟨⟨g1, g2⟩, _⟩
      apply hp
      cases f with
      | nil => simp at g1
      | cons y t => simp at g2; subst g2; exact (hp1 _ _).2 ⟨t, rfl⟩
    rw [hR]
    exact hfin f
theorem last_of {a b t : List UInt8} {c d : UInt8} (hcd : c ≠ d) (h : a ++ c :: b = t ++ [d]) : ∃ b1, b = b1 ++ [d] := by
  have h := congrArg List.reverse h
  simp only [List.reverse_append, List.reverse_cons, List.reverse_nil, List.nil_append, List.append_assoc] at h
  cases hb : b.reverse with
  | nil => rw [hb] at h; simp at h; exact absurd h.1 hcd
  | cons y r =>
    rw [hb] at h
    simp only [List.cons_append, List.cons.injEq] at h
    refine ⟨r.reverse, ?_⟩
    have := congrArg List.reverse hb
    simp only [List.reverse_reverse, List.reverse_cons] at this
    rw [this, h.1]
theorem ad_same (s : List UInt8) : adP s = adR s := by
  by_cases h60 : (60 : UInt8) ∈ s
  · have hml : mailF (lowF s) = false := mail_no ((low60 s).2 h60)
    rcases ix_cases s [60] with ⟨h4, _⟩ | ⟨a, b, h4, h5, h6⟩
    · rw [Lib.index_one] at h4
      rcases ib_cases s 60 with ⟨_, h⟩ | ⟨x, y, _, _, h⟩
      · exact absurd h60 h
      · omega
    have hcut : cutF s [60] = (a, b, true) := by rw [h4] at h5 ⊢; exact cut_at h5
    have ha : (60 : UInt8) ∉ a := by
      intro hm
      obtain ⟨x, y, rfl⟩ := List.append_of_mem hm
      have := h6 x (y ++ ([60] ++ b)) (by rw [h4]; simp)
      simp at this
      omega
    have hsab : s = a ++ 60 :: b := h4
    clear h4 h5 h6
    obtain ⟨a', b', h7, h8, h9⟩ : ∃ a' b', s = a' ++ 60 :: b' ∧ (60 : UInt8) ∉ b' ∧ liF s 60 = a'.length := by
      rcases li_cases s 60 with ⟨_, h⟩ | h
      · exact absurd h60 h
      · exact h
    have htk : s.take (liF s 60).toNat = a' := by rw [h9, h7]; simp
    have hR : adR s = if (liF s 60 < 0 ∨ sufE s [62] = false) ∨ mailF (mlR s) = false then none
        else if liF s 60 = 0 then some ([], mlR s)
        else if Lib.trimRightS a' [32] = a' ∨ Lib.trimRightS a' [32] = [] then none
        else match nmR (Lib.trimRightS a' [32]) with
          | none => none
          | some n => if nameB n = false ∨ n = [] then none else some (n, mlR s) := by
      rw [adR, if_neg (by simp [hml]), htk]
    rw [adP, hcut, hR]
    simp only [Bool.true_eq_false, if_false]
    by_cases hs : sufE s [62] = true
    · obtain ⟨t, ht⟩ := (suf1 _ _).1 hs
      -- what stands behind the last bracket ends with the closing one
      obtain ⟨b1, rfl⟩ : ∃ b1, b' = b1 ++ [62] := by
        exact last_of (c := 60) (by decide) (by rw [← h7, ht])
      obtain ⟨b0, rfl⟩ : ∃ b0, b = b0 ++ [62] := by
        exact last_of (c := 60) (by decide) (by rw [← hsab, ht])
      have hm : mlR s = lowF b1 := by
        rw [mlR, h9, h7]
        congr 1
        have e : a' ++ 60 :: (b1 ++ [62]) = (a' ++ 60 :: b1) ++ [62] := by simp
        rw [e, List.length_append, List.length_singleton, Nat.add_sub_cancel, List.take_left' rfl]
        simp
      rw [cutSuf_hit, hm, h9]
      have hns : ¬ sufE s [62] = false := by rw [hs]; simp
      by_cases h60b : (60 : UInt8) ∈ b0 ++ [62]
      · -- more than one bracket
        have hb0 : (60 : UInt8) ∈ b0 := by simpa using h60b
        have hmf : mailF (lowF b0) = false := mail_no ((low60 _).2 hb0)
        have ha' : (60 : UInt8) ∈ a' := by
          have e : a ++ 60 :: (b0 ++ [62]) = a' ++ 60 :: (b1 ++ [62]) := by rw [← hsab, h7]
          rcases Nat.lt_trichotomy a.length a'.length with hl | hl | hl
          · have : a'[a.length]? = some 60 := by
              have := congrArg (fun l => l[a.length]?) e
              simp only [List.getElem?_append_right (Nat.le_refl _), Nat.sub_self, List.getElem?_cons_zero] at this
              rw [List.getElem?_append_left hl] at this
              exact this.symm
            exact List.mem_of_getElem? this
          · exfalso
            have : b0 ++ [62] = b1 ++ [62] := by
              have := congrArg (List.drop (a.length + 1)) e
              rw [show a ++ 60 :: (b0 ++ [62]) = (a ++ [60]) ++ (b0 ++ [62]) from by simp, show a' ++ 60 :: (b1 ++ [62]) = (a' ++ [60]) ++ (b1 ++ [62]) from by simp, List.drop_left' (by simp), List.drop_left' (by simp [hl])] at this
              exact this
            rw [this] at h60b
            exact h8 h60b
          · exfalso
            have : a[a'.length]? = some 60 := by
              have := congrArg (fun l => l[a'.length]?) e
              simp only [List.getElem?_append_right (Nat.le_refl _), Nat.sub_self, List.getElem?_cons_zero] at this
              rw [List.getElem?_append_left hl] at this
              exact this
            exact ha (List.mem_of_getElem? this)
        have hP : (if a = [] then if true = true ∧ mailF (lowF b0) = true then some ([], lowF b0) else none else match nmF a with | none => none | some n => if (true = true ∧ n ≠ []) ∧ nameB n = true ∧ mailF (lowF b0) = true then some (n, lowF b0) else none) = none := by
          split
          · rw [if_neg (by simp [hmf])]
          · split
            · rfl
            · rw [if_neg (by simp [hmf])]
        rw [hP]
        symm
        split
        · rfl
        · rw [if_neg (by intro h; have : a' = [] := List.eq_nil_of_length_eq_zero (by omega); rw [this] at ha'; simp at ha')]
          split
          · rfl
          · split
            · rfl
            · rename_i n hn
              rw [if_pos (.inl (nmR_no (trimR_mem (by decide) ha') hn))]
      · have he := first_eq (c := 60) (a := a) (b := b0 ++ [62]) (a' := a') (b' := b1 ++ [62]) (by rw [← hsab, h7]) ha (by
          intro hm
          obtain ⟨x, y, hxy⟩ := List.append_of_mem hm
          have e : a ++ 60 :: (b0 ++ [62]) = x ++ 60 :: (y ++ 60 :: (b1 ++ [62])) := by rw [← hsab, h7, hxy]; simp
          rcases Nat.lt_trichotomy a.length x.length with hl | hl | hl
          · have : (x ++ 60 :: (y ++ 60 :: (b1 ++ [62]))).drop (a.length + 1) = b0 ++ [62] := by
              rw [← e, show a ++ 60 :: (b0 ++ [62]) = (a ++ [60]) ++ (b0 ++ [62]) from by simp, List.drop_left' (by simp)]
            apply h60b
            rw [← this, List.drop_append_of_le_length (by omega)]
            simp
          · have : (x ++ 60 :: (y ++ 60 :: (b1 ++ [62]))).drop (a.length + 1) = b0 ++ [62] := by
              rw [← e, show a ++ 60 :: (b0 ++ [62]) = (a ++ [60]) ++ (b0 ++ [62]) from by simp, List.drop_left' (by simp)]
            apply h60b
            rw [← this, show x ++ 60 :: (y ++ 60 :: (b1 ++ [62])) = (x ++ [60]) ++ (y ++ 60 :: (b1 ++ [62])) from by simp, List.drop_left' (by simp [hl])]
            simp
          · have : a[x.length]? = some 60 := by
              have := congrArg (fun l => l[x.length]?) e
              simp only [List.getElem?_append_right (Nat.le_refl _), Nat.sub_self, List.getElem?_cons_zero] at this
              rw [List.getElem?_append_left hl] at this
              exact this
            exact ha (List.mem_of_getElem? this))
        obtain ⟨rfl, he2⟩ := he
        have hb : b0 = b1 := by simpa using he2
        subst hb
        by_cases hmf : mailF (lowF b0) = true
        · have hnot : ¬ ((((a.length : Nat) : Int) < 0 ∨ sufE s [62] = false) ∨ mailF (lowF b0) = false) := by
            rintro ((h | h) | h)
            · omega
            · exact hns h
            · rw [hmf] at h; cases h
          rw [if_neg hnot]
          by_cases hz : a = []
          · subst hz
            rw [if_pos rfl, if_pos ⟨rfl, hmf⟩, if_pos (show ((([] : List UInt8).length : Nat) : Int) = 0 from rfl)]
          · have hz2 : ¬ ((a.length : Nat) : Int) = 0 := by
              intro h; exact hz (List.eq_nil_of_length_eq_zero (by omega))
            rw [if_neg hz, if_neg hz2]
            by_cases t1 : Lib.trimRightS a [32] = a
            · rw [if_pos (.inl t1), nmF, if_pos t1]
            · by_cases t2 : Lib.trimRightS a [32] = []
              · rw [if_pos (.inr t2), nmF, if_neg t1, t2, if_neg (by decide)]
                simp
              · rw [if_neg (by rintro (h | h); exact t1 h; exact t2 h)]
                have := nm_same a t1 t2
                cases hn1 : nmF a with
                | none =>
                  rw [hn1] at this
                  cases hn2 : nmR (Lib.trimRightS a [32]) with
                  | none => rfl
                  | some n =>
                    rw [hn2] at this
                    simp only at this ⊢
                    split
                    · rfl
                    · rename_i hx; rw [if_neg hx] at this; cases this
                | some m =>
                  rw [hn1] at this
                  cases hn2 : nmR (Lib.trimRightS a [32]) with
                  | none =>
                    rw [hn2] at this
                    simp only at this ⊢
                    rw [if_neg]
                    rintro ⟨⟨_, g1⟩, g2, _⟩
                    rw [if_pos ⟨g2, g1⟩] at this
                    cases this
                  | some n =>
                    rw [hn2] at this
                    simp only at this ⊢
                    by_cases g : nameB m = true ∧ m ≠ []
                    · rw [if_pos g] at this
                      rw [if_pos (by simp [g.1, g.2, hmf])]
                      split at this
                      · cases this
                      · rename_i hx; rw [if_neg hx]; cases this; rfl
                    · rw [if_neg g] at this
                      rw [if_neg (fun h => g ⟨h.2.1, h.1.2⟩)]
                      split at this
                      · rename_i hx; rw [if_pos hx]
                      · cases this
        · have hmf : mailF (lowF b0) = false := Bool.eq_false_iff.2 hmf
          rw [if_pos (show ((((a.length : Nat) : Int) < 0 ∨ sufE s [62] = false) ∨ mailF (lowF b0) = false) from .inr hmf)]
          split
          · rw [if_neg (by simp [hmf])]
          · split
            · rfl
            · rw [if_neg (by simp [hmf])]
    · have hs' : sufE s [62] = false := Bool.eq_false_iff.2 hs
      rw [if_pos (show (liF s 60 < 0 ∨ sufE s [62] = false) ∨ mailF (mlR s) = false from .inl (.inr hs'))]
      have hb : ¬ sufE b [62] = true := by
        intro h
        obtain ⟨t, rfl⟩ := (suf1 _ _).1 h
        exact hs ((suf1 _ _).2 ⟨a ++ 60 :: t, by rw [hsab]; simp⟩)
      rw [cutSuf_miss hb]
      split
      · rw [if_neg (by simp)]
      · split
        · rfl
        · rw [if_neg (by simp)]
  · have h1 : Lib.index s [60] = -1 := by
      rw [Lib.index_one]
      rcases ib_cases s 60 with ⟨h, _⟩ | ⟨x, y, h, _, _⟩
      · exact h
      · exact absurd (by rw [h]; simp) h60
    have h2 : liF s 60 = -1 := by
      rcases li_cases s 60 with ⟨h, _⟩ | ⟨x, y, h, _, _⟩
      · exact h
      · exact absurd (by rw [h]; simp) h60
    rw [adP, cut_not h1, adR, h2, if_pos rfl, if_pos (show ((-1 : Int) < 0 ∨ sufE s [62] = false) ∨ mailF (mlR s) = false from .inl (.inl (by decide)))]
end Go.Proofs.YtndjmidmfmcbkaaGreatDoor

/- Addresses, one at a time: read and written, on both sides. -/
namespace Go.Proofs.YtndjmidmfmcbkaaGreatDoor
open Go.RowKit
set_option linter.unusedVariables false
set_option linter.unusedSimpArgs false
set_option linter.defProp false

/- paperchase/thread.printed -/
def ir_thread_printed : IC :=
  (.seq (.reg [⟨some 1, .box 49 (.t 0), none⟩,
      ⟨some 2, .mov (.c (.str [])), none⟩])
    (.seq (.seq (.reg [⟨some 3, .fla 0 (.t 1), none⟩,
      ⟨some 4, .ld 1 false (.t 3), none⟩,
      ⟨some 5, .bin .eql (.t 4) (.c (.str [])), none⟩])
    (.cond (.t 5) (.seq (.reg [⟨some 6, .fla 1 (.t 1), none⟩,
      ⟨some 7, .ld 1 false (.t 6), none⟩,
      ⟨some 2, .mov (.t 7), none⟩])
    .ret) .skip))
    (.seq (.reg [⟨some 8, .fla 0 (.t 1), none⟩,
      ⟨some 9, .ld 1 false (.t 8), none⟩,
      ⟨some 10, .bin .add (.t 9) (.c (.str [32, 60])), none⟩,
      ⟨some 11, .fla 1 (.t 1), none⟩,
      ⟨some 12, .ld 1 false (.t 11), none⟩,
      ⟨some 13, .bin .add (.t 10) (.t 12), none⟩,
      ⟨some 14, .bin .add (.t 13) (.c (.str [62])), none⟩,
      ⟨some 2, .mov (.t 14), none⟩])
    .ret)))
def rs_thread_printed : List IRes := [.t 2]
theorem ck_thread_printed : chkF Tryz.prog Tryz.f98 ir_thread_printed rs_thread_printed 15 = true := by kernel_rfl
/- paperchase/thread.PrintAddress -/
def ir_thread_PrintAddress : IC :=
  (.seq (.reg [⟨some 1, .box 49 (.t 0), none⟩,
      ⟨some 2, .mov (.c (.str [])), none⟩,
      ⟨some 3, .mov (.c (.int .i64 0)), none⟩])
    (.seq (.seq (.reg [⟨some 4, .ld 2 true (.t 1), none⟩,
      ⟨some 5, .call 97 [.t 4], none⟩,
      ⟨some 6, .not (.t 5), none⟩])
    (.cond (.t 6) (.seq (.reg [⟨some 2, .mov (.c (.str [])), none⟩,
      ⟨some 3, .mov (.c (.int .i64 3)), none⟩])
    .ret) .skip))
    (.seq (.reg [⟨some 7, .ld 2 true (.t 1), none⟩,
      ⟨some 8, .call 98 [.t 7], none⟩,
      ⟨some 2, .mov (.t 8), none⟩,
      ⟨some 3, .mov (.c (.int .i64 0)), none⟩])
    .ret)))
def rs_thread_PrintAddress : List IRes := [.t 2, .t 3]
theorem ck_thread_PrintAddress : chkF Tryz.prog Tryz.f28 ir_thread_PrintAddress rs_thread_PrintAddress 9 = true := by kernel_rfl
/- paperchase/chaseref1.nameOf -/
def ir_chaseref1_nameOf : IC :=
  (.seq (.reg [⟨some 2, .mov (.c (.bool false)), none⟩])
    (.seq (.reg [⟨some 3, .mov (.t 0), none⟩,
      ⟨some 4, .sln (.t 3), none⟩,
      ⟨some 5, .bin .leq (.t 4) (.c (.int .i64 60)), none⟩,
      ⟨some 6, .mov (.t 5), none⟩,
      ⟨some 7, .mov (.t 0), (some (6, true))⟩,
      ⟨some 8, .call 177 [.t 7], (some (6, true))⟩,
      ⟨some 9, .pick (.t 6) (.t 8) (.c (.bool false)), none⟩,
      ⟨some 10, .mov (.t 9), none⟩,
      ⟨some 11, .mov (.t 0), (some (10, true))⟩,
      ⟨some 12, .call 178 [.t 11, .c (.str [34, 60, 62, 44, 59])], (some (10, true))⟩,
      ⟨some 13, .not (.t 12), (some (10, true))⟩,
      ⟨some 14, .pick (.t 10) (.t 13) (.c (.bool false)), none⟩,
      ⟨some 2, .mov (.t 14), none⟩])
    .ret))
def rs_chaseref1_nameOf : List IRes := [.t 2]
theorem ck_chaseref1_nameOf : chkF Tryz.prog Tryz.f99 ir_chaseref1_nameOf rs_chaseref1_nameOf 15 = true := by kernel_rfl
/- paperchase/chaseref1.AddressRight -/
def ir_chaseref1_AddressRight : IC :=
  (.seq (.reg [⟨some 1, .box 49 (.t 0), none⟩,
      ⟨some 2, .mov (.c (.bool false)), none⟩])
    (.seq (.reg [⟨some 3, .fla 0 (.t 1), none⟩,
      ⟨some 4, .ld 1 false (.t 3), none⟩,
      ⟨some 5, .call 99 [.t 4], none⟩,
      ⟨some 6, .mov (.t 5), none⟩,
      ⟨some 7, .fla 1 (.t 1), (some (6, true))⟩,
      ⟨some 8, .ld 1 false (.t 7), (some (6, true))⟩,
      ⟨some 9, .call 17 [.t 8], (some (6, true))⟩,
      ⟨some 10, .pick (.t 6) (.t 9) (.c (.bool false)), none⟩,
      ⟨some 2, .mov (.t 10), none⟩])
    .ret))
def rs_chaseref1_AddressRight : List IRes := [.t 2]
theorem ck_chaseref1_AddressRight : chkF Tryz.prog Tryz.f29 ir_chaseref1_AddressRight rs_chaseref1_AddressRight 11 = true := by kernel_rfl
/- paperchase/chaseref1.addressIn -/
def ir_chaseref1_addressIn : IC :=
  (.seq (.reg [⟨some 2, .alc 49 [.str [], .str []], none⟩,
      ⟨some 3, .mov (.c (.int .i64 0)), none⟩])
    (.seq (.reg [⟨some 11, .mov (.t 0), none⟩,
      ⟨some 12, .call 94 [.t 11, .c (.str [32])], none⟩,
      ⟨some 4, .mov (.t 12), none⟩])
    (.seq (.seq (.reg [⟨some 13, .mov (.t 4), none⟩,
      ⟨some 14, .call 115 [.t 13], none⟩,
      ⟨some 15, .call 17 [.t 14], none⟩])
    (.cond (.t 15) (.seq (.reg [⟨some 16, .mov (.t 4), none⟩,
      ⟨some 17, .call 115 [.t 16], none⟩,
      ⟨some 18, .bld [.str [], .str []] [(1, 1, .t 17)], none⟩,
      ⟨none, .st 2 (.t 2) (.t 18), none⟩,
      ⟨some 3, .mov (.c (.int .i64 0)), none⟩])
    .ret) .skip))
    (.seq (.reg [⟨some 19, .mov (.t 4), none⟩,
      ⟨some 20, .call 121 [.t 19, .c (.str [60])], none⟩,
      ⟨some 5, .mov (.t 20), none⟩])
    (.seq (.seq (.reg [⟨some 21, .mov (.t 5), none⟩,
      ⟨some 22, .bin .lss (.t 21) (.c (.int .i64 0)), none⟩,
      ⟨some 23, .mov (.t 22), none⟩,
      ⟨some 24, .mov (.t 4), (some (23, false))⟩,
      ⟨some 25, .call 156 [.t 24, .c (.str [62])], (some (23, false))⟩,
      ⟨some 26, .not (.t 25), (some (23, false))⟩,
      ⟨some 27, .pick (.t 23) (.c (.bool true)) (.t 26), none⟩,
      ⟨some 28, .mov (.t 27), none⟩,
      ⟨some 29, .mov (.t 4), (some (28, false))⟩,
      ⟨some 30, .mov (.t 5), (some (28, false))⟩,
      ⟨some 31, .bin .add (.t 30) (.c (.int .i64 1)), (some (28, false))⟩,
      ⟨some 32, .mov (.t 4), (some (28, false))⟩,
      ⟨some 33, .sln (.t 32), (some (28, false))⟩,
      ⟨some 34, .bin .sub (.t 33) (.c (.int .i64 1)), (some (28, false))⟩,
      ⟨some 35, .ssl (.t 29) (some (.t 31)) (some (.t 34)), (some (28, false))⟩,
      ⟨some 36, .call 115 [.t 35], (some (28, false))⟩,
      ⟨some 37, .call 17 [.t 36], (some (28, false))⟩,
      ⟨some 38, .not (.t 37), (some (28, false))⟩,
      ⟨some 39, .pick (.t 28) (.c (.bool true)) (.t 38), none⟩])
    (.cond (.t 39) (.seq (.reg [⟨some 40, .bld [.str [], .str []] [], none⟩,
      ⟨none, .st 2 (.t 2) (.t 40), none⟩,
      ⟨some 3, .mov (.c (.int .i64 9)), none⟩])
    .ret) .skip))
    (.seq (.reg [⟨some 41, .mov (.t 4), none⟩,
      ⟨some 42, .mov (.t 5), none⟩,
      ⟨some 43, .bin .add (.t 42) (.c (.int .i64 1)), none⟩,
      ⟨some 44, .mov (.t 4), none⟩,
      ⟨some 45, .sln (.t 44), none⟩,
      ⟨some 46, .bin .sub (.t 45) (.c (.int .i64 1)), none⟩,
      ⟨some 47, .ssl (.t 41) (some (.t 43)) (some (.t 46)), none⟩,
      ⟨some 48, .call 115 [.t 47], none⟩,
      ⟨some 49, .bld [.str [], .str []] [(1, 1, .t 48)], none⟩,
      ⟨some 6, .alc 49 [.str [], .str []], none⟩,
      ⟨none, .st 2 (.t 6) (.t 49), none⟩])
    (.seq (.reg [⟨some 50, .mov (.t 4), none⟩,
      ⟨some 51, .mov (.t 5), none⟩,
      ⟨some 52, .ssl (.t 50) none (some (.t 51)), none⟩,
      ⟨some 53, .call 164 [.t 52, .c (.str [32])], none⟩,
      ⟨some 7, .mov (.t 53), none⟩])
    (.seq (.seq (.reg [⟨some 54, .mov (.t 5), none⟩,
      ⟨some 55, .bin .eql (.t 54) (.c (.int .i64 0)), none⟩])
    (.cond (.t 55) (.seq (.reg [⟨some 56, .ld 2 true (.t 6), none⟩,
      ⟨none, .st 2 (.t 2) (.t 56), none⟩,
      ⟨some 3, .mov (.c (.int .i64 0)), none⟩])
    .ret) .skip))
    (.seq (.seq (.reg [⟨some 57, .mov (.t 7), none⟩,
      ⟨some 58, .mov (.t 4), none⟩,
      ⟨some 59, .mov (.t 5), none⟩,
      ⟨some 60, .ssl (.t 58) none (some (.t 59)), none⟩,
      ⟨some 61, .bin .eql (.t 57) (.t 60), none⟩,
      ⟨some 62, .mov (.t 61), none⟩,
      ⟨some 63, .mov (.t 7), (some (62, false))⟩,
      ⟨some 64, .bin .eql (.t 63) (.c (.str [])), (some (62, false))⟩,
      ⟨some 65, .pick (.t 62) (.c (.bool true)) (.t 64), none⟩])
    (.cond (.t 65) (.seq (.reg [⟨some 66, .bld [.str [], .str []] [], none⟩,
      ⟨none, .st 2 (.t 2) (.t 66), none⟩,
      ⟨some 3, .mov (.c (.int .i64 9)), none⟩])
    .ret) .skip))
    (.seq (.reg [⟨some 67, .mov (.t 7), none⟩,
      ⟨some 68, .fla 0 (.t 6), none⟩,
      ⟨none, .st 1 (.t 68) (.t 67), none⟩])
    (.seq (.seq (.reg [⟨some 69, .mov (.t 7), none⟩,
      ⟨some 70, .sln (.t 69), none⟩,
      ⟨some 71, .bin .geq (.t 70) (.c (.int .i64 2)), none⟩,
      ⟨some 72, .mov (.t 71), none⟩,
      ⟨some 73, .mov (.t 7), (some (72, true))⟩,
      ⟨some 74, .idx (.t 73) (.c (.int .i64 0)), (some (72, true))⟩,
      ⟨some 75, .bin .eql (.t 74) (.c (.int .u8 34)), (some (72, true))⟩,
      ⟨some 76, .pick (.t 72) (.t 75) (.c (.bool false)), none⟩,
      ⟨some 77, .mov (.t 76), none⟩,
      ⟨some 78, .mov (.t 7), (some (77, true))⟩,
      ⟨some 79, .call 156 [.t 78, .c (.str [34])], (some (77, true))⟩,
      ⟨some 80, .pick (.t 77) (.t 79) (.c (.bool false)), none⟩])
    (.cond (.t 80) (.seq (.reg [⟨some 81, .mov (.t 7), none⟩,
      ⟨some 82, .mov (.t 7), none⟩,
      ⟨some 83, .sln (.t 82), none⟩,
      ⟨some 84, .bin .sub (.t 83) (.c (.int .i64 1)), none⟩,
      ⟨some 85, .ssl (.t 81) (some (.c (.int .i64 1))) (some (.t 84)), none⟩,
      ⟨some 86, .fla 0 (.t 6), none⟩,
      ⟨none, .st 1 (.t 86) (.t 85), none⟩])
    (.seq (.reg [⟨some 88, .fla 0 (.t 6), none⟩,
      ⟨some 89, .ld 1 false (.t 88), none⟩,
      ⟨some 90, .call 83 [.t 89, .c (.str [44, 32])], none⟩,
      ⟨some 87, .mov (.t 90), none⟩,
      ⟨some 91, .ext 0 (.t 87), none⟩,
      ⟨some 92, .ext 1 (.t 87), none⟩,
      ⟨some 93, .ext 2 (.t 87), none⟩,
      ⟨some 8, .mov (.t 91), none⟩,
      ⟨some 9, .mov (.t 92), none⟩,
      ⟨some 10, .mov (.t 93), none⟩])
    (.seq (.reg [⟨some 94, .mov (.t 10), none⟩])
    (.cond (.t 94) (.seq (.seq (.reg [⟨some 95, .mov (.t 8), none⟩,
      ⟨some 96, .bin .eql (.t 95) (.c (.str [])), none⟩,
      ⟨some 97, .mov (.t 96), none⟩,
      ⟨some 98, .mov (.t 9), (some (97, false))⟩,
      ⟨some 99, .bin .eql (.t 98) (.c (.str [])), (some (97, false))⟩,
      ⟨some 100, .pick (.t 97) (.c (.bool true)) (.t 99), none⟩])
    (.cond (.t 100) (.seq (.reg [⟨some 101, .bld [.str [], .str []] [], none⟩,
      ⟨none, .st 2 (.t 2) (.t 101), none⟩,
      ⟨some 3, .mov (.c (.int .i64 9)), none⟩])
    .ret) .skip))
    (.reg [⟨some 102, .mov (.t 9), none⟩,
      ⟨some 103, .bin .add (.t 102) (.c (.str [32])), none⟩,
      ⟨some 104, .mov (.t 8), none⟩,
      ⟨some 105, .bin .add (.t 103) (.t 104), none⟩,
      ⟨some 106, .fla 0 (.t 6), none⟩,
      ⟨none, .st 1 (.t 106) (.t 105), none⟩])) .skip)))) .skip))
    (.cut (.seq (.seq (.reg [⟨some 107, .fla 0 (.t 6), none⟩,
      ⟨some 108, .ld 1 false (.t 107), none⟩,
      ⟨some 109, .call 99 [.t 108], none⟩,
      ⟨some 110, .not (.t 109), none⟩,
      ⟨some 111, .mov (.t 110), none⟩,
      ⟨some 112, .fla 0 (.t 6), (some (111, false))⟩,
      ⟨some 113, .ld 1 false (.t 112), (some (111, false))⟩,
      ⟨some 114, .bin .eql (.t 113) (.c (.str [])), (some (111, false))⟩,
      ⟨some 115, .pick (.t 111) (.c (.bool true)) (.t 114), none⟩])
    (.cond (.t 115) (.seq (.reg [⟨some 116, .bld [.str [], .str []] [], none⟩,
      ⟨none, .st 2 (.t 2) (.t 116), none⟩,
      ⟨some 3, .mov (.c (.int .i64 9)), none⟩])
    .ret) .skip))
    (.seq (.reg [⟨some 117, .ld 2 true (.t 6), none⟩,
      ⟨none, .st 2 (.t 2) (.t 117), none⟩,
      ⟨some 3, .mov (.c (.int .i64 0)), none⟩])
    .ret))))))))))))))
def rs_chaseref1_addressIn : List IRes := [.c 2 2 true, .t 3]
theorem ck_chaseref1_addressIn : chkF Tryz.prog Tryz.f89 ir_chaseref1_addressIn rs_chaseref1_addressIn 118 = true := by kernel_rfl
/- paperchase/chaseref1.AddressOf -/
def ir_chaseref1_AddressOf : IC :=
  (.seq (.reg [⟨some 2, .alc 49 [.str [], .str []], none⟩,
      ⟨some 3, .mov (.c (.int .i64 0)), none⟩])
    (.seq (.seq (.reg [⟨some 4, .mov (.t 0), none⟩,
      ⟨some 5, .sln (.t 4), none⟩,
      ⟨some 6, .bin .gtr (.t 5) (.c (.int .i64 500)), none⟩])
    (.cond (.t 6) (.seq (.reg [⟨some 7, .bld [.str [], .str []] [], none⟩,
      ⟨none, .st 2 (.t 2) (.t 7), none⟩,
      ⟨some 3, .mov (.c (.int .i64 2)), none⟩])
    .ret) .skip))
    (.seq (.reg [⟨some 8, .mov (.t 0), none⟩,
      ⟨some 9, .call 89 [.t 8], none⟩,
      ⟨some 10, .ext 0 (.t 9), none⟩,
      ⟨some 11, .ext 1 (.t 9), none⟩,
      ⟨none, .st 2 (.t 2) (.t 10), none⟩,
      ⟨some 3, .mov (.t 11), none⟩])
    .ret)))
def rs_chaseref1_AddressOf : List IRes := [.c 2 2 true, .t 3]
theorem ck_chaseref1_AddressOf : chkF Tryz.prog Tryz.f22 ir_chaseref1_AddressOf rs_chaseref1_AddressOf 12 = true := by kernel_rfl
/- paperchase/chaseref1.AddressText -/
def ir_chaseref1_AddressText : IC :=
  (.seq (.reg [⟨some 1, .box 49 (.t 0), none⟩,
      ⟨some 2, .mov (.c (.str [])), none⟩])
    (.seq (.seq (.reg [⟨some 3, .fla 0 (.t 1), none⟩,
      ⟨some 4, .ld 1 false (.t 3), none⟩,
      ⟨some 5, .bin .eql (.t 4) (.c (.str [])), none⟩])
    (.cond (.t 5) (.seq (.reg [⟨some 6, .fla 1 (.t 1), none⟩,
      ⟨some 7, .ld 1 false (.t 6), none⟩,
      ⟨some 2, .mov (.t 7), none⟩])
    .ret) .skip))
    (.seq (.reg [⟨some 8, .fla 0 (.t 1), none⟩,
      ⟨some 9, .ld 1 false (.t 8), none⟩,
      ⟨some 10, .bin .add (.t 9) (.c (.str [32, 60])), none⟩,
      ⟨some 11, .fla 1 (.t 1), none⟩,
      ⟨some 12, .ld 1 false (.t 11), none⟩,
      ⟨some 13, .bin .add (.t 10) (.t 12), none⟩,
      ⟨some 14, .bin .add (.t 13) (.c (.str [62])), none⟩,
      ⟨some 2, .mov (.t 14), none⟩])
    .ret)))
def rs_chaseref1_AddressText : List IRes := [.t 2]
theorem ck_chaseref1_AddressText : chkF Tryz.prog Tryz.f31 ir_chaseref1_AddressText rs_chaseref1_AddressText 15 = true := by kernel_rfl

abbrev tAddr : Nat := 49
theorem LastIndex_ok {E : Envt} (s : List UInt8) (c : UInt8) (hs : s.length ≤ 1000000000) : PCall Tryz.prog E 121 [.str s, .str [c]] (· = int (liF s c)) :=
  pcall_flat rfl rfl fun w _ => (Any.strings_LastIndex_one Tryz.layLastIndex ⟨s.toArray⟩ ⟨#[c]⟩ rfl (by rw [ba_size]; omega) w).mono fun e w' h => ⟨h.1, by rw [h.2]; exact Grow.refl _ _⟩
/-- What the program's reading leaves, right or not. -/
def adQ (s : List UInt8) : List UInt8 × List UInt8 × Bool :=
  if (cutF s [60]).2.2 = false then ([], lowF s, mailF (lowF s))
  else if (cutF s [60]).1 = [] then ([], lowF (cutSufF (cutF s [60]).2.1 [62]).1, (cutSufF (cutF s [60]).2.1 [62]).2 && mailF (lowF (cutSufF (cutF s [60]).2.1 [62]).1))
  else match nmF (cutF s [60]).1 with
    | none => ([], lowF (cutSufF (cutF s [60]).2.1 [62]).1, false)
    | some n => (n, lowF (cutSufF (cutF s [60]).2.1 [62]).1, ((cutSufF (cutF s [60]).2.1 [62]).2 && !decide (n = [])) && (nameB n && mailF (lowF (cutSufF (cutF s [60]).2.1 [62]).1)))
theorem adQ_P (s : List UInt8) : adP s = if (adQ s).2.2 = true then some ((adQ s).1, (adQ s).2.1) else none := by
  rw [adP, adQ]
  split
  · rfl
  · split
    · simp only [Bool.and_eq_true]
    · cases hn : nmF (cutF s [60]).1 with
      | none => simp
      | some n => simp only [Bool.and_eq_true, Bool.not_eq_true', decide_eq_false_iff_not, ne_eq]
theorem trimR_len (s : List UInt8) (cs : List UInt8) : (Lib.trimRightS s cs).length ≤ s.length := by
  unfold Lib.trimRightS
  have := (List.dropWhile_suffix (l := s.reverse) (fun x => cs.contains x)).length_le
  simpa using this
theorem trimS_len (s : List UInt8) (cs : List UInt8) : (Lib.trimS s cs).length ≤ s.length := by
  unfold Lib.trimS Lib.trimLeftS
  exact Nat.le_trans (List.dropWhile_suffix _).length_le (trimR_len s cs)
theorem cutSuf_le (s p : List UInt8) : (cutSufF s p).1.length ≤ s.length := by
  rw [cutSufF]; split
  · simp
  · simp
theorem low_len (s : List UInt8) : (lowF s).length = s.length := by simp [lowF]
theorem nmF_len {f n : List UInt8} (h : nmF f = some n) : n.length ≤ 2 * f.length + 1 := by
  have h1 := trimR_len f [32]
  rw [nmF] at h
  split at h
  · cases h
  · split at h
    · split at h
      · cases h
        have h2 := cutSuf_le ((Lib.trimRightS f [32]).drop 1) [34]
        rw [List.length_drop] at h2
        have h3 := cutF_len (cutSufF ((Lib.trimRightS f [32]).drop 1) [34]).1 [44, 32]
        split
        · simp only [List.length_append, List.length_cons, List.length_nil]; omega
        · omega
      · cases h
    · cases h; omega
theorem adQ_len (s : List UInt8) : (adQ s).1.length ≤ 2 * s.length + 1 ∧ (adQ s).2.1.length ≤ s.length := by
  have h1 := cutF_len s [60]
  have h2 := cutSuf_le (cutF s [60]).2.1 [62]
  rw [adQ]
  split
  · exact ⟨by simp, by rw [low_len]; exact Nat.le_refl _⟩
  · split
    · exact ⟨by simp, by simp only [low_len]; omega⟩
    · split
      · exact ⟨by simp, by simp only [low_len]; omega⟩
      · rename_i n hn
        have := nmF_len hn
        exact ⟨by simp only; omega, by simp only [low_len]; omega⟩
theorem address_ok (t : List UInt8) (hs : t.length ≤ 900000) : PCall Tryz.prog E0 88 [.str t] (· = .tup [.agg [.str (adQ (Lib.trimS t [32])).1, .str (adQ (Lib.trimS t [32])).2.1], .bool (adQ (Lib.trimS t [32])).2.2]) := by
  refine pcallF mixed Tryz.func88 ck_thread_address ?_
  simp only [a0, l0, OS.ao, List.map_cons, List.map_nil, List.length_cons, List.length_nil, List.cons_append, List.nil_append, Nat.reduceSub, Nat.reduceAdd, List.replicate_succ, List.replicate_zero, ir_thread_address, rs_thread_address, ZZ, YY, Zd, ite_true, ite_false, forall_const, reduceCtorEq, Nat.reduceAdd, Nat.reduceMul, Nat.reduceLeDiff, Nat.reduceLT, Nat.reduceEqDiff]
  refine use1 (TrimSet_ok t [32] (by omega) (by decide) (by decide)) rfl (.inl rfl) ?_
  have htl := trimS_len t [32]
  generalize Lib.trimS t [32] = s at *
  have hQ : adQ s = if (cutF s [60]).2.2 = false then ([], lowF s, mailF (lowF s))
    else if (cutF s [60]).1 = [] then ([], lowF (cutSufF (cutF s [60]).2.1 [62]).1, (cutSufF (cutF s [60]).2.1 [62]).2 && mailF (lowF (cutSufF (cutF s [60]).2.1 [62]).1))
    else match nmF (cutF s [60]).1 with
      | none => ([], lowF (cutSufF (cutF s [60]).2.1 [62]).1, false)
      | some n => (n, lowF (cutSufF (cutF s [60]).2.1 [62]).1, ((cutSufF (cutF s [60]).2.1 [62]).2 && !decide (n = [])) && (nameB n && mailF (lowF (cutSufF (cutF s [60]).2.1 [62]).1))) := rfl
  simp only [ZZ, YY, Zd, ite_true, ite_false, forall_const, reduceCtorEq, Nat.reduceAdd, Nat.reduceMul, Nat.reduceLeDiff, Nat.reduceLT, Nat.reduceEqDiff]
  refine use1 (Cut_ok s [60] (by omega)) rfl (.inl rfl) ?_
  have hcl := cutF_len s [60]
  generalize cutF s [60] = c at *
  obtain ⟨f, r, is⟩ := c
  simp only at hQ hcl
  simp only [ZZ, YY, Zd, ite_true, ite_false, forall_const, reduceCtorEq, Nat.reduceAdd, Nat.reduceMul, Nat.reduceLeDiff, Nat.reduceLT, Nat.reduceEqDiff]
  refine br ?_ ?_
  · intro h
    have h : is = false := by simpa using h
    rw [if_pos h] at hQ
    rw [hQ]
    simp only [ZZ, YY, Zd, ite_true, ite_false, forall_const, reduceCtorEq, Nat.reduceAdd, Nat.reduceMul, Nat.reduceLeDiff, Nat.reduceLT, Nat.reduceEqDiff]
    refine use1 (Lower_ok s (by omega)) rfl (.inl rfl) ?_
    simp only [ZZ, YY, Zd, ite_true, ite_false, forall_const, reduceCtorEq, Nat.reduceAdd, Nat.reduceMul, Nat.reduceLeDiff, Nat.reduceLT, Nat.reduceEqDiff]
    refine drg1 (x1 := .bool (nameB [] && mailF (lowF s))) ?_
    simp only [ZZ, YY, Zd, ite_true, ite_false, forall_const, reduceCtorEq, Nat.reduceAdd, Nat.reduceMul, Nat.reduceLeDiff, Nat.reduceLT, Nat.reduceEqDiff]
    rw [name_nil]
    simp only [ZZ, YY, Zd, ite_true, ite_false, forall_const, reduceCtorEq, Nat.reduceAdd, Nat.reduceMul, Nat.reduceLeDiff, Nat.reduceLT, Nat.reduceEqDiff]
    ((repeat' (with_reducible apply And.intro)) <;> try (first | exact usep (right_ok [] (lowF s) (by simp) (by rw [low_len]; omega)) rfl (.inl rfl) | (first | first | assumption | trivial | exact (fun hq => by rw [hq]; rfl) | exact i64_of (by omega) (by omega) | omega | (simp; done) | (simp; omega) | (intro hsc; have hs0 := hsc; (try have hsd := of_decide_eq_true hsc); (try simp only [Bool.not_eq_true', Bool.or_eq_false_iff, Bool.and_eq_true, Bool.or_eq_true, decide_eq_true_eq, decide_eq_false_iff_not] at hsc); (repeat' (with_reducible apply And.intro)) <;> (first | assumption | trivial | exact (fun hq => by rw [hq]; rfl) | exact i64_of (by omega) (by omega) | omega | (simp; done) | (simp; omega) | (intro hse; simp [hse, hs0]; done) | (intro hse; simp only [hse, hs0, Bool.true_and, Bool.and_true, Bool.not_false, Bool.not_true, Bool.and_self]; done))))))
  intro h
  have h : ¬ is = false := by simpa using h
  rw [if_neg h] at hQ
  simp only [ZZ, YY, Zd, ite_true, ite_false, forall_const, reduceCtorEq, Nat.reduceAdd, Nat.reduceMul, Nat.reduceLeDiff, Nat.reduceLT, Nat.reduceEqDiff]
  refine use1 (CutSuffix_ok r [62] (by omega) (by decide)) rfl (.inl rfl) ?_
  have hel := cutSuf_le r [62]
  generalize cutSufF r [62] = e at *
  obtain ⟨m, en⟩ := e
  simp only at hQ hel
  simp only [ZZ, YY, Zd, ite_true, ite_false, forall_const, reduceCtorEq, Nat.reduceAdd, Nat.reduceMul, Nat.reduceLeDiff, Nat.reduceLT, Nat.reduceEqDiff]
  refine use1 (Lower_ok m (by omega)) rfl (.inl rfl) ?_
  have hml : (lowF m).length ≤ 900000 := by rw [low_len]; omega
  generalize lowF m = lm at *
  simp only [ZZ, YY, Zd, ite_true, ite_false, forall_const, reduceCtorEq, Nat.reduceAdd, Nat.reduceMul, Nat.reduceLeDiff, Nat.reduceLT, Nat.reduceEqDiff]
  refine br ?_ ?_
  · intro h
    have h : f = [] := of_decide_eq_true h
    rw [if_pos h] at hQ
    rw [hQ]
    simp only [ZZ, YY, Zd, ite_true, ite_false, forall_const, reduceCtorEq, Nat.reduceAdd, Nat.reduceMul, Nat.reduceLeDiff, Nat.reduceLT, Nat.reduceEqDiff]
    refine drg1 (x1 := .bool (nameB [] && mailF lm)) ?_
    simp only [ZZ, YY, Zd, ite_true, ite_false, forall_const, reduceCtorEq, Nat.reduceAdd, Nat.reduceMul, Nat.reduceLeDiff, Nat.reduceLT, Nat.reduceEqDiff]
    rw [name_nil]
    simp only [ZZ, YY, Zd, ite_true, ite_false, forall_const, reduceCtorEq, Nat.reduceAdd, Nat.reduceMul, Nat.reduceLeDiff, Nat.reduceLT, Nat.reduceEqDiff]
    ((repeat' (with_reducible apply And.intro)) <;> try (first | exact fun h => ⟨h, usep (right_ok [] lm (by simp) (by omega)) rfl (.inl rfl)⟩ | (first | first | assumption | trivial | exact (fun hq => by rw [hq]; rfl) | exact i64_of (by omega) (by omega) | omega | (simp; done) | (simp; omega) | (intro hsc; have hs0 := hsc; (try have hsd := of_decide_eq_true hsc); (try simp only [Bool.not_eq_true', Bool.or_eq_false_iff, Bool.and_eq_true, Bool.or_eq_true, decide_eq_true_eq, decide_eq_false_iff_not] at hsc); (repeat' (with_reducible apply And.intro)) <;> (first | assumption | trivial | exact (fun hq => by rw [hq]; rfl) | exact i64_of (by omega) (by omega) | omega | (simp; done) | (simp; omega) | (intro hse; simp [hse, hs0]; done) | (intro hse; simp only [hse, hs0, Bool.true_and, Bool.and_true, Bool.not_false, Bool.not_true, Bool.and_self]; done))))))
  intro h
  have h : ¬ f = [] := of_decide_eq_false h
  rw [if_neg h] at hQ
  simp only [ZZ, YY, Zd, ite_true, ite_false, forall_const, reduceCtorEq, Nat.reduceAdd, Nat.reduceMul, Nat.reduceLeDiff, Nat.reduceLT, Nat.reduceEqDiff]
  refine use1 (TrimRightSet_ok f [32] (by omega) (by decide) (by decide)) rfl (.inl rfl) ?_
  have hnl := trimR_len f [32]
  have hN : nmF f = if Lib.trimRightS f [32] = f then none else if Lib.hasPrefix (Lib.trimRightS f [32]) [34] = true then
      (if sufE ((Lib.trimRightS f [32]).drop 1) [34] = true then
        some (if (cutF (cutSufF ((Lib.trimRightS f [32]).drop 1) [34]).1 [44, 32]).2.2 = true ∧ (cutF (cutSufF ((Lib.trimRightS f [32]).drop 1) [34]).1 [44, 32]).1 ≠ [] ∧ (cutF (cutSufF ((Lib.trimRightS f [32]).drop 1) [34]).1 [44, 32]).2.1 ≠ []
          then (cutF (cutSufF ((Lib.trimRightS f [32]).drop 1) [34]).1 [44, 32]).2.1 ++ [32] ++ (cutF (cutSufF ((Lib.trimRightS f [32]).drop 1) [34]).1 [44, 32]).1
          else (cutSufF ((Lib.trimRightS f [32]).drop 1) [34]).1)
      else none)
    else some (Lib.trimRightS f [32]) := rfl
  generalize Lib.trimRightS f [32] = n at *
  simp only [ZZ, YY, Zd, ite_true, ite_false, forall_const, reduceCtorEq, Nat.reduceAdd, Nat.reduceMul, Nat.reduceLeDiff, Nat.reduceLT, Nat.reduceEqDiff]
  refine br ?_ ?_
  · intro h
    have h : n = f := of_decide_eq_true h
    rw [if_pos h] at hN
    rw [hN] at hQ
    rw [hQ]
    simp only [ZZ, YY, Zd, ite_true, ite_false, forall_const, reduceCtorEq, Nat.reduceAdd, Nat.reduceMul, Nat.reduceLeDiff, Nat.reduceLT, Nat.reduceEqDiff]
  intro h
  have h : ¬ n = f := of_decide_eq_false h
  rw [if_neg h] at hN
  simp only [ZZ, YY, Zd, ite_true, ite_false, forall_const, reduceCtorEq, Nat.reduceAdd, Nat.reduceMul, Nat.reduceLeDiff, Nat.reduceLT, Nat.reduceEqDiff]
  refine use1 (CutPrefix_ok n [34] (by omega) (by decide)) rfl (.inl rfl) ?_
  simp only [ZZ, YY, Zd, ite_true, ite_false, forall_const, reduceCtorEq, Nat.reduceAdd, Nat.reduceMul, Nat.reduceLeDiff, Nat.reduceLT, Nat.reduceEqDiff]
  refine br_join (fun fr L => ∃ z, nmF f = some z ∧ z.length ≤ 2 * f.length + 1 ∧ fr = [.any, .any, .adr (.l 2) 0, .any, .any, .any, .any, .any, .any, .p (.bool en), .adr (.l 10) 0, .p (.str z), .any, .any, .any, .any, .any, .any, .any, .any, .any, .any, .any, .any, .any, .any, .any, .any, .any, .any, .any, .any, .any, .any, .any, .any, .any, .any, .any, .any, .any, .any, .any, .any, .any, .any, .any, .any, .any, .any, .any, .any, .any, .any, .any, .any, .any, .any, .any, .any, .any, .any, .any, .any, .any, .any, .any, .any, .any, .any, .any, .any, .any, .any, .any, .any, .any, .any, .any, .any, .any, .any, .any, .any, .any, .any, .any, .any, .any, .any, .any, .any, .any, .any, .any, .any, .any, .any, .any, .any, .any, .any, .any] ∧ L = [(.l 10, .box [.p (.str []), .p (.str lm)] tAddr), (.l 2, .box [.p (.str []), .p (.str [])] tAddr)]) ?_ ?_ ?_
  · intro hp
    have hp : Lib.hasPrefix n [34] = true := by
      by_cases h : Lib.hasPrefix n [34] = true
      · exact h
      · rw [cutPreF, if_neg h] at hp; cases hp
    rw [if_pos hp] at hN
    have hpv : cutPreF n [34] = (n.drop 1, true) := by rw [cutPreF, if_pos hp]; rfl
    rw [hpv]
    have hql : (n.drop 1).length ≤ n.length := by simp
    generalize n.drop 1 = q at *
    simp only [ZZ, YY, Zd, ite_true, ite_false, forall_const, reduceCtorEq, Nat.reduceAdd, Nat.reduceMul, Nat.reduceLeDiff, Nat.reduceLT, Nat.reduceEqDiff]
    refine use1 (CutSuffix_ok q [34] (by omega) (by decide)) rfl (.inl rfl) ?_
    have hil := cutSuf_le q [34]
    simp only [ZZ, YY, Zd, ite_true, ite_false, forall_const, reduceCtorEq, Nat.reduceAdd, Nat.reduceMul, Nat.reduceLeDiff, Nat.reduceLT, Nat.reduceEqDiff]
    refine br ?_ ?_
    · intro hq
      have hq : ¬ sufE q [34] = true := by
        intro h; rw [cutSufF, if_pos h] at hq; cases hq
      rw [if_neg hq] at hN
      rw [hN] at hQ
      rw [hQ]
      simp only [ZZ, YY, Zd, ite_true, ite_false, forall_const, reduceCtorEq, Nat.reduceAdd, Nat.reduceMul, Nat.reduceLeDiff, Nat.reduceLT, Nat.reduceEqDiff]
    intro hq
    have hq : sufE q [34] = true := by
      by_cases h : sufE q [34] = true
      · exact h
      · rw [cutSufF, if_neg h] at hq; cases hq
    rw [if_pos hq] at hN
    generalize (cutSufF q [34]).1 = i at *
    simp only [ZZ, YY, Zd, ite_true, ite_false, forall_const, reduceCtorEq, Nat.reduceAdd, Nat.reduceMul, Nat.reduceLeDiff, Nat.reduceLT, Nat.reduceEqDiff]
    refine use1 (Cut_ok i [44, 32] (by omega)) rfl (.inl rfl) ?_
    have hcl2 := cutF_len i [44, 32]
    generalize cutF i [44, 32] = d at *
    obtain ⟨x, y, two⟩ := d
    simp only at hN hcl2
    simp only [ZZ, YY, Zd, ite_true, ite_false, forall_const, reduceCtorEq, Nat.reduceAdd, Nat.reduceMul, Nat.reduceLeDiff, Nat.reduceLT, Nat.reduceEqDiff]
    refine br ?_ ?_
    · intro hx
      have hx : two = true ∧ x ≠ [] ∧ y ≠ [] := by
        simp only [Bool.and_eq_true, Bool.not_eq_true', decide_eq_false_iff_not] at hx
        exact ⟨hx.1.1, hx.1.2, hx.2⟩
      rw [if_pos hx] at hN
      simp only [ZZ, YY, Zd, ite_true, ite_false, forall_const, reduceCtorEq, Nat.reduceAdd, Nat.reduceMul, Nat.reduceLeDiff, Nat.reduceLT, Nat.reduceEqDiff]
      refine ⟨by simp; omega, by simp; omega, ?_⟩
      exact to_mid _ _ (by (simp only [ZZ, YY, Zd, ite_true, ite_false, forall_const, reduceCtorEq, Nat.reduceAdd, Nat.reduceMul, Nat.reduceLeDiff, Nat.reduceLT, Nat.reduceEqDiff]; try trivial)) (by simp only [ZZ, YY, Zd, ite_true, ite_false, forall_const, reduceCtorEq, Nat.reduceAdd, Nat.reduceMul, Nat.reduceLeDiff, Nat.reduceLT, Nat.reduceEqDiff]) ⟨_, hN, by simp only [List.length_append, List.length_cons, List.length_nil]; omega, rfl, rfl⟩
    · intro hx
      have hx : ¬ (two = true ∧ x ≠ [] ∧ y ≠ []) := by
        rintro ⟨h1, h2, h3⟩
        simp [h1, h2, h3] at hx
      rw [if_neg hx] at hN
      simp only [ZZ, YY, Zd, ite_true, ite_false, forall_const, reduceCtorEq, Nat.reduceAdd, Nat.reduceMul, Nat.reduceLeDiff, Nat.reduceLT, Nat.reduceEqDiff]
      exact to_mid _ _ (by (simp only [ZZ, YY, Zd, ite_true, ite_false, forall_const, reduceCtorEq, Nat.reduceAdd, Nat.reduceMul, Nat.reduceLeDiff, Nat.reduceLT, Nat.reduceEqDiff]; try trivial)) (by simp only [ZZ, YY, Zd, ite_true, ite_false, forall_const, reduceCtorEq, Nat.reduceAdd, Nat.reduceMul, Nat.reduceLeDiff, Nat.reduceLT, Nat.reduceEqDiff]) ⟨_, hN, by omega, rfl, rfl⟩
  · intro hp
    have hp : ¬ Lib.hasPrefix n [34] = true := by
      intro h; rw [cutPreF, if_pos h] at hp; cases hp
    rw [if_neg hp] at hN
    simp only [ZZ, YY, Zd, ite_true, ite_false, forall_const, reduceCtorEq, Nat.reduceAdd, Nat.reduceMul, Nat.reduceLeDiff, Nat.reduceLT, Nat.reduceEqDiff]
    exact to_mid _ _ (by (simp only [ZZ, YY, Zd, ite_true, ite_false, forall_const, reduceCtorEq, Nat.reduceAdd, Nat.reduceMul, Nat.reduceLeDiff, Nat.reduceLT, Nat.reduceEqDiff]; try trivial)) (by simp only [ZZ, YY, Zd, ite_true, ite_false, forall_const, reduceCtorEq, Nat.reduceAdd, Nat.reduceMul, Nat.reduceLeDiff, Nat.reduceLT, Nat.reduceEqDiff]) ⟨_, hN, by omega, rfl, rfl⟩
  rintro fr L ⟨z, hz, hzl, rfl, rfl⟩
  rw [hz] at hQ
  simp only at hQ
  rw [hQ]
  simp only [ZZ, YY, Zd, ite_true, ite_false, forall_const, reduceCtorEq, Nat.reduceAdd, Nat.reduceMul, Nat.reduceLeDiff, Nat.reduceLT, Nat.reduceEqDiff]
  refine drg1 (x1 := .bool (nameB z && mailF lm)) ?_
  simp only [ZZ, YY, Zd, ite_true, ite_false, forall_const, reduceCtorEq, Nat.reduceAdd, Nat.reduceMul, Nat.reduceLeDiff, Nat.reduceLT, Nat.reduceEqDiff]
  ((repeat' (with_reducible apply And.intro)) <;> try (first | exact fun h => ⟨h, usep (right_ok z lm (by omega) (by omega)) rfl (.inl rfl)⟩ | (first | first | assumption | trivial | exact (fun hq => by rw [hq]; rfl) | exact i64_of (by omega) (by omega) | omega | (simp; done) | (simp; omega) | (intro hsc; have hs0 := hsc; (try have hsd := of_decide_eq_true hsc); (try simp only [Bool.not_eq_true', Bool.or_eq_false_iff, Bool.and_eq_true, Bool.or_eq_true, decide_eq_true_eq, decide_eq_false_iff_not] at hsc); (repeat' (with_reducible apply And.intro)) <;> (first | assumption | trivial | exact (fun hq => by rw [hq]; rfl) | exact i64_of (by omega) (by omega) | omega | (simp; done) | (simp; omega) | (intro hse; simp [hse, hs0]; done) | (intro hse; simp only [hse, hs0, Bool.true_and, Bool.and_true, Bool.not_false, Bool.not_true, Bool.and_self]; done))))))
end Go.Proofs.YtndjmidmfmcbkaaGreatDoor

/- Addresses: the reference's reading; both sides' errors; how they are written. -/
namespace Go.Proofs.YtndjmidmfmcbkaaGreatDoor
open Go.RowKit
set_option linter.unusedVariables false
set_option linter.unusedSimpArgs false
set_option linter.defProp false

theorem trimR_pre (s : List UInt8) (cs : List UInt8) : Lib.trimRightS s cs <+: s := by
  unfold Lib.trimRightS
  have := List.reverse_prefix.2 (List.dropWhile_suffix (l := s.reverse) (fun x => cs.contains x))
  rwa [List.reverse_reverse] at this
theorem trim_id (s : List UInt8) : decide (Lib.trimS s [32] = s) = (!Lib.hasPrefix s [32] && !sufE s [32]) := by
  by_cases h1 : Lib.hasPrefix s [32] = true
  · obtain ⟨t, rfl⟩ := (hp1 _ _).1 h1
    rw [h1, decide_eq_false]
    · rfl
    · intro h
      have hl := congrArg List.length h
      have hp := trimR_pre (32 :: t) [32]
      unfold Lib.trimS Lib.trimLeftS at hl
      cases hu : Lib.trimRightS (32 :: t) [32] with
      | nil => rw [hu] at hl; simp at hl
      | cons y u =>
        rw [hu] at hl hp
        have hy : y = 32 := by obtain ⟨r, hr⟩ := hp; simp at hr; exact hr.1
        subst hy
        have h2 := hp.length_le
        have h3 := (List.dropWhile_suffix (l := u) (fun x => [(32 : UInt8)].contains x)).length_le
        simp [List.dropWhile_cons] at hl h2 h3
        omega
  · have h1' : Lib.hasPrefix s [32] = false := Bool.eq_false_iff.2 h1
    rw [h1']
    by_cases h2 : sufE s [32] = true
    · rw [h2, decide_eq_false]
      · rfl
      · intro h
        obtain ⟨t, rfl⟩ := (suf1 _ _).1 h2
        have hl := congrArg List.length h
        have h3 := trimS_len t [32]
        have e : Lib.trimS (t ++ [32]) [32] = Lib.trimS t [32] := by
          unfold Lib.trimS Lib.trimRightS
          simp [List.dropWhile_cons]
        rw [e] at hl
        simp at hl
        omega
    · have h2' : sufE s [32] = false := Bool.eq_false_iff.2 h2
      rw [h2', decide_eq_true]
      · rfl
      · have hr : Lib.trimRightS s [32] = s := by
          unfold Lib.trimRightS
          cases hs : s.reverse with
          | nil => simp at hs; subst hs; rfl
          | cons y r =>
            have hy : y ≠ 32 := by
              rintro rfl
              apply h2
              refine (suf1 _ _).2 ⟨r.reverse, ?_⟩
              have := congrArg List.reverse hs
              simpa using this
            rw [List.dropWhile_cons, if_neg (by simp [hy]), ← hs, List.reverse_reverse]
        unfold Lib.trimS
        rw [hr]
        unfold Lib.trimLeftS
        cases s with
        | nil => rfl
        | cons y r =>
          have hy : y ≠ 32 := by
            rintro rfl
            exact h1 ((hp1 _ _).2 ⟨r, rfl⟩)
          rw [List.dropWhile_cons, if_neg (by simp [hy])]
/- paperchase/chaseref1.PlainOf -/
def ir_chaseref1_PlainOf : IC :=
  (.seq (.reg [⟨some 2, .mov (.c (.bool false)), none⟩])
    (.seq (.reg [⟨some 3, .mov (.t 0), none⟩,
      ⟨some 4, .call 185 [.t 3, .c (.bool false)], none⟩,
      ⟨some 5, .mov (.t 4), none⟩,
      ⟨some 6, .mov (.t 0), (some (5, true))⟩,
      ⟨some 7, .call 94 [.t 6, .c (.str [32])], (some (5, true))⟩,
      ⟨some 8, .mov (.t 0), (some (5, true))⟩,
      ⟨some 9, .bin .eql (.t 7) (.t 8), (some (5, true))⟩,
      ⟨some 10, .pick (.t 5) (.t 9) (.c (.bool false)), none⟩,
      ⟨some 11, .mov (.t 10), none⟩,
      ⟨some 12, .mov (.t 0), (some (11, true))⟩,
      ⟨some 13, .call 243 [.t 12, .c (.str [32, 32])], (some (11, true))⟩,
      ⟨some 14, .not (.t 13), (some (11, true))⟩,
      ⟨some 15, .pick (.t 11) (.t 14) (.c (.bool false)), none⟩,
      ⟨some 2, .mov (.t 15), none⟩])
    .ret))
def rs_chaseref1_PlainOf : List IRes := [.t 2]
theorem ck_chaseref1_PlainOf : chkF Tryz.prog Tryz.f177 ir_chaseref1_PlainOf rs_chaseref1_PlainOf 16 = true := by kernel_rfl

theorem PlainOf_ok (s : List UInt8) (hs : s.length ≤ 1000000000) : PCall Tryz.prog E0 177 [.str s] (· = .bool (plainB s)) := by
  refine pcallF mixed Tryz.func177 ck_chaseref1_PlainOf ?_
  simp only [a0, l0, OS.ao, List.map_cons, List.map_nil, List.length_cons, List.length_nil, List.cons_append, List.nil_append, Nat.reduceSub, Nat.reduceAdd, List.replicate_succ, List.replicate_zero, ir_chaseref1_PlainOf, rs_chaseref1_PlainOf, ZZ, YY, Zd, ite_true, ite_false, forall_const, reduceCtorEq, Nat.reduceAdd, Nat.reduceMul, Nat.reduceLeDiff, Nat.reduceLT, Nat.reduceEqDiff]
  refine use1 (wellFormed_ok s false hs) rfl (.inl rfl) ?_
  simp only [ZZ, YY, Zd, ite_true, ite_false, forall_const, reduceCtorEq, Nat.reduceAdd, Nat.reduceMul, Nat.reduceLeDiff, Nat.reduceLT, Nat.reduceEqDiff]
  refine useG (fun _ => TrimSet_ok s [32] hs (by decide) (by decide)) rfl (.inl rfl) ?_
  simp only [ZZ, YY, Zd, ite_true, ite_false, forall_const, reduceCtorEq, Nat.reduceAdd, Nat.reduceMul, Nat.reduceLeDiff, Nat.reduceLT, Nat.reduceEqDiff]
  refine useG (fun _ => Contains_ok s [32, 32] hs) rfl (.inl rfl) ?_
  simp only [ZZ, YY, Zd, ite_true, ite_false, forall_const, reduceCtorEq, Nat.reduceAdd, Nat.reduceMul, Nat.reduceLeDiff, Nat.reduceLT, Nat.reduceEqDiff]
  rw [plainB, trim_id]
  cases visE s false <;> cases Lib.hasPrefix s [32] <;> cases sufE s [32] <;> rfl
theorem nameOf_ok (s : List UInt8) (hs : s.length ≤ 1000000000) : PCall Tryz.prog E0 99 [.str s] (· = .bool (nameB s)) := by
  refine pcallF mixed Tryz.func99 ck_chaseref1_nameOf ?_
  simp only [a0, l0, OS.ao, List.map_cons, List.map_nil, List.length_cons, List.length_nil, List.cons_append, List.nil_append, Nat.reduceSub, Nat.reduceAdd, List.replicate_succ, List.replicate_zero, ir_chaseref1_nameOf, rs_chaseref1_nameOf, ZZ, YY, Zd, ite_true, ite_false, forall_const, reduceCtorEq, Nat.reduceAdd, Nat.reduceMul, Nat.reduceLeDiff, Nat.reduceLT, Nat.reduceEqDiff]
  refine useG (fun _ => PlainOf_ok s (by omega)) rfl (.inl rfl) ?_
  simp only [ZZ, YY, Zd, ite_true, ite_false, forall_const, reduceCtorEq, Nat.reduceAdd, Nat.reduceMul, Nat.reduceLeDiff, Nat.reduceLT, Nat.reduceEqDiff]
  refine useG (fun _ => ContainsAny_ok s nameS hs (by decide) (by decide)) rfl (.inl rfl) ?_
  simp only [ZZ, YY, Zd, ite_true, ite_false, forall_const, reduceCtorEq, Nat.reduceAdd, Nat.reduceMul, Nat.reduceLeDiff, Nat.reduceLT, Nat.reduceEqDiff]
  ((repeat' (with_reducible apply And.intro)) <;> try ((first | first | assumption | trivial | exact (fun hq => by rw [hq]; rfl) | exact i64_of (by omega) (by omega) | omega | (simp; done) | (simp; omega) | (intro hsc; have hs0 := hsc; (try have hsd := of_decide_eq_true hsc); (try simp only [Bool.not_eq_true', Bool.or_eq_false_iff, Bool.and_eq_true, Bool.or_eq_true, decide_eq_true_eq, decide_eq_false_iff_not] at hsc); (repeat' (with_reducible apply And.intro)) <;> (first | assumption | trivial | exact (fun hq => by rw [hq]; rfl) | exact i64_of (by omega) (by omega) | omega | (simp; done) | (simp; omega) | (intro hse; simp [hse, hs0]; done) | (intro hse; simp only [hse, hs0, Bool.true_and, Bool.and_true, Bool.not_false, Bool.not_true, Bool.and_self]; done))))))
theorem AddressRight_ok (n m : List UInt8) (hn : n.length ≤ 1000000000) (hm : m.length ≤ 1000000000) : PCall Tryz.prog E0 29 [.agg [.str n, .str m]] (· = .bool (nameB n && mailF m)) := by
  refine pcallF mixed Tryz.func29 ck_chaseref1_AddressRight ?_
  simp only [a0, l0, OS.ao, List.map_cons, List.map_nil, List.length_cons, List.length_nil, List.cons_append, List.nil_append, Nat.reduceSub, Nat.reduceAdd, List.replicate_succ, List.replicate_zero, ir_chaseref1_AddressRight, rs_chaseref1_AddressRight, ZZ, YY, Zd, ite_true, ite_false, forall_const, reduceCtorEq, Nat.reduceAdd, Nat.reduceMul, Nat.reduceLeDiff, Nat.reduceLT, Nat.reduceEqDiff]
  refine use1 (nameOf_ok n hn) rfl (.inl rfl) ?_
  simp only [ZZ, YY, Zd, ite_true, ite_false, forall_const, reduceCtorEq, Nat.reduceAdd, Nat.reduceMul, Nat.reduceLeDiff, Nat.reduceLT, Nat.reduceEqDiff]
  refine useG (fun _ => MailOf_ok m (by omega)) rfl (.inl rfl) ?_
  simp only [ZZ, YY, Zd, ite_true, ite_false, forall_const, reduceCtorEq, Nat.reduceAdd, Nat.reduceMul, Nat.reduceLeDiff, Nat.reduceLT, Nat.reduceEqDiff]
/-- An address with its error, as both sides give it. -/
def adE (q : Option (List UInt8 × List UInt8)) : List UInt8 × List UInt8 × Int := match q with
  | none => ([], [], 9)
  | some p => (p.1, p.2, 0)
def adL (t : List UInt8) : List UInt8 × List UInt8 × Int := if 500 < (t.length : Int) then ([], [], 2) else adE (adP (Lib.trimS t [32]))
theorem adE_none : adE none = ([], [], 9) := rfl
theorem adE_some (p : List UInt8 × List UInt8) : adE (some p) = (p.1, p.2, 0) := rfl
theorem adE_len (s : List UInt8) : (adE (adP s)).1.length ≤ 2 * s.length + 1 ∧ (adE (adP s)).2.1.length ≤ s.length := by
  have := adQ_len s
  rw [adQ_P]
  split
  · exact this
  · simp [adE_none]
theorem Address_ok (t : List UInt8) (hs : t.length ≤ 900000) : PCall Tryz.prog E0 21 [.str t] (· = .tup [.agg [.str (adL t).1, .str (adL t).2.1], int (adL t).2.2]) := by
  refine pcallF mixed Tryz.func21 ck_thread_Address ?_
  simp only [a0, l0, OS.ao, List.map_cons, List.map_nil, List.length_cons, List.length_nil, List.cons_append, List.nil_append, Nat.reduceSub, Nat.reduceAdd, List.replicate_succ, List.replicate_zero, ir_thread_Address, rs_thread_Address, ZZ, YY, Zd, ite_true, ite_false, forall_const, reduceCtorEq, Nat.reduceAdd, Nat.reduceMul, Nat.reduceLeDiff, Nat.reduceLT, Nat.reduceEqDiff]
  rw [adL]
  refine br ?_ ?_
  · intro h
    rw [if_pos (of_decide_eq_true h)]
    simp only [ZZ, YY, Zd, ite_true, ite_false, forall_const, reduceCtorEq, Nat.reduceAdd, Nat.reduceMul, Nat.reduceLeDiff, Nat.reduceLT, Nat.reduceEqDiff]
  intro h
  rw [if_neg (of_decide_eq_false h), adQ_P]
  simp only [ZZ, YY, Zd, ite_true, ite_false, forall_const, reduceCtorEq, Nat.reduceAdd, Nat.reduceMul, Nat.reduceLeDiff, Nat.reduceLT, Nat.reduceEqDiff]
  refine use1 (address_ok t hs) rfl (.inl rfl) ?_
  generalize adQ (Lib.trimS t [32]) = q at *
  obtain ⟨n, m, b⟩ := q
  simp only [ZZ, YY, Zd, ite_true, ite_false, forall_const, reduceCtorEq, Nat.reduceAdd, Nat.reduceMul, Nat.reduceLeDiff, Nat.reduceLT, Nat.reduceEqDiff]
  refine br ?_ ?_
  · intro h
    have h : b = false := by simpa using h
    subst h
    rw [if_neg (by simp), adE_none]
    simp only [ZZ, YY, Zd, ite_true, ite_false, forall_const, reduceCtorEq, Nat.reduceAdd, Nat.reduceMul, Nat.reduceLeDiff, Nat.reduceLT, Nat.reduceEqDiff]
  · intro h
    have h : b = true := by simpa using h
    subst h
    rw [if_pos rfl, adE_some]
    simp only [ZZ, YY, Zd, ite_true, ite_false, forall_const, reduceCtorEq, Nat.reduceAdd, Nat.reduceMul, Nat.reduceLeDiff, Nat.reduceLT, Nat.reduceEqDiff]
/-- An address as it is written. -/
def adT (n m : List UInt8) : List UInt8 := if n = [] then m else n ++ [32, 60] ++ m ++ [62]
theorem printed_ok {E : Envt} (n m : List UInt8) (hn : n.length ≤ 1000000000) (hm : m.length ≤ 1000000000) : PCall Tryz.prog E 98 [.agg [.str n, .str m]] (· = .str (adT n m)) := by
  refine pcallF mixed Tryz.func98 ck_thread_printed ?_
  simp only [a0, l0, OS.ao, List.map_cons, List.map_nil, List.length_cons, List.length_nil, List.cons_append, List.nil_append, Nat.reduceSub, Nat.reduceAdd, List.replicate_succ, List.replicate_zero, ir_thread_printed, rs_thread_printed, ZZ, YY, Zd, ite_true, ite_false, forall_const, reduceCtorEq, Nat.reduceAdd, Nat.reduceMul, Nat.reduceLeDiff, Nat.reduceLT, Nat.reduceEqDiff]
  rw [adT]
  refine br ?_ ?_
  · intro h
    rw [if_pos (of_decide_eq_true h)]
    simp only [ZZ, YY, Zd, ite_true, ite_false, forall_const, reduceCtorEq, Nat.reduceAdd, Nat.reduceMul, Nat.reduceLeDiff, Nat.reduceLT, Nat.reduceEqDiff]
  · intro h
    rw [if_neg (of_decide_eq_false h)]
    simp only [ZZ, YY, Zd, ite_true, ite_false, forall_const, reduceCtorEq, Nat.reduceAdd, Nat.reduceMul, Nat.reduceLeDiff, Nat.reduceLT, Nat.reduceEqDiff]
    exact ⟨by simp; omega, by simp; omega, by simp; omega⟩
theorem AddressText_ok {E : Envt} (n m : List UInt8) (hn : n.length ≤ 1000000000) (hm : m.length ≤ 1000000000) : PCall Tryz.prog E 31 [.agg [.str n, .str m]] (· = .str (adT n m)) := by
  refine pcallF mixed Tryz.func31 ck_chaseref1_AddressText ?_
  simp only [a0, l0, OS.ao, List.map_cons, List.map_nil, List.length_cons, List.length_nil, List.cons_append, List.nil_append, Nat.reduceSub, Nat.reduceAdd, List.replicate_succ, List.replicate_zero, ir_chaseref1_AddressText, rs_chaseref1_AddressText, ZZ, YY, Zd, ite_true, ite_false, forall_const, reduceCtorEq, Nat.reduceAdd, Nat.reduceMul, Nat.reduceLeDiff, Nat.reduceLT, Nat.reduceEqDiff]
  rw [adT]
  refine br ?_ ?_
  · intro h
    rw [if_pos (of_decide_eq_true h)]
    simp only [ZZ, YY, Zd, ite_true, ite_false, forall_const, reduceCtorEq, Nat.reduceAdd, Nat.reduceMul, Nat.reduceLeDiff, Nat.reduceLT, Nat.reduceEqDiff]
  · intro h
    rw [if_neg (of_decide_eq_false h)]
    simp only [ZZ, YY, Zd, ite_true, ite_false, forall_const, reduceCtorEq, Nat.reduceAdd, Nat.reduceMul, Nat.reduceLeDiff, Nat.reduceLT, Nat.reduceEqDiff]
    exact ⟨by simp; omega, by simp; omega, by simp; omega⟩
theorem PrintAddress_ok (n m : List UInt8) (hn : n.length ≤ 1000000000) (hm : m.length ≤ 1000000000) : PCall Tryz.prog E0 28 [.agg [.str n, .str m]] (· = .tup [.str (if (nameB n && mailF m) = true then adT n m else []), int (if (nameB n && mailF m) = true then 0 else 3)]) := by
  refine pcallF mixed Tryz.func28 ck_thread_PrintAddress ?_
  simp only [a0, l0, OS.ao, List.map_cons, List.map_nil, List.length_cons, List.length_nil, List.cons_append, List.nil_append, Nat.reduceSub, Nat.reduceAdd, List.replicate_succ, List.replicate_zero, ir_thread_PrintAddress, rs_thread_PrintAddress, ZZ, YY, Zd, ite_true, ite_false, forall_const, reduceCtorEq, Nat.reduceAdd, Nat.reduceMul, Nat.reduceLeDiff, Nat.reduceLT, Nat.reduceEqDiff]
  refine use1 (right_ok n m hn hm) rfl (.inl rfl) ?_
  generalize (nameB n && mailF m) = b at *
  simp only [ZZ, YY, Zd, ite_true, ite_false, forall_const, reduceCtorEq, Nat.reduceAdd, Nat.reduceMul, Nat.reduceLeDiff, Nat.reduceLT, Nat.reduceEqDiff]
  refine br ?_ ?_
  · intro h
    have h : b = false := by simpa using h
    subst h
    simp only [ZZ, YY, Zd, ite_true, ite_false, forall_const, reduceCtorEq, Nat.reduceAdd, Nat.reduceMul, Nat.reduceLeDiff, Nat.reduceLT, Nat.reduceEqDiff]
  · intro h
    have h : b = true := by simpa using h
    subst h
    simp only [ZZ, YY, Zd, ite_true, ite_false, forall_const, reduceCtorEq, Nat.reduceAdd, Nat.reduceMul, Nat.reduceLeDiff, Nat.reduceLT, Nat.reduceEqDiff]
    refine use1 (printed_ok n m hn hm) rfl (.inl rfl) ?_
    simp only [ZZ, YY, Zd, ite_true, ite_false, forall_const, reduceCtorEq, Nat.reduceAdd, Nat.reduceMul, Nat.reduceLeDiff, Nat.reduceLT, Nat.reduceEqDiff]
theorem addressIn_ok (t : List UInt8) (hs : t.length ≤ 900000) : PCall Tryz.prog E0 89 [.str t] (· = .tup [.agg [.str (adE (adP (Lib.trimS t [32]))).1, .str (adE (adP (Lib.trimS t [32]))).2.1], int (adE (adP (Lib.trimS t [32]))).2.2]) := by
  rw [ad_same]
  refine pcallF mixed Tryz.func89 ck_chaseref1_addressIn ?_
  simp only [a0, l0, OS.ao, List.map_cons, List.map_nil, List.length_cons, List.length_nil, List.cons_append, List.nil_append, Nat.reduceSub, Nat.reduceAdd, List.replicate_succ, List.replicate_zero, ir_chaseref1_addressIn, rs_chaseref1_addressIn, ZZ, YY, Zd, ite_true, ite_false, forall_const, reduceCtorEq, Nat.reduceAdd, Nat.reduceMul, Nat.reduceLeDiff, Nat.reduceLT, Nat.reduceEqDiff]
  refine use1 (TrimSet_ok t [32] (by omega) (by decide) (by decide)) rfl (.inl rfl) ?_
  have htl := trimS_len t [32]
  generalize Lib.trimS t [32] = s at *
  have hR : adR s = if mailF (lowF s) = true then some ([], lowF s)
    else if (liF s 60 < 0 ∨ sufE s [62] = false) ∨ mailF (mlR s) = false then none
    else if liF s 60 = 0 then some ([], mlR s)
    else if Lib.trimRightS (s.take (liF s 60).toNat) [32] = s.take (liF s 60).toNat ∨ Lib.trimRightS (s.take (liF s 60).toNat) [32] = [] then none
    else match nmR (Lib.trimRightS (s.take (liF s 60).toNat) [32]) with
      | none => none
      | some n => if nameB n = false ∨ n = [] then none else some (n, mlR s) := rfl
  simp only [ZZ, YY, Zd, ite_true, ite_false, forall_const, reduceCtorEq, Nat.reduceAdd, Nat.reduceMul, Nat.reduceLeDiff, Nat.reduceLT, Nat.reduceEqDiff]
  refine use1 (lowerR_ok s (by omega)) rfl (.inl rfl) ?_
  simp only [ZZ, YY, Zd, ite_true, ite_false, forall_const, reduceCtorEq, Nat.reduceAdd, Nat.reduceMul, Nat.reduceLeDiff, Nat.reduceLT, Nat.reduceEqDiff]
  refine use1 (MailOf_ok (lowF s) (by rw [low_len]; omega)) rfl (.inl rfl) ?_
  simp only [ZZ, YY, Zd, ite_true, ite_false, forall_const, reduceCtorEq, Nat.reduceAdd, Nat.reduceMul, Nat.reduceLeDiff, Nat.reduceLT, Nat.reduceEqDiff]
  refine br ?_ ?_
  · intro h
    rw [if_pos h] at hR
    rw [hR, adE_some]
    simp only [ZZ, YY, Zd, ite_true, ite_false, forall_const, reduceCtorEq, Nat.reduceAdd, Nat.reduceMul, Nat.reduceLeDiff, Nat.reduceLT, Nat.reduceEqDiff]
    refine use1 (lowerR_ok s (by omega)) rfl (.inl rfl) ?_
    simp only [ZZ, YY, Zd, ite_true, ite_false, forall_const, reduceCtorEq, Nat.reduceAdd, Nat.reduceMul, Nat.reduceLeDiff, Nat.reduceLT, Nat.reduceEqDiff]
  intro h
  rw [if_neg (by simp [h])] at hR
  simp only [ZZ, YY, Zd, ite_true, ite_false, forall_const, reduceCtorEq, Nat.reduceAdd, Nat.reduceMul, Nat.reduceLeDiff, Nat.reduceLT, Nat.reduceEqDiff]
  refine use1 (LastIndex_ok s 60 (by omega)) rfl (.inl rfl) ?_
  have hli := li_cases s 60
  have hlb : -1 ≤ liF s 60 ∧ liF s 60 < s.length := by
    rcases hli with ⟨h, _⟩ | ⟨a, b, h1, _, h3⟩
    · omega
    · rw [h3, h1]; simp; omega
  simp only [ZZ, YY, Zd, ite_true, ite_false, forall_const, reduceCtorEq, Nat.reduceAdd, Nat.reduceMul, Nat.reduceLeDiff, Nat.reduceLT, Nat.reduceEqDiff]
  have hroom : ¬ liF s 60 < 0 → sufE s [62] = true → liF s 60 + 1 ≤ (s.length : Int) - 1 := by
    intro h1 h2
    rcases hli with ⟨h, _⟩ | ⟨a, b, h3, _, h5⟩
    · omega
    · obtain ⟨u, hu⟩ := (suf1 _ _).1 h2
      obtain ⟨b1, hb1⟩ := last_of (c := 60) (d := 62) (by decide) (by rw [← h3, hu])
      rw [h5, h3, hb1]
      simp
      omega
  refine useG (fun _ => HasSuffix_ok s [62] (by omega)) rfl (.inl rfl) ?_
  simp only [ZZ, YY, Zd, ite_true, ite_false, forall_const, reduceCtorEq, Nat.reduceAdd, Nat.reduceMul, Nat.reduceLeDiff, Nat.reduceLT, Nat.reduceEqDiff]
  have hG : (!(decide (liF s 60 < 0) || !sufE s [62])) = true → 0 ≤ liF s 60 ∧ sufE s [62] = true ∧ liF s 60 + 1 ≤ (s.length : Int) - 1 := by
    intro h
    simp only [Bool.not_eq_true', Bool.or_eq_false_iff, decide_eq_false_iff_not, Bool.not_eq_false'] at h
    exact ⟨by omega, h.2, hroom h.1 h.2⟩
  have hmlr : 0 ≤ liF s 60 → mlR s = lowF (List.drop (liF s 60 + 1).toNat (List.take ((s.length : Int) - 1).toNat s)) := by
    intro hx
    rw [show (liF s 60 + 1).toNat = (liF s 60).toNat + 1 from by omega, show ((s.length : Int) - 1).toNat = s.length - 1 from by omega]
    rfl
  have hXl : (List.drop (liF s 60 + 1).toNat (List.take ((s.length : Int) - 1).toNat s)).length ≤ s.length := by
    rw [List.length_drop, List.length_take]; omega
  refine ⟨fun h => by rw [h]; rfl, fun hg => ⟨hg, i64_of (by have := hG hg; omega) (by omega)⟩, fun hg => ⟨hg, i64_of (by omega) (by omega)⟩, fun hg => ⟨hg, ⟨hg, by have := hG hg; omega, by omega⟩, hg, by have := hG hg; omega, by have := hG hg; omega⟩, ?_⟩
  generalize hX : List.drop (liF s 60 + 1).toNat (List.take ((s.length : Int) - 1).toNat s) = X at *
  refine useG (fun _ => lowerR_ok X (by omega)) rfl (.inl rfl) ?_
  simp only [ZZ, YY, Zd, ite_true, ite_false, forall_const, reduceCtorEq, Nat.reduceAdd, Nat.reduceMul, Nat.reduceLeDiff, Nat.reduceLT, Nat.reduceEqDiff]
  refine useG (fun _ => MailOf_ok (lowF X) (by rw [low_len]; omega)) rfl (.inl rfl) ?_
  simp only [ZZ, YY, Zd, ite_true, ite_false, forall_const, reduceCtorEq, Nat.reduceAdd, Nat.reduceMul, Nat.reduceLeDiff, Nat.reduceLT, Nat.reduceEqDiff]
  refine ⟨fun h => by rw [h]; rfl, ?_⟩
  refine br ?_ ?_
  · intro hb
    have hc : (liF s 60 < 0 ∨ sufE s [62] = false) ∨ mailF (mlR s) = false := by
      by_cases c1 : liF s 60 < 0
      · exact .inl (.inl c1)
      · by_cases c2 : sufE s [62] = true
        · refine .inr ?_
          rw [hmlr (by omega)]
          simp only [c1, c2, decide_false, Bool.not_true, Bool.or_false, Bool.false_or, Bool.not_eq_true'] at hb
          exact hb
        · exact .inl (.inr (Bool.eq_false_iff.2 c2))
    rw [if_pos hc] at hR
    rw [hR, adE_none]
    simp only [ZZ, YY, Zd, ite_true, ite_false, forall_const, reduceCtorEq, Nat.reduceAdd, Nat.reduceMul, Nat.reduceLeDiff, Nat.reduceLT, Nat.reduceEqDiff]
  intro hb
  simp only [Bool.or_eq_false_iff, Bool.not_eq_false', decide_eq_false_iff_not] at hb
  obtain ⟨⟨b1, b2⟩, b3⟩ := hb
  have b4 := hroom b1 b2
  have b5 := hmlr (by omega)
  rw [if_neg (by rintro ((h | h) | h); exact b1 h; rw [b2] at h; cases h; rw [b5, b3] at h; cases h), b5] at hR
  simp only [ZZ, YY, Zd, ite_true, ite_false, forall_const, reduceCtorEq, Nat.reduceAdd, Nat.reduceMul, Nat.reduceLeDiff, Nat.reduceLT, Nat.reduceEqDiff]
  refine ⟨i64_of (by omega) (by omega), i64_of (by omega) (by omega), ⟨⟨by omega, by omega⟩, by omega, by omega⟩, ?_⟩
  rw [hX]
  refine use1 (lowerR_ok X (by omega)) rfl (.inl rfl) ?_
  have hml : (lowF X).length ≤ 900000 := by rw [low_len]; omega
  generalize lowF X = lm at *
  simp only [ZZ, YY, Zd, ite_true, ite_false, forall_const, reduceCtorEq, Nat.reduceAdd, Nat.reduceMul, Nat.reduceLeDiff, Nat.reduceLT, Nat.reduceEqDiff]
  refine ⟨⟨by omega, by omega⟩, ?_⟩
  obtain ⟨k, hk⟩ : ∃ k : Nat, liF s 60 = k := ⟨(liF s 60).toNat, by omega⟩
  rw [hk] at hR b4 ⊢
  simp only [Int.toNat_natCast] at hR
  have hfl : (s.take k).length ≤ s.length := by simp; omega
  have hfk : (s.take k).length = k := by simp; omega
  simp only [ZZ, YY, Zd, ite_true, ite_false, forall_const, reduceCtorEq, Nat.reduceAdd, Nat.reduceMul, Nat.reduceLeDiff, Nat.reduceLT, Nat.reduceEqDiff]
  generalize hf : s.take k = f at *
  refine use1 (TrimRightSet_ok f [32] (by omega) (by decide) (by decide)) rfl (.inl rfl) ?_
  have hnl := trimR_len f [32]
  generalize Lib.trimRightS f [32] = n at *
  simp only [ZZ, YY, Zd, ite_true, ite_false, forall_const, reduceCtorEq, Nat.reduceAdd, Nat.reduceMul, Nat.reduceLeDiff, Nat.reduceLT, Nat.reduceEqDiff]
  refine br ?_ ?_
  · intro h
    have h0 : k = 0 := by have := of_decide_eq_true h; omega
    subst h0
    rw [if_pos (show ((0 : Nat) : Int) = 0 from rfl)] at hR
    rw [hR, adE_some]
    simp only [ZZ, YY, Zd, ite_true, ite_false, forall_const, reduceCtorEq, Nat.reduceAdd, Nat.reduceMul, Nat.reduceLeDiff, Nat.reduceLT, Nat.reduceEqDiff]
  intro h
  have h0 : ¬ k = 0 := by have := of_decide_eq_false h; omega
  rw [if_neg (by omega)] at hR
  simp only [ZZ, YY, Zd, ite_true, ite_false, forall_const, reduceCtorEq, Nat.reduceAdd, Nat.reduceMul, Nat.reduceLeDiff, Nat.reduceLT, Nat.reduceEqDiff]
  refine ⟨⟨by omega, by omega⟩, ?_⟩
  rw [hf]
  refine ⟨fun h => by rw [h]; rfl, ?_⟩
  refine br ?_ ?_
  · intro hb
    have hc : n = f ∨ n = [] := by simpa using hb
    rw [if_pos hc] at hR
    rw [hR, adE_none]
    simp only [ZZ, YY, Zd, ite_true, ite_false, forall_const, reduceCtorEq, Nat.reduceAdd, Nat.reduceMul, Nat.reduceLeDiff, Nat.reduceLT, Nat.reduceEqDiff]
  intro hb
  have hc : ¬ (n = f ∨ n = []) := by
    simp only [Bool.or_eq_false_iff, decide_eq_false_iff_not] at hb
    rintro (h | h)
    · exact hb.1 h
    · exact hb.2 h
  rw [if_neg hc] at hR
  simp only [ZZ, YY, Zd, ite_true, ite_false, forall_const, reduceCtorEq, Nat.reduceAdd, Nat.reduceMul, Nat.reduceLeDiff, Nat.reduceLT, Nat.reduceEqDiff]
  have hN : nmR n = if (2 ≤ n.length ∧ n.getD 0 0 = 34) ∧ sufE n [34] = true then
      (if (cutF ((n.take (n.length - 1)).drop 1) [44, 32]).2.2 = true then
        if (cutF ((n.take (n.length - 1)).drop 1) [44, 32]).1 = [] ∨ (cutF ((n.take (n.length - 1)).drop 1) [44, 32]).2.1 = [] then none
        else some ((cutF ((n.take (n.length - 1)).drop 1) [44, 32]).2.1 ++ [32] ++ (cutF ((n.take (n.length - 1)).drop 1) [44, 32]).1)
      else some ((n.take (n.length - 1)).drop 1))
    else some n := rfl
  ((repeat' (with_reducible apply And.intro)) <;> try ((first | first | assumption | trivial | exact (fun hq => by rw [hq]; rfl) | exact i64_of (by omega) (by omega) | omega | (simp; done) | (simp; omega) | (intro hsc; have hs0 := hsc; (try have hsd := of_decide_eq_true hsc); (try simp only [Bool.not_eq_true', Bool.or_eq_false_iff, Bool.and_eq_true, Bool.or_eq_true, decide_eq_true_eq, decide_eq_false_iff_not] at hsc); (repeat' (with_reducible apply And.intro)) <;> (first | assumption | trivial | exact (fun hq => by rw [hq]; rfl) | exact i64_of (by omega) (by omega) | omega | (simp; done) | (simp; omega) | (intro hse; simp [hse, hs0]; done) | (intro hse; simp only [hse, hs0, Bool.true_and, Bool.and_true, Bool.not_false, Bool.not_true, Bool.and_self]; done))))))
  refine useG (fun _ => HasSuffix_ok n [34] (by omega)) rfl (.inl rfl) ?_
  simp only [ZZ, YY, Zd, ite_true, ite_false, forall_const, reduceCtorEq, Nat.reduceAdd, Nat.reduceMul, Nat.reduceLeDiff, Nat.reduceLT, Nat.reduceEqDiff]
  refine br_join (fun fr L => ∃ z, nmR n = some z ∧ z.length ≤ 2 * n.length + 1 ∧ fr = [.any, .any, .adr (.l 2) 0, .any, .any, .any, .adr (.l 6) 0, .any, .any, .any, .any, .any, .any, .any, .any, .any, .any, .any, .any, .any, .any, .any, .any, .any, .any, .any, .any, .any, .any, .any, .any, .any, .any, .any, .any, .any, .any, .any, .any, .any, .any, .any, .any, .any, .any, .any, .any, .any, .any, .any, .any, .any, .any, .any, .any, .any, .any, .any, .any, .any, .any, .any, .any, .any, .any, .any, .any, .any, .any, .any, .any, .any, .any, .any, .any, .any, .any, .any, .any, .any, .any, .any, .any, .any, .any, .any, .any, .any, .any, .any, .any, .any, .any, .any, .any, .any, .any, .any, .any, .any, .any, .any, .any, .any, .any, .any, .any, .any, .any, .any, .any, .any, .any, .any, .any, .any, .any, .any] ∧ L = [(.l 2, .box [.p (.str []), .p (.str [])] tAddr), (.l 6, .box [.p (.str z), .p (.str lm)] tAddr)]) ?_ ?_ ?_
  · intro hq
    have hq : (2 ≤ n.length ∧ n.getD 0 0 = 34) ∧ sufE n [34] = true := by
      simp only [show Int.toNat 0 = 0 from rfl, Bool.and_eq_true, decide_eq_true_eq] at hq
      exact ⟨⟨by omega, UInt8.toNat_inj.1 (show _ = 34 from by have := hq.1.2; omega)⟩, hq.2⟩
    rw [if_pos hq] at hN
    have hsl : List.drop (Int.toNat 1) (List.take ((n.length : Int) - 1).toNat n) = (n.take (n.length - 1)).drop 1 := by
      rw [show ((n.length : Int) - 1).toNat = n.length - 1 from by omega]; rfl
    have hil : ((n.take (n.length - 1)).drop 1).length ≤ n.length := by rw [List.length_drop, List.length_take]; omega
    simp only [ZZ, YY, Zd, ite_true, ite_false, forall_const, reduceCtorEq, Nat.reduceAdd, Nat.reduceMul, Nat.reduceLeDiff, Nat.reduceLT, Nat.reduceEqDiff]
    refine ⟨i64_of (by omega) (by omega), ⟨⟨by omega, by omega⟩, by omega, by omega⟩, ?_⟩
    rw [hsl]
    generalize (n.take (n.length - 1)).drop 1 = i at *
    refine use1 (Cut_ok i [44, 32] (by omega)) rfl (.inl rfl) ?_
    have hcl2 := cutF_len i [44, 32]
    generalize cutF i [44, 32] = d at *
    obtain ⟨x, y, two⟩ := d
    simp only at hN hcl2
    simp only [ZZ, YY, Zd, ite_true, ite_false, forall_const, reduceCtorEq, Nat.reduceAdd, Nat.reduceMul, Nat.reduceLeDiff, Nat.reduceLT, Nat.reduceEqDiff]
    refine br ?_ ?_
    · intro h2
      rw [if_pos h2] at hN
      simp only [ZZ, YY, Zd, ite_true, ite_false, forall_const, reduceCtorEq, Nat.reduceAdd, Nat.reduceMul, Nat.reduceLeDiff, Nat.reduceLT, Nat.reduceEqDiff]
      refine ⟨fun h => by rw [h]; rfl, ?_⟩
      refine br ?_ ?_
      · intro hb
        have hc : x = [] ∨ y = [] := by simpa using hb
        rw [if_pos hc] at hN
        rw [hN] at hR
        rw [hR, adE_none]
        simp only [ZZ, YY, Zd, ite_true, ite_false, forall_const, reduceCtorEq, Nat.reduceAdd, Nat.reduceMul, Nat.reduceLeDiff, Nat.reduceLT, Nat.reduceEqDiff]
      · intro hb
        have hc : ¬ (x = [] ∨ y = []) := by
          simp only [Bool.or_eq_false_iff, decide_eq_false_iff_not] at hb
          rintro (h | h)
          · exact hb.1 h
          · exact hb.2 h
        rw [if_neg hc] at hN
        simp only [ZZ, YY, Zd, ite_true, ite_false, forall_const, reduceCtorEq, Nat.reduceAdd, Nat.reduceMul, Nat.reduceLeDiff, Nat.reduceLT, Nat.reduceEqDiff]
        refine ⟨by simp; omega, by simp; omega, ?_⟩
        exact to_mid _ _ (by (simp only [ZZ, YY, Zd, ite_true, ite_false, forall_const, reduceCtorEq, Nat.reduceAdd, Nat.reduceMul, Nat.reduceLeDiff, Nat.reduceLT, Nat.reduceEqDiff]; try trivial)) (by simp only [ZZ, YY, Zd, ite_true, ite_false, forall_const, reduceCtorEq, Nat.reduceAdd, Nat.reduceMul, Nat.reduceLeDiff, Nat.reduceLT, Nat.reduceEqDiff]) ⟨_, hN, by simp only [List.length_append, List.length_cons, List.length_nil]; omega, rfl, rfl⟩
    · intro h2
      rw [if_neg (by simp [h2])] at hN
      simp only [ZZ, YY, Zd, ite_true, ite_false, forall_const, reduceCtorEq, Nat.reduceAdd, Nat.reduceMul, Nat.reduceLeDiff, Nat.reduceLT, Nat.reduceEqDiff]
      exact to_mid _ _ (by (simp only [ZZ, YY, Zd, ite_true, ite_false, forall_const, reduceCtorEq, Nat.reduceAdd, Nat.reduceMul, Nat.reduceLeDiff, Nat.reduceLT, Nat.reduceEqDiff]; try trivial)) (by simp only [ZZ, YY, Zd, ite_true, ite_false, forall_const, reduceCtorEq, Nat.reduceAdd, Nat.reduceMul, Nat.reduceLeDiff, Nat.reduceLT, Nat.reduceEqDiff]) ⟨_, hN, by omega, rfl, rfl⟩
  · intro hq
    rw [if_neg] at hN
    · simp only [ZZ, YY, Zd, ite_true, ite_false, forall_const, reduceCtorEq, Nat.reduceAdd, Nat.reduceMul, Nat.reduceLeDiff, Nat.reduceLT, Nat.reduceEqDiff]
      exact to_mid _ _ (by (simp only [ZZ, YY, Zd, ite_true, ite_false, forall_const, reduceCtorEq, Nat.reduceAdd, Nat.reduceMul, Nat.reduceLeDiff, Nat.reduceLT, Nat.reduceEqDiff]; try trivial)) (by simp only [ZZ, YY, Zd, ite_true, ite_false, forall_const, reduceCtorEq, Nat.reduceAdd, Nat.reduceMul, Nat.reduceLeDiff, Nat.reduceLT, Nat.reduceEqDiff]) ⟨_, hN, by omega, rfl, rfl⟩
    · rintro ⟨⟨h1, h2⟩, h3⟩
      rw [show Int.toNat 0 = 0 from rfl, h2, h3, decide_eq_true (show (2 : Int) ≤ n.length by omega)] at hq
      exact absurd hq (by decide)
  rintro fr L ⟨z, hz, hzl, rfl, rfl⟩
  rw [hz] at hR
  simp only at hR
  simp only [ZZ, YY, Zd, ite_true, ite_false, forall_const, reduceCtorEq, Nat.reduceAdd, Nat.reduceMul, Nat.reduceLeDiff, Nat.reduceLT, Nat.reduceEqDiff]
  refine use1 (nameOf_ok z (by omega)) rfl (.inl rfl) ?_
  simp only [ZZ, YY, Zd, ite_true, ite_false, forall_const, reduceCtorEq, Nat.reduceAdd, Nat.reduceMul, Nat.reduceLeDiff, Nat.reduceLT, Nat.reduceEqDiff]
  refine ⟨fun h => by rw [h]; rfl, ?_⟩
  refine br ?_ ?_
  · intro hb
    have hc : nameB z = false ∨ z = [] := by simpa using hb
    rw [if_pos hc] at hR
    rw [hR, adE_none]
    simp only [ZZ, YY, Zd, ite_true, ite_false, forall_const, reduceCtorEq, Nat.reduceAdd, Nat.reduceMul, Nat.reduceLeDiff, Nat.reduceLT, Nat.reduceEqDiff]
  · intro hb
    have hc : ¬ (nameB z = false ∨ z = []) := by
      simp only [Bool.or_eq_false_iff, decide_eq_false_iff_not, Bool.not_eq_false'] at hb
      rintro (h | h)
      · rw [hb.1] at h; cases h
      · exact hb.2 h
    rw [if_neg hc] at hR
    rw [hR, adE_some]
    simp only [ZZ, YY, Zd, ite_true, ite_false, forall_const, reduceCtorEq, Nat.reduceAdd, Nat.reduceMul, Nat.reduceLeDiff, Nat.reduceLT, Nat.reduceEqDiff]
theorem AddressOf_ok (t : List UInt8) (hs : t.length ≤ 900000) : PCall Tryz.prog E0 22 [.str t] (· = .tup [.agg [.str (adL t).1, .str (adL t).2.1], int (adL t).2.2]) := by
  refine pcallF mixed Tryz.func22 ck_chaseref1_AddressOf ?_
  simp only [a0, l0, OS.ao, List.map_cons, List.map_nil, List.length_cons, List.length_nil, List.cons_append, List.nil_append, Nat.reduceSub, Nat.reduceAdd, List.replicate_succ, List.replicate_zero, ir_chaseref1_AddressOf, rs_chaseref1_AddressOf, ZZ, YY, Zd, ite_true, ite_false, forall_const, reduceCtorEq, Nat.reduceAdd, Nat.reduceMul, Nat.reduceLeDiff, Nat.reduceLT, Nat.reduceEqDiff]
  rw [adL]
  refine br ?_ ?_
  · intro h
    rw [if_pos (of_decide_eq_true h)]
    simp only [ZZ, YY, Zd, ite_true, ite_false, forall_const, reduceCtorEq, Nat.reduceAdd, Nat.reduceMul, Nat.reduceLeDiff, Nat.reduceLT, Nat.reduceEqDiff]
  intro h
  rw [if_neg (of_decide_eq_false h)]
  simp only [ZZ, YY, Zd, ite_true, ite_false, forall_const, reduceCtorEq, Nat.reduceAdd, Nat.reduceMul, Nat.reduceLeDiff, Nat.reduceLT, Nat.reduceEqDiff]
  refine use1 (addressIn_ok t hs) rfl (.inl rfl) ?_
  simp only [ZZ, YY, Zd, ite_true, ite_false, forall_const, reduceCtorEq, Nat.reduceAdd, Nat.reduceMul, Nat.reduceLeDiff, Nat.reduceLT, Nat.reduceEqDiff]
end Go.Proofs.YtndjmidmfmcbkaaGreatDoor

/- slices.DeleteFunc of the strings that a call owns; strings without more blanks than one. -/
namespace Go.Proofs.YtndjmidmfmcbkaaGreatDoor
open Go.Shelf Go.RowKit Go.Lib Go.Sort
set_option linter.unusedVariables false
set_option linter.unusedSimpArgs false
set_option linter.defProp false

def sE (l : List UInt8) : Value := .string ⟨l.toArray⟩
theorem strE_vals {w : World} {U : Nat → Prop} : ∀ {l : List (List UInt8)} {vs : List Value}, PRepL w U (strE l).flatten vs ↔ vs = l.map sE
  | [], vs => by simp [strE, PRepL]
  | c :: r, vs => by
    have ih : ∀ vs, PRepL w U (strE r).flatten vs ↔ vs = r.map sE := fun vs => strE_vals
    simp only [strE, List.map_cons, List.flatten_cons, List.cons_append, List.nil_append, PRepL, PRep] at ih ⊢
    constructor
    · rintro ⟨v, r', rfl, rfl, h⟩
      rw [(ih r').1 h]
      rfl
    · rintro rfl
      exact ⟨_, _, rfl, rfl, (ih _).2 rfl⟩
theorem repE_sE {w : World} {U : Nat → Prop} {b : Nat} : ∀ (l : List (List UInt8)) (off : Nat), (∀ i u, (l.map sE)[i]? = some u → w.cell? ⟨b, off + i, none⟩ = some u) → PRepE w U b 1 off (strE l)
  | [], off, h => trivial
  | x :: r, off, h => by
    refine ⟨rfl, ⟨⟨.string ⟨x.toArray⟩, by simpa [sE] using h 0 _ rfl, rfl, rfl⟩, trivial⟩, repE_sE r (off + 1) fun i u hu => ?_⟩
    have := h (i + 1) u (by simpa using hu)
    rwa [show off + (i + 1) = off + 1 + i from by omega] at this
theorem str_zero : (Tryz.prog.info? 9).map (fun i => (i.zero, i.size)) = some (some (.string ByteArray.empty), 1) := by kernel_rfl
section
variable {E : Envt} {L : Objs} {k : Key} {fr : List AV} {d : Option Nat} {is : List IOper} {Y : List PV} {K : List AV → Objs → Prop}
end
/-- The words of a string between blanks. -/
def bits (s : List UInt8) : List (List UInt8) := (splF s 32).filter fun x => !x.isEmpty
end Go.Proofs.YtndjmidmfmcbkaaGreatDoor
