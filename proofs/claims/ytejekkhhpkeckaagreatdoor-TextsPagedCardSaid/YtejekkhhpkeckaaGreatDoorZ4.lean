
/- Own texts, put together: A31 A29. -/
import Derived.Test.YtejekkhhpkeckaaGreatDoorZ3
import Derived.Lib.Builder
import Derived.Lib.UnsafeStr
import Derived.Lib.AppendStr
/- The state told in other words: an object under another name, a plain row as one whose cells may be rows, and back. No program in sight. -/
namespace Go.Proofs.YtejekkhhpkeckaaGreatDoor
set_option linter.unusedVariables false
set_option linter.unusedSimpArgs false
set_option linter.defProp false

/-- One name for another. -/
def r1 (d q : Nat) (k : Key) : Option Key := if k = .l d then some (.l q) else if k = .l q then none else some k
theorem r1_inj {d q : Nat} : ∀ k1 k2 k, r1 d q k1 = some k → r1 d q k2 = some k → k1 = k2 := by
  intro k1 k2 k h1 h2
  unfold r1 at h1 h2
  split at h1
  · cases h1
    split at h2
    · rename_i e1 e2; rw [e1, e2]
    · split at h2
      · cases h2
      · cases h2; rename_i e1 e2 e3; exact absurd rfl e3
  · split at h1
    · cases h1
    · cases h1
      split at h2
      · cases h2; exact absurd rfl ‹¬ Key.l q = Key.l q›
      · split at h2
        · cases h2
        · cases h2; rfl
section
variable {E : Envt} {B : Base} {w : World} {L : Objs} {ι : Key → Value} {fr : List AV} {a : Act}
theorem look_ren1 (d q : Nat) : ∀ {L : Objs} (k : Key), Zas (mapO (r1 d q) L) k = if k = .l q then (Zas L (.l d)).map (AO.ren (r1 d q)) else if k = .l d then none else (Zas L k).map (AO.ren (r1 d q))
  | [], k => by simp [mapO, Zas]
  | (k1, a1) :: r, k => by
    have ih := look_ren1 d q (L := r) k
    by_cases hdq : d = q
    · subst hdq
      simp only [mapO, r1]
      by_cases h1 : k1 = .l d
      · subst h1
        simp only [if_true, Zas]
        by_cases h2 : k = .l d
        · subst h2; simp
        · rw [if_neg (Ne.symm h2), ih, if_neg h2, if_neg h2, if_neg h2, if_neg h2, if_neg (Ne.symm h2)]
      · simp only [if_neg h1, Zas]
        by_cases h2 : k1 = k
        · subst h2; simp [h1]
        · rw [if_neg h2, ih, if_neg h2]
    have hne : ¬ Key.l d = Key.l q := fun e => hdq (by cases e; rfl)
    simp only [mapO, r1]
    by_cases h1 : k1 = .l d
    · subst h1
      simp only [if_true, Zas]
      by_cases h2 : k = .l q
      · subst h2; simp
      · rw [if_neg (Ne.symm h2), ih, if_neg h2, if_neg h2]
        by_cases h3 : k = .l d
        · simp [h3]
        · rw [if_neg h3, if_neg h3, if_neg (Ne.symm h3)]
    · by_cases h2 : k1 = .l q
      · subst h2
        simp only [if_neg h1, if_true]
        rw [ih]
        simp only [Zas]
        by_cases h3 : k = .l q
        · subst h3; simp [Ne.symm hne]
        · rw [if_neg h3, if_neg h3, if_neg (Ne.symm h3)]
      · simp only [if_neg h1, if_neg h2, Zas]
        by_cases h3 : k1 = k
        · subst h3; simp [h1, h2]
        · rw [if_neg h3, ih, if_neg h3]
theorem StF.ren1 (hs : StF E B w L ι fr a) (d q : Nat) : ∃ ι', StF E B w (mapO (r1 d q) L) ι' (fr.map (·.ren (r1 d q))) a := by
  obtain ⟨h, hf, hd⟩ := hs
  let ι' : Key → Value := fun k => if k = .l q then ι (.l d) else ι k
  have hi : ∀ k k', r1 d q k = some k' → ι' k' = ι k := by
    intro k k' hk
    unfold r1 at hk
    split at hk
    · rename_i e; cases hk; subst e; simp [ι']
    · split at hk
      · cases hk
      · rename_i e1 e2; cases hk; simp [ι', e2]
  have hlk : ∀ {k : Key} {ao : AO}, Zas (mapO (r1 d q) L) k = some ao → ∃ k' ao', Zas L k' = some ao' ∧ r1 d q k' = some k ∧ ao = ao'.ren (r1 d q) := fun hl => look_mapO r1_inj hl
  have hO : ∀ b, Own (mapO (r1 d q) L) ι' b → Own L ι b := by
    rintro b ⟨k, ao, h1, h2⟩
    obtain ⟨k', ao', g1, g2, _⟩ := hlk h1
    exact ⟨k', ao', g1, by rw [← hi k' k g2]; exact h2⟩
  have hk : Keeps w w (fun b => Own L ι b ∨ B.X b) (fun b => Own (mapO (r1 d q) L) ι' b ∨ B.X b) := fun b _ hu => ⟨rfl, fun h => hu (h.imp (hO b) id)⟩
  refine ⟨ι', ⟨h.grow, ⟨fun k ao hl => ?_, fun k k' ao ao' b h1 h2 h3 h4 => ?_⟩, fun b hb => h.own b (hO b hb), h.xlt, fun k h0 h1 => ?_, h.env, h.envb, h.loc, h.xdis⟩, ⟨by simpa using hf.1, fun i x hx => ?_⟩, hd⟩
  · obtain ⟨k', ao', g1, g2, rfl⟩ := hlk hl
    exact ((h.sim.obj k' ao' g1).ren hi (hi k' k g2)).keeps hk
  · obtain ⟨j, _, g1, g2, _⟩ := hlk h1
    obtain ⟨j', _, g3, g4, _⟩ := hlk h2
    have := h.sim.inj j j' _ _ b g1 g3 (by rw [← hi j k g2]; exact h3) (by rw [← hi j' k' g4]; exact h4)
    subst this
    rw [g2] at g4
    cases g4
    rfl
  · obtain ⟨ao, hao⟩ := Option.isSome_iff_exists.1 h1
    obtain ⟨k', ao', g1, g2, _⟩ := hlk hao
    have : k' = k := by
      unfold r1 at g2
      split at g2
      · cases g2; rw [h.loc q] at h0; cases h0
      · split at g2
        · cases g2
        · cases g2; rfl
    subst this
    rw [hi k' k' g2]
    exact h.keep k' h0 (by rw [g1]; rfl)
  · rw [List.getElem?_map, Option.map_eq_some_iff] at hx
    obtain ⟨y, hy, rfl⟩ := hx
    obtain ⟨u, hu, hr⟩ := hf.2 i y hy
    exact ⟨u, hu, (hr.ren hi).mono hk⟩
/-- Slots are forgotten. -/
theorem re_le {fr' : List AV} (h : Zb fr fr') : ReOk E fr L fr' L := fun B w ι a hs => by
  obtain ⟨g1, g2⟩ := h.get
  refine ⟨ι, hs.1, ⟨by rw [hs.2.1.1, g1], fun i y hy => ?_⟩, hs.2.2⟩
  obtain ⟨x, hx, hxy⟩ := g2 i y hy
  obtain ⟨v, hv, hr⟩ := hs.2.1.2 i x hx
  exact ⟨v, hv, hxy.rep hr⟩
/-- An object under another name. -/
theorem re_ren (d q : Nat) : ReOk E fr L (fr.map (·.ren (r1 d q))) (mapO (r1 d q) L) := fun B w ι a hs => hs.ren1 d q
/-- And back. -/
theorem re_plain {k : Key} {es : List (List AV)} {es' : List (List PV)} {e z : Nat} (hl : Zas L k = some (.rowv es e z)) (hp : Zbb es = some es') : ReOk E fr L fr (Zat L k (.row es' e z true)) := fun B w ι a hs => ⟨ι, hs.retell k _ _ hl fun U h => h.plain hp⟩
/-- A row is given up. -/
theorem re_row {k : Key} {es : List (List PV)} {e z : Nat} {ap : Bool} (hl : Zas L k = some (.row es e z ap)) : ReOk E fr L (fr.map (·.thaw k (.sl z es))) (Zaw k (.sl z es) L) := fun B w ι a hs => ⟨ι, hs.thaw hl⟩
end
/-- A fresh row as a plain result. -/
theorem plainR {P : Program} {E : Envt} {f : FuncId} {args : List PV} {e z : Nat} {es : List (List PV)} (h : FCall P E f args e z (· = es)) : PCall P E f args (· = .sl z es) := by
  intro w U vs hU hE hEb hA
  refine (pcall_of_fresh h w U vs hU hE hEb hA).mono ?_
  rintro e' w' ⟨v, x, h1, ⟨es', rfl, rfl⟩, h2⟩
  exact ⟨v, _, h1, rfl, h2⟩
end Go.Proofs.YtejekkhhpkeckaaGreatDoor

/- strings.Builder as two owned objects: the variable and its buffer's row; calls that write into it. No program in sight. -/
namespace Go.Proofs.YtejekkhhpkeckaaGreatDoor
set_option linter.unusedVariables false
set_option linter.unusedSimpArgs false
set_option linter.defProp false

/-- The buffer's block. -/
def bufOf (w : World) (T : TypeId) (b x : Nat) : Prop := ∃ p u, w.heap[b]? = some (.cells #[p, u] T (0, 0)) ∧ u.ownBlock = some x
/-- A used builder that holds bs, and what changed on the way to it. -/
def SbPost (T e : TypeId) (b : Nat) (bs : List UInt8) (w w' : World) : Prop :=
  (∃ v, w'.heap[b]? = some (.cells #[.pointer (some ⟨b, 0, none⟩), v] T (0, 0)) ∧ w'.ownsRow 0 e 1 v bs.length (Lib.byteCells bs) ∧ v.ownBlock ≠ some b ∧ ∀ x, v.ownBlock = some x → bufOf w T b x ∨ w.heap.size ≤ x) ∧ Grow w w' (fun x => x = b ∨ bufOf w T b x)
section
variable {w w1 w2 : World} {T e : TypeId} {b : Nat} {v v' : Value} {bs : List UInt8} {p : Value}
theorem bufOf_eq (h : w.heap[b]? = some (.cells #[p, v] T (0, 0))) {x : Nat} : bufOf w T b x ↔ v.ownBlock = some x := by
  constructor
  · rintro ⟨q, u, h1, h2⟩
    rw [h] at h1
    simp at h1
    rw [h1.2]; exact h2
  · intro h2; exact ⟨_, _, h, h2⟩
theorem heap_set0 {q : Value} (h : w.heap[b]? = some (.cells #[p, v] T (0, 0))) : (w.setCell ⟨b, 0, none⟩ q).heap[b]? = some (.cells #[q, v] T (0, 0)) := by
  simp [World.setCell, Array.getElem?_modify, h]
theorem grow_setCell {O : Nat → Prop} (off : Nat) (q : Value) (hO : O b) : Grow w (w.setCell ⟨b, off, none⟩ q) O :=
  ⟨rfl, rfl, rfl, by simp [World.setCell], fun c _ hn => heap_setCell_other _ _ _ _ (fun e => hn (by subst e; exact hO))⟩
theorem SbPost.behind {q : Value} (hbk : w.heap[b]? = some (.cells #[q, .slice none 0 0] T (0, 0))) (h : SbPost T e b bs (w.setCell ⟨b, 0, none⟩ (.pointer (some ⟨b, 0, none⟩))).drew w2) : SbPost T e b bs w w2 := by
  obtain ⟨⟨u, h1, h2, h3, h4⟩, hG⟩ := h
  have hk := heap_set0 (q := .pointer (some ⟨b, 0, none⟩)) hbk
  have hno : ∀ x, ¬ bufOf (w.setCell ⟨b, 0, none⟩ (.pointer (some ⟨b, 0, none⟩))).drew T b x := fun x hx => by
    have := (bufOf_eq (w := (w.setCell ⟨b, 0, none⟩ (.pointer (some ⟨b, 0, none⟩))).drew) hk).1 hx
    simp [Value.ownBlock] at this
  refine ⟨⟨u, h1, h2, h3, fun x hx => ?_⟩, ?_⟩
  · rcases h4 x hx with h | h
    · exact (hno x h).elim
    · exact .inr (by simpa [World.setCell] using h)
  · refine (grow_setCell (w := w) 0 (.pointer (some ⟨b, 0, none⟩)) (O := fun x => x = b ∨ bufOf w T b x) (.inl rfl)).drew.trans hG (fun c hc => ?_)
    rcases hc with h | h
    · exact .inl (.inl h)
    · exact (hno c h).elim
end

section
variable {P : Program} {E : Envt} {w w' : World} {X : Nat → Prop} {U : Nat → Prop} {L : Objs} {ι : Key → Value} {k : Key} {i : Nat} {T e : TypeId} {s s' : List UInt8}

variable {fr : List AV} {d : Option Nat} {is : List IOper} {Y : List PV} {K : List AV → Objs → Prop}
end
end Go.Proofs.YtejekkhhpkeckaaGreatDoor
