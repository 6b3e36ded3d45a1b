/- How the state of a call changes: an object made or replaced, an object written, a row given up. -/
import Derived.Test.YtpddiepfolfnoaaDoorA10
namespace Go.Proofs.YtpddiepfolfnoaaDoor
set_option linter.unusedVariables false
set_option linter.unusedSimpArgs false
set_option linter.defProp false

def updI (ι : Key → Value) (k : Key) (v : Value) : Key → Value := fun j => if j = k then v else ι j
def Zak (L : Objs) (k : Key) (ao : AO) : Objs := Zai (Zaj k L) k ao

section
variable {P : Program} {E : Envt} {B : Base} {w w' : World} {L : Objs} {ι : Key → Value} {fr : List AV} {a : Act} {X : Nat → Prop}

theorem look_updL (L : Objs) (k : Key) (ao : AO) (j : Key) : Zah (Zak L k ao) j = if j = k then some ao else (Zah L j).map (AO.kill k) := by
  unfold Zak; rw [look_putO, look_killO]

theorem own_updL {k : Key} {v : Value} {ao : AO} {b : Nat} (h : Own (Zak L k ao) (updI ι k v) b) : blk v = some b ∨ ∃ j q, j ≠ k ∧ Zah L j = some q ∧ blk (ι j) = some b := by
  obtain ⟨j, q, h1, h2⟩ := h
  rw [look_updL] at h1
  unfold updI at h2
  by_cases hj : j = k
  · rw [if_pos hj] at h2; exact .inl h2
  · rw [if_neg hj] at h1 h2
    obtain ⟨q', e, _⟩ := Option.map_eq_some_iff.1 h1
    exact .inr ⟨j, q', hj, e, h2⟩

/-- The block that an object has now, if it is there. -/
def Old (L : Objs) (ι : Key → Value) (k : Key) (b : Nat) : Prop := ∃ q, Zah L k = some q ∧ blk (ι k) = some b
theorem Old.own {k : Key} {b : Nat} (h : Old L ι k b) : Own L ι b := let ⟨q, h1, h2⟩ := h; ⟨k, q, h1, h2⟩

theorem ObjOk.blk_lt {U : Nat → Prop} {k : Key} {ao : AO} (h : ObjOk w U ι k ao) {b : Nat} (hb : blk (ι k) = some b) : b < w.heap.size := by
  cases ao with
  | box cs t => obtain ⟨b', vs, e1, e2, _⟩ := h; rw [e1] at hb; cases hb; exact (Array.getElem?_eq_some_iff.1 e2).1
  | row es e z ap =>
    obtain ⟨vs, hown, _⟩ := h
    rcases hown.2 with ⟨e1, _⟩ | ⟨g, cap, cur, fz, e1, e2, _⟩
    · rw [e1] at hb; cases hb
    · rw [e1] at hb; cases hb; exact (Array.getElem?_eq_some_iff.1 e2).1
  | map kv x y => obtain ⟨r, ents, cl, e1, e2, _⟩ := h; rw [e1] at hb; cases hb; exact (Array.getElem?_eq_some_iff.1 e2).1

/-- An object that another one's change does not touch. -/
theorem ObjOk.other {U U' : Nat → Prop} {k j : Key} {v : Value} {ao : AO} (hj : j ≠ k) (hk : Keeps w w' U U') (hb : ∀ b, blk (ι j) = some b → w'.heap[b]? = w.heap[b]?) (h : ObjOk w U ι j ao) : ObjOk w' U' (updI ι k v) j (ao.kill k) := by
  have hi : updI ι k v j = ι j := by simp [updI, hj]
  cases ao with
  | box cs t =>
    obtain ⟨b, vs, e1, e2, e3, e4, e5⟩ := h
    refine ⟨b, vs, by rw [hi]; exact e1, by rw [hb b (by rw [e1]; rfl)]; exact e2, by simpa using e3, e4, fun i x hx => ?_⟩
    rw [List.getElem?_map, Option.map_eq_some_iff] at hx
    obtain ⟨y, hy, rfl⟩ := hx
    obtain ⟨u, hu, hr⟩ := e5 i y hy
    exact ⟨u, hu, (hr.kill (k := k) (v := v)).mono hk⟩
  | row es e z ap =>
    obtain ⟨vs, hown, e4, e5, e6⟩ := h
    refine ⟨vs, ⟨hown.1, ?_⟩, e4, PRepL.mono hk _ _ e5, e6⟩
    rcases hown.2 with ⟨g1, g2⟩ | ⟨g, cap, cur, fz, g1, g2, rest⟩
    · exact .inl ⟨by rw [hi]; exact g1, g2⟩
    · exact .inr ⟨g, cap, cur, fz, by rw [hi]; exact g1, by rw [hb g (by rw [g1]; rfl)]; exact g2, rest⟩
  | map kv x y =>
    obtain ⟨r, ents, cl, e1, e2, e3⟩ := h
    exact ⟨r, ents, cl, by rw [hi]; exact e1, by rw [hb r (by rw [e1]; rfl)]; exact e2, e3.1, PRepL.mono hk _ _ e3.2⟩

theorem upd_keeps (hx : ∀ b, X b → b < w.heap.size) {k : Key} {v : Value} {ao : AO} (hG : Grow w w' (Old L ι k)) (hb : ∀ b, blk v = some b → w.heap.size ≤ b ∨ Old L ι k b) :
    Keeps w w' (fun b => Own L ι b ∨ X b) (fun b => Own (Zak L k ao) (updI ι k v) b ∨ X b) := by
  intro b hlt hu
  refine ⟨hG.block b hlt (fun h => hu (.inl h.own)), ?_⟩
  rintro (h | h)
  · rcases own_updL h with h | ⟨j, q, hj, h1, h2⟩
    · rcases hb b h with h' | h'
      · omega
      · exact hu (.inl h'.own)
    · exact hu (.inl ⟨j, q, h1, h2⟩)
  · exact hu (.inr h)

theorem Sim.upd (h : Sim w X L ι) (hx : ∀ b, X b → b < w.heap.size) (k : Key) (v : Value) (ao : AO) (hG : Grow w w' (Old L ι k)) (hb : ∀ b, blk v = some b → w.heap.size ≤ b ∨ Old L ι k b)
    (hobj : ObjOk w' (fun b => Own (Zak L k ao) (updI ι k v) b ∨ X b) (updI ι k v) k ao) : Sim w' X (Zak L k ao) (updI ι k v) := by
  have hk := upd_keeps (ao := ao) hx hG hb
  constructor
  · intro j q hj
    rw [look_updL] at hj
    by_cases e : j = k
    · subst e; rw [if_pos rfl] at hj; cases hj; exact hobj
    · rw [if_neg e] at hj
      obtain ⟨q', h1, rfl⟩ := Option.map_eq_some_iff.1 hj
      have ho := h.obj j q' h1
      refine ObjOk.other e hk (fun b hbj => hG.block b (ho.blk_lt hbj) ?_) ho
      rintro ⟨qk, h2, h3⟩
      exact e (h.inj j k q' qk b h1 h2 hbj h3)
  · intro j j' q q' b hj hj' hbj hbj'
    rw [look_updL] at hj hj'
    unfold updI at hbj hbj'
    by_cases e : j = k <;> by_cases e' : j' = k
    · rw [e, e']
    · rw [if_pos e] at hbj
      rw [if_neg e'] at hbj' hj'
      obtain ⟨q2, h1, _⟩ := Option.map_eq_some_iff.1 hj'
      rcases hb b hbj with h' | ⟨qk, h2, h3⟩
      · have := (h.obj j' q2 h1).blk_lt hbj'; omega
      · exact absurd (h.inj j' k q2 qk b h1 h2 hbj' h3) e'
    · rw [if_pos e'] at hbj'
      rw [if_neg e] at hbj hj
      obtain ⟨q2, h1, _⟩ := Option.map_eq_some_iff.1 hj
      rcases hb b hbj' with h' | ⟨qk, h2, h3⟩
      · have := (h.obj j q2 h1).blk_lt hbj; omega
      · exact absurd (h.inj j k q2 qk b h1 h2 hbj h3) e
    · rw [if_neg e] at hbj hj
      rw [if_neg e'] at hbj' hj'
      obtain ⟨q2, h1, _⟩ := Option.map_eq_some_iff.1 hj
      obtain ⟨q3, h2, _⟩ := Option.map_eq_some_iff.1 hj'
      exact h.inj j j' q2 q3 b h1 h2 hbj hbj'

theorem St.x_lt (h : St E B w L ι) {b : Nat} (hb : B.X b) : b < w.heap.size := Nat.lt_of_lt_of_le (h.xlt b hb) h.grow.size

/-- An object of the call's own is made, or replaced. -/
theorem StF.upd (hs : StF E B w L ι fr a) (i : Nat) (v : Value) (ao : AO) (hG : Grow w w' (Old L ι (.l i))) (hb : ∀ b, blk v = some b → w.heap.size ≤ b ∨ Old L ι (.l i) b)
    (hobj : ObjOk w' (fun b => Own (Zak L (.l i) ao) (updI ι (.l i) v) b ∨ B.X b) (updI ι (.l i) v) (.l i) ao) : StF E B w' (Zak L (.l i) ao) (updI ι (.l i) v) (fr.map (·.kill (.l i))) a := by
  obtain ⟨h, hf, hd⟩ := hs
  have hk := upd_keeps (ao := ao) (fun b hb => h.x_lt hb) hG hb
  have hown : ∀ b, Own (Zak L (.l i) ao) (updI ι (.l i) v) b → Own B.L0 B.i0 b ∨ B.w0.heap.size ≤ b := by
    intro b hb'
    rcases own_updL hb' with h' | ⟨j, q, hj, h1, h2⟩
    · rcases hb b h' with h'' | h''
      · exact .inr (Nat.le_trans h.grow.size h'')
      · exact h.own b h''.own
    · exact h.own b ⟨j, q, h1, h2⟩
  refine ⟨⟨h.grow.trans hG (fun b hb => h.own b hb.own), h.sim.upd (fun b hb => h.x_lt hb) _ v ao hG hb hobj, hown, h.xlt, fun j h0 h1 => ?_, ?_, h.envb, h.loc, h.xdis⟩, ⟨by simpa using hf.1, fun i' x hx => ?_⟩, hd⟩
  · rw [look_updL] at h1
    by_cases e : j = .l i
    · subst e; rw [h.loc i] at h0; cases h0
    · rw [if_neg e] at h1
      have : (Zah L j).isSome = true := by simpa using h1
      simp [updI, e, h.keep j h0 this]
  · refine E.mono w w' (fun b hb => hG.block b (Nat.lt_of_lt_of_le (h.envb b hb).1 h.grow.size) (fun ho => ?_)) h.env
    rcases h.own b ho.own with h' | h'
    · exact (h.envb b hb).2 h'
    · have := (h.envb b hb).1; omega
  · rw [List.getElem?_map, Option.map_eq_some_iff] at hx
    obtain ⟨y, hy, rfl⟩ := hx
    obtain ⟨u, hu, hr⟩ := hf.2 i' y hy
    exact ⟨u, hu, (hr.kill (k := .l i) (v := v)).mono hk⟩

/-- An object is written: it stays where it is. -/
theorem StF.wr (hs : StF E B w L ι fr a) (k : Key) (ao ao' : AO) (hl : Zah L k = some ao) (hG : Grow w w' (Old L ι k))
    (hobj : ObjOk w' (fun b => Own (Zai L k ao') ι b ∨ B.X b) ι k ao') : StF E B w' (Zai L k ao') ι fr a := by
  obtain ⟨h, hf, hd⟩ := hs
  have hown : ∀ b, Own (Zai L k ao') ι b ↔ Own L ι b := by
    intro b
    constructor
    · rintro ⟨j, q, h1, h2⟩
      rw [look_putO] at h1
      by_cases e : j = k
      · subst e; exact ⟨j, ao, hl, h2⟩
      · rw [if_neg e] at h1; exact ⟨j, q, h1, h2⟩
    · rintro ⟨j, q, h1, h2⟩
      by_cases e : j = k
      · exact ⟨j, ao', by rw [look_putO, if_pos e], h2⟩
      · exact ⟨j, q, by rw [look_putO, if_neg e]; exact h1, h2⟩
  have hk : Keeps w w' (fun b => Own L ι b ∨ B.X b) (fun b => Own (Zai L k ao') ι b ∨ B.X b) := by
    intro b hlt hu
    refine ⟨hG.block b hlt (fun h => hu (.inl h.own)), fun h => hu ?_⟩
    simpa [hown b] using h
  have hii : ∀ v', v' = ι k → updI ι k v' = ι := by
    intro v' e; funext j; simp only [updI]; split
    · rename_i e'; rw [e, e']
    · rfl
  refine ⟨⟨h.grow.trans hG (fun b hb => h.own b hb.own), ⟨fun j q hj => ?_, fun j j' q q' b hj hj' hbj hbj' => ?_⟩, fun b hb => h.own b ((hown b).1 hb), h.xlt, fun j h0 h1 => ?_, ?_, h.envb, h.loc, h.xdis⟩, hf.mono hk, hd⟩
  · rw [look_putO] at hj
    by_cases e : j = k
    · subst e; rw [if_pos rfl] at hj; cases hj; exact hobj
    · rw [if_neg e] at hj
      have ho := h.sim.obj j q hj
      have hbb : ∀ b, blk (ι j) = some b → w'.heap[b]? = w.heap[b]? := fun b hbj => hG.block b (ho.blk_lt hbj) (by rintro ⟨qk, h2, h3⟩; exact e (h.sim.inj j k q qk b hj h2 hbj h3))
      cases q with
      | box cs t =>
        obtain ⟨b, vs, e1, e2, e3, e4, e5⟩ := ho
        refine ⟨b, vs, e1, by rw [hbb b (by rw [e1]; rfl)]; exact e2, e3, e4, fun i x hx => ?_⟩
        obtain ⟨u, hu, hr⟩ := e5 i x hx
        exact ⟨u, hu, hr.mono hk⟩
      | row es e z ap =>
        obtain ⟨vs, hown', e4, e5, e6⟩ := ho
        refine ⟨vs, ⟨hown'.1, ?_⟩, e4, PRepL.mono hk _ _ e5, e6⟩
        rcases hown'.2 with g1 | ⟨g, cap, cur, fz, g1, g2, rest⟩
        · exact .inl g1
        · exact .inr ⟨g, cap, cur, fz, g1, by rw [hbb g (by rw [g1]; rfl)]; exact g2, rest⟩
      | map kv x y =>
        obtain ⟨r, ents, cl, e1, e2, e3⟩ := ho
        exact ⟨r, ents, cl, e1, by rw [hbb r (by rw [e1]; rfl)]; exact e2, e3.1, PRepL.mono hk _ _ e3.2⟩
  · rw [look_putO] at hj hj'
    have f1 : ∃ q, Zah L j = some q := by by_cases e : j = k; exact ⟨ao, by rw [e]; exact hl⟩; rw [if_neg e] at hj; exact ⟨q, hj⟩
    have f2 : ∃ q, Zah L j' = some q := by by_cases e : j' = k; exact ⟨ao, by rw [e]; exact hl⟩; rw [if_neg e] at hj'; exact ⟨q', hj'⟩
    obtain ⟨q1, f1⟩ := f1
    obtain ⟨q2, f2⟩ := f2
    exact h.sim.inj j j' q1 q2 b f1 f2 hbj hbj'
  · refine h.keep j h0 ?_
    rw [look_putO] at h1
    by_cases e : j = k
    · rw [e, hl]; rfl
    · rw [if_neg e] at h1; exact h1
  · refine E.mono w w' (fun b hb => hG.block b (Nat.lt_of_lt_of_le (h.envb b hb).1 h.grow.size) (fun ho => ?_)) h.env
    rcases h.own b ho.own with h' | h'
    · exact (h.envb b hb).2 h'
    · have := (h.envb b hb).1; omega

/-- New blocks alone. -/
theorem StF.grown (hs : StF E B w L ι fr a) (hG : Grow w w' (fun _ => False)) : StF E B w' L ι fr a := by
  obtain ⟨h, hf, hd⟩ := hs
  have hk : Keeps w w' (fun b => Own L ι b ∨ B.X b) (fun b => Own L ι b ∨ B.X b) := fun b hlt hu => ⟨hG.block b hlt (fun h => h), hu⟩
  refine ⟨⟨h.grow.trans hG (fun b hb => hb.elim), ⟨fun j q hj => ?_, h.sim.inj⟩, h.own, h.xlt, h.keep, E.mono w w' (fun b hb => hG.block b (Nat.lt_of_lt_of_le (h.envb b hb).1 h.grow.size) (fun h => h)) h.env, h.envb, h.loc, h.xdis⟩, hf.mono hk, hd⟩
  have ho := h.sim.obj j q hj
  have hbb : ∀ b, blk (ι j) = some b → w'.heap[b]? = w.heap[b]? := fun b hbj => hG.block b (ho.blk_lt hbj) (fun h => h)
  cases q with
  | box cs t =>
    obtain ⟨b, vs, e1, e2, e3, e4, e5⟩ := ho
    refine ⟨b, vs, e1, by rw [hbb b (by rw [e1]; rfl)]; exact e2, e3, e4, fun i x hx => ?_⟩
    obtain ⟨u, hu, hr⟩ := e5 i x hx
    exact ⟨u, hu, hr.mono hk⟩
  | row es e z ap =>
    obtain ⟨vs, hown', e4, e5, e6⟩ := ho
    refine ⟨vs, ⟨hown'.1, ?_⟩, e4, PRepL.mono hk _ _ e5, e6⟩
    rcases hown'.2 with g1 | ⟨g, cap, cur, fz, g1, g2, rest⟩
    · exact .inl g1
    · exact .inr ⟨g, cap, cur, fz, g1, by rw [hbb g (by rw [g1]; rfl)]; exact g2, rest⟩
  | map kv x y =>
    obtain ⟨r, ents, cl, e1, e2, e3⟩ := ho
    exact ⟨r, ents, cl, e1, by rw [hbb r (by rw [e1]; rfl)]; exact e2, e3.1, PRepL.mono hk _ _ e3.2⟩


/-- A variable is written and a fresh row comes in. -/
theorem StF.wrupd (hs : StF E B w L ι fr a) (i : Nat) (k : Key) (hki : k ≠ .l i) (ao ao' row : AO) (hl : Zah L k = some ao) (v : Value) (hG : Grow w w' (Old L ι k)) (hv : ∀ b, blk v = some b → w.heap.size ≤ b)
    (hbox : ObjOk w' (fun b => Own (Zak (Zai L k ao') (.l i) row) (updI ι (.l i) v) b ∨ B.X b) (updI ι (.l i) v) k (ao'.kill (.l i))) (hrow : ObjOk w' (fun b => Own (Zak (Zai L k ao') (.l i) row) (updI ι (.l i) v) b ∨ B.X b) (updI ι (.l i) v) (.l i) row) :
    StF E B w' (Zak (Zai L k ao') (.l i) row) (updI ι (.l i) v) (fr.map (·.kill (.l i))) a := by
  obtain ⟨h, hf, hd⟩ := hs
  have hlk : ∀ j, Zah (Zak (Zai L k ao') (.l i) row) j = if j = .l i then some row else if j = k then some (ao'.kill (.l i)) else (Zah L j).map (AO.kill (.l i)) := by
    intro j
    rw [look_updL, look_putO]
    by_cases e : j = .l i
    · rw [if_pos e, if_pos e]
    · rw [if_neg e, if_neg e]
      by_cases e' : j = k
      · rw [if_pos e', if_pos e']; rfl
      · rw [if_neg e', if_neg e']
  have hO : ∀ b, Own (Zak (Zai L k ao') (.l i) row) (updI ι (.l i) v) b → blk v = some b ∨ Own L ι b := by
    rintro b ⟨j, q, e1, e2⟩
    rw [hlk] at e1
    unfold updI at e2
    by_cases e : j = .l i
    · rw [if_pos e] at e2; exact .inl e2
    · rw [if_neg e] at e1 e2
      by_cases e' : j = k
      · exact .inr ⟨k, ao, hl, by rw [← e']; exact e2⟩
      · rw [if_neg e'] at e1
        obtain ⟨q', e3, _⟩ := Option.map_eq_some_iff.1 e1
        exact .inr ⟨j, q', e3, e2⟩
  have hk : Keeps w w' (fun b => Own L ι b ∨ B.X b) (fun b => Own (Zak (Zai L k ao') (.l i) row) (updI ι (.l i) v) b ∨ B.X b) := by
    intro b hlt hu
    refine ⟨hG.block b hlt (fun h => hu (.inl h.own)), ?_⟩
    rintro (h' | h')
    · rcases hO b h' with h'' | h''
      · have := hv b h''; omega
      · exact hu (.inl h'')
    · exact hu (.inr h')
  have hblk : ∀ j q, Zah L j = some q → ∀ b, blk (ι j) = some b → b < w.heap.size := fun j q hj b hb => (h.sim.obj j q hj).blk_lt hb
  refine ⟨⟨h.grow.trans hG (fun b hb => h.own b hb.own), ⟨fun j q hj => ?_, fun j j' q q' b hj hj' hbj hbj' => ?_⟩, fun b hb => ?_, h.xlt, fun j h0 h1 => ?_, ?_, h.envb, h.loc, h.xdis⟩, ⟨by simpa using hf.1, fun i' x hx => ?_⟩, hd⟩
  · rw [hlk] at hj
    by_cases e : j = .l i
    · rw [if_pos e] at hj; cases hj; subst e; exact hrow
    · rw [if_neg e] at hj
      by_cases e' : j = k
      · rw [if_pos e'] at hj; cases hj; subst e'; exact hbox
      · rw [if_neg e'] at hj
        obtain ⟨q', h1, rfl⟩ := Option.map_eq_some_iff.1 hj
        have ho := h.sim.obj j q' h1
        refine ObjOk.other e hk (fun b hbj => hG.block b (ho.blk_lt hbj) ?_) ho
        rintro ⟨qk, h2, h3⟩
        exact e' (h.sim.inj j k q' qk b h1 h2 hbj h3)
  · rw [hlk] at hj hj'
    unfold updI at hbj hbj'
    have old : ∀ j q, j ≠ .l i → (if j = .l i then some row else if j = k then some (ao'.kill (.l i)) else (Zah L j).map (AO.kill (.l i))) = some q → ∃ q', Zah L j = some q' := by
      intro j q e hj
      rw [if_neg e] at hj
      by_cases e' : j = k
      · exact ⟨ao, by rw [e']; exact hl⟩
      · rw [if_neg e'] at hj
        obtain ⟨q', h1, _⟩ := Option.map_eq_some_iff.1 hj
        exact ⟨q', h1⟩
    by_cases e : j = .l i <;> by_cases e' : j' = .l i
    · rw [e, e']
    · rw [if_pos e] at hbj
      rw [if_neg e'] at hbj'
      obtain ⟨q2, h2⟩ := old j' q' e' hj'
      have := hv b hbj
      have := hblk j' q2 h2 b hbj'
      omega
    · rw [if_pos e'] at hbj'
      rw [if_neg e] at hbj
      obtain ⟨q2, h2⟩ := old j q e hj
      have := hv b hbj'
      have := hblk j q2 h2 b hbj
      omega
    · rw [if_neg e] at hbj
      rw [if_neg e'] at hbj'
      obtain ⟨q2, h2⟩ := old j q e hj
      obtain ⟨q3, h3⟩ := old j' q' e' hj'
      exact h.sim.inj j j' q2 q3 b h2 h3 hbj hbj'
  · rcases hO b hb with h' | h'
    · exact .inr (Nat.le_trans h.grow.size (hv b h'))
    · exact h.own b h'
  · rw [hlk] at h1
    by_cases e : j = .l i
    · subst e; rw [h.loc i] at h0; cases h0
    · rw [if_neg e] at h1
      have hj : (Zah L j).isSome = true := by
        by_cases e' : j = k
        · rw [e', hl]; rfl
        · rw [if_neg e'] at h1; simpa using h1
      simp [updI, e, h.keep j h0 hj]
  · refine E.mono w w' (fun b hb => hG.block b (Nat.lt_of_lt_of_le (h.envb b hb).1 h.grow.size) (fun ho => ?_)) h.env
    rcases h.own b ho.own with h' | h'
    · exact (h.envb b hb).2 h'
    · have := (h.envb b hb).1; omega
  · rw [List.getElem?_map, Option.map_eq_some_iff] at hx
    obtain ⟨y, hy, rfl⟩ := hx
    obtain ⟨u, hu, hr⟩ := hf.2 i' y hy
    exact ⟨u, hu, (hr.kill (k := .l i) (v := v)).mono hk⟩
end
end Go.Proofs.YtpddiepfolfnoaaDoor
