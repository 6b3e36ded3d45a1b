
/- Own texts, put together: A30 A31. -/
import Derived.Test.YthfpehmbellmcaaDoorZ3
/- Calls walked in place: the callee's body is reckoned with the caller's objects (under new names), then goes on with the caller. No program in sight. -/
namespace Go.Proofs.YthfpehmbellmcaaDoor
set_option linter.unusedVariables false
set_option linter.unusedSimpArgs false
set_option linter.defProp false

def renKs (f : Key → Option Key) : List Key → Option (List Key)
  | [] => some []
  | k :: r => match f k with
    | some k' => (renKs f r).map (k' :: ·)
    | none => none
def renCs (f : Key → Option Key) : List CV → Option (List CV)
  | [] => some []
  | .p p :: r => (renCs f r).map (.p p :: ·)
  | .row k :: r => match f k with
    | some k' => (renCs f r).map (.row k' :: ·)
    | none => none
  | .mp k :: r => match f k with
    | some k' => (renCs f r).map (.mp k' :: ·)
    | none => none
def AV.ren (f : Key → Option Key) : AV → AV
  | .p x => .p x
  | .row k => match f k with | some k' => .row k' | none => .any
  | .adr k o => match f k with | some k' => .adr k' o | none => .any
  | .rad k z i o => match f k with | some k' => .rad k' z i o | none => .any
  | .ipt z es i o => .ipt z es i o
  | .mp k => match f k with | some k' => .mp k' | none => .any
  | .fn fi ks => match renKs f ks with | some ks' => .fn fi ks' | none => .any
  | .g c a => .g c (a.ren f)
  | .ag cs => match renCs f cs with | some cs' => .ag cs' | none => .any
  | .any => .any
def AO.ren (f : Key → Option Key) : AO → AO
  | .box cs t => .box (cs.map (·.ren f)) t
  | .row es e z ap => .row es e z ap
  | .map kv a b => .map kv a b
  | .rowv es e z => .rowv (es.map (·.map (·.ren f))) e z
  | .mapv kv a b => .mapv (kv.map fun p => (p.1, p.2.ren f)) a b
  | .mit last kv => .mit last kv
def mapO (f : Key → Option Key) : Objs → Objs
  | [] => []
  | (k, a) :: r => match f k with
    | some k' => (k', a.ren f) :: mapO f r
    | none => mapO f r

section
variable {w w' : World} {U : Nat → Prop} {ι ι' : Key → Value} {f : Key → Option Key}
theorem renKs_map (hf : ∀ k k', f k = some k' → ι' k' = ι k) : ∀ {ks ks' : List Key}, renKs f ks = some ks' → ks'.map ι' = ks.map ι
  | [], ks', h => by simp only [renKs, Option.some.injEq] at h; subst h; rfl
  | k :: r, ks', h => by
    simp only [renKs] at h
    split at h
    · rename_i k' e
      obtain ⟨r', h1, rfl⟩ := Option.map_eq_some_iff.1 h
      simp only [List.map_cons, renKs_map hf h1, hf k k' e]
    · cases h
theorem renCs_get (hf : ∀ k k', f k = some k' → ι' k' = ι k) : ∀ {cs cs' : List CV}, renCs f cs = some cs' → cs'.length = cs.length ∧ ∀ (j : Nat) (x' : CV), cs'[j]? = some x' → ∃ x, cs[j]? = some x ∧ ∀ w U v, CRep w U ι x v → CRep w U ι' x' v
  | [], cs', h => by simp only [renCs, Option.some.injEq] at h; subst h; simp
  | .p p :: r, cs', h => by
    simp only [renCs] at h
    obtain ⟨r', h1, rfl⟩ := Option.map_eq_some_iff.1 h
    obtain ⟨g1, g2⟩ := renCs_get hf h1
    refine ⟨by simp [g1], fun j x' hx => ?_⟩
    cases j with
    | zero => simp at hx; subst hx; exact ⟨_, rfl, fun w U v h => h⟩
    | succ j => simp at hx; simpa using g2 j x' hx
  | .row k :: r, cs', h => by
    simp only [renCs] at h
    split at h
    · rename_i k' e
      obtain ⟨r', h1, rfl⟩ := Option.map_eq_some_iff.1 h
      obtain ⟨g1, g2⟩ := renCs_get hf h1
      refine ⟨by simp [g1], fun j x' hx => ?_⟩
      cases j with
      | zero => simp at hx; subst hx; exact ⟨_, rfl, fun w U v h => by simp only [CRep] at h ⊢; rw [hf k k' e]; exact h⟩
      | succ j => simp at hx; simpa using g2 j x' hx
    · cases h
  | .mp k :: r, cs', h => by
    simp only [renCs] at h
    split at h
    · rename_i k' e
      obtain ⟨r', h1, rfl⟩ := Option.map_eq_some_iff.1 h
      obtain ⟨g1, g2⟩ := renCs_get hf h1
      refine ⟨by simp [g1], fun j x' hx => ?_⟩
      cases j with
      | zero => simp at hx; subst hx; exact ⟨_, rfl, fun w U v h => by simp only [CRep] at h ⊢; rw [hf k k' e]; exact h⟩
      | succ j => simp at hx; simpa using g2 j x' hx
    · cases h
theorem ARep.ren (hf : ∀ k k', f k = some k' → ι' k' = ι k) : ∀ {a : AV} {u : Value}, ARep w U ι a u → ARep w U ι' (a.ren f) u
  | .p x, u, h => h
  | .row k, u, h => by
    simp only [AV.ren]; split
    · rename_i k' e; simpa [ARep, hf k k' e] using h
    · trivial
  | .adr k o, u, h => by
    simp only [AV.ren]; split
    · rename_i k' e; simpa [ARep, hf k k' e] using h
    · trivial
  | .rad k z i o, u, h => by
    simp only [AV.ren]; split
    · rename_i k' e; simpa [ARep, hf k k' e] using h
    · trivial
  | .ipt z es i o, u, h => h
  | .mp k, u, h => by
    simp only [AV.ren]; split
    · rename_i k' e; simpa [ARep, hf k k' e] using h
    · trivial
  | .fn fi ks, u, h => by
    simp only [AV.ren]; split
    · rename_i ks' e
      simp only [ARep] at h ⊢
      rw [h, renKs_map hf e]
    · trivial
  | .g c a, u, h => ⟨fun hc => ARep.ren hf (a := a) (h.1 hc), h.2⟩
  | .ag cs, u, h => by
    simp only [AV.ren]; split
    · rename_i cs' e
      obtain ⟨vs, e0, hl, hr⟩ := h
      obtain ⟨g1, g2⟩ := renCs_get hf e
      refine ⟨vs, e0, by rw [hl, g1], fun j x' hx => ?_⟩
      obtain ⟨x, hx1, hx2⟩ := g2 j x' hx
      obtain ⟨v, h1, h2, h3⟩ := hr j x hx1
      exact ⟨v, h1, h2, hx2 _ _ _ h3⟩
    · trivial
  | .any, u, h => trivial
theorem AO.ren_mapA (a : AO) : a.ren f = a.mapA (AV.ren f) := by cases a <;> rfl
theorem ObjOk.ren (hf : ∀ k k', f k = some k' → ι' k' = ι k) {k k' : Key} (hk : ι' k' = ι k) {a : AO} (h : ObjOk w U ι k a) : ObjOk w U ι' k' (a.ren f) := by
  rw [AO.ren_mapA]
  exact h.conv _ hk (fun _ _ => rfl) (fun b _ hu => ⟨rfl, hu⟩) (fun hr => hr.ren hf)
theorem ObjOk.keeps {U' : Nat → Prop} (hk : Keeps w w U U') {k : Key} {a : AO} (h : ObjOk w U ι k a) : ObjOk w U' ι k a := h.mono hk (fun _ _ => rfl)
theorem look_mapO (hi : ∀ k1 k2 k, f k1 = some k → f k2 = some k → k1 = k2) {k : Key} {a : AO} : ∀ {L : Objs}, Zas (mapO f L) k = some a → ∃ k' a', Zas L k' = some a' ∧ f k' = some k ∧ a = a'.ren f
  | [], h => by simp [mapO, Zas] at h
  | (k1, a1) :: r, h => by
    simp only [mapO] at h
    split at h
    · rename_i q e
      simp only [Zas] at h
      split at h
      · rename_i hq
        cases h
        exact ⟨k1, a1, by simp [Zas], by rw [e, hq], rfl⟩
      · rename_i hq
        obtain ⟨k', a', h1, h2, h3⟩ := look_mapO hi h
        refine ⟨k', a', ?_, h2, h3⟩
        simp only [Zas]
        rw [if_neg (fun ek => hq (by rw [ek] at e; rw [h2] at e; cases e; rfl))]
        exact h1
    · rename_i e
      obtain ⟨k', a', h1, h2, h3⟩ := look_mapO hi h
      refine ⟨k', a', ?_, h2, h3⟩
      simp only [Zas]
      rw [if_neg (fun ek => by rw [ek, h2] at e; cases e)]
      exact h1
end

section
variable {P : Program} {E : Envt}
variable {L : Objs} {fr : List AV} {d : Option Nat} {is : List IOper} {Y : List PV} {K : List AV → Objs → Prop}
end
end Go.Proofs.YthfpehmbellmcaaDoor

/- The state told in other words: an object under another name, a plain row as one whose cells may be rows, and back. No program in sight. -/
namespace Go.Proofs.YthfpehmbellmcaaDoor
set_option linter.unusedVariables false
set_option linter.unusedSimpArgs false
set_option linter.defProp false

/-- One name for another. -/
def r1 (d q : Nat) (k : Key) : Option Key := if k = .l d then some (.l q) else if k = .l q then none else some k
theorem r1_inj {d q : Nat} : ∀ k1 k2 k, r1 d q k1 = some k → r1 d q k2 = some k → k1 = k2 := by
  intro k1 k2 k h1 h2
  unfold r1 at h1 h2
  split at h1
  · cases h1
    split at h2
    · rename_i e1 e2; rw [e1, e2]
    · split at h2
      · cases h2
      · cases h2; rename_i e1 e2 e3; exact absurd rfl e3
  · split at h1
    · cases h1
    · cases h1
      split at h2
      · cases h2; exact absurd rfl ‹¬ Key.l q = Key.l q›
      · split at h2
        · cases h2
        · cases h2; rfl
section
variable {E : Envt} {B : Base} {w : World} {L : Objs} {ι : Key → Value} {fr : List AV} {a : Act}
theorem look_ren1 (d q : Nat) : ∀ {L : Objs} (k : Key), Zas (mapO (r1 d q) L) k = if k = .l q then (Zas L (.l d)).map (AO.ren (r1 d q)) else if k = .l d then none else (Zas L k).map (AO.ren (r1 d q))
  | [], k => by simp [mapO, Zas]
  | (k1, a1) :: r, k => by
    have ih := look_ren1 d q (L := r) k
    by_cases hdq : d = q
    · subst hdq
      simp only [mapO, r1]
      by_cases h1 : k1 = .l d
      · subst h1
        simp only [if_true, Zas]
        by_cases h2 : k = .l d
        · subst h2; simp
        · rw [if_neg (Ne.symm h2), ih, if_neg h2, if_neg h2, if_neg h2, if_neg h2, if_neg (Ne.symm h2)]
      · simp only [if_neg h1, Zas]
        by_cases h2 : k1 = k
        · subst h2; simp [h1]
        · rw [if_neg h2, ih, if_neg h2]
    have hne : ¬ Key.l d = Key.l q := fun e => hdq (by cases e; rfl)
    simp only [mapO, r1]
    by_cases h1 : k1 = .l d
    · subst h1
      simp only [if_true, Zas]
      by_cases h2 : k = .l q
      · subst h2; simp
      · rw [if_neg (Ne.symm h2), ih, if_neg h2, if_neg h2]
        by_cases h3 : k = .l d
        · simp [h3]
        · rw [if_neg h3, if_neg h3, if_neg (Ne.symm h3)]
    · by_cases h2 : k1 = .l q
      · subst h2
        simp only [if_neg h1, if_true]
        rw [ih]
        simp only [Zas]
        by_cases h3 : k = .l q
        · subst h3; simp [Ne.symm hne]
        · rw [if_neg h3, if_neg h3, if_neg (Ne.symm h3)]
      · simp only [if_neg h1, if_neg h2, Zas]
        by_cases h3 : k1 = k
        · subst h3; simp [h1, h2]
        · rw [if_neg h3, ih, if_neg h3]
theorem StF.ren1 (hs : StF E B w L ι fr a) (d q : Nat) : ∃ ι', StF E B w (mapO (r1 d q) L) ι' (fr.map (·.ren (r1 d q))) a := by
  obtain ⟨h, hf, hd⟩ := hs
  let ι' : Key → Value := fun k => if k = .l q then ι (.l d) else ι k
  have hi : ∀ k k', r1 d q k = some k' → ι' k' = ι k := by
    intro k k' hk
    unfold r1 at hk
    split at hk
    · rename_i e; cases hk; subst e; simp [ι']
    · split at hk
      · cases hk
      · rename_i e1 e2; cases hk; simp [ι', e2]
  have hlk : ∀ {k : Key} {ao : AO}, Zas (mapO (r1 d q) L) k = some ao → ∃ k' ao', Zas L k' = some ao' ∧ r1 d q k' = some k ∧ ao = ao'.ren (r1 d q) := fun hl => look_mapO r1_inj hl
  have hO : ∀ b, Own (mapO (r1 d q) L) ι' b → Own L ι b := by
    rintro b ⟨k, ao, h1, h2⟩
    obtain ⟨k', ao', g1, g2, _⟩ := hlk h1
    exact ⟨k', ao', g1, by rw [← hi k' k g2]; exact h2⟩
  have hk : Keeps w w (fun b => Own L ι b ∨ B.X b) (fun b => Own (mapO (r1 d q) L) ι' b ∨ B.X b) := fun b _ hu => ⟨rfl, fun h => hu (h.imp (hO b) id)⟩
  refine ⟨ι', ⟨h.grow, ⟨fun k ao hl => ?_, fun k k' ao ao' b h1 h2 h3 h4 => ?_⟩, fun b hb => h.own b (hO b hb), h.xlt, fun k h0 h1 => ?_, h.env, h.envb, h.loc, h.xdis⟩, ⟨by simpa using hf.1, fun i x hx => ?_⟩, hd⟩
  · obtain ⟨k', ao', g1, g2, rfl⟩ := hlk hl
    exact ((h.sim.obj k' ao' g1).ren hi (hi k' k g2)).keeps hk
  · obtain ⟨j, _, g1, g2, _⟩ := hlk h1
    obtain ⟨j', _, g3, g4, _⟩ := hlk h2
    have := h.sim.inj j j' _ _ b g1 g3 (by rw [← hi j k g2]; exact h3) (by rw [← hi j' k' g4]; exact h4)
    subst this
    rw [g2] at g4
    cases g4
    rfl
  · obtain ⟨ao, hao⟩ := Option.isSome_iff_exists.1 h1
    obtain ⟨k', ao', g1, g2, _⟩ := hlk hao
    have : k' = k := by
      unfold r1 at g2
      split at g2
      · cases g2; rw [h.loc q] at h0; cases h0
      · split at g2
        · cases g2
        · cases g2; rfl
    subst this
    rw [hi k' k' g2]
    exact h.keep k' h0 (by rw [g1]; rfl)
  · rw [List.getElem?_map, Option.map_eq_some_iff] at hx
    obtain ⟨y, hy, rfl⟩ := hx
    obtain ⟨u, hu, hr⟩ := hf.2 i y hy
    exact ⟨u, hu, (hr.ren hi).mono hk⟩
/-- Slots are forgotten. -/
theorem re_le {fr' : List AV} (h : Zb fr fr') : ReOk E fr L fr' L := fun B w ι a hs => by
  obtain ⟨g1, g2⟩ := h.get
  refine ⟨ι, hs.1, ⟨by rw [hs.2.1.1, g1], fun i y hy => ?_⟩, hs.2.2⟩
  obtain ⟨x, hx, hxy⟩ := g2 i y hy
  obtain ⟨v, hv, hr⟩ := hs.2.1.2 i x hx
  exact ⟨v, hv, hxy.rep hr⟩
/-- An object under another name. -/
theorem re_ren (d q : Nat) : ReOk E fr L (fr.map (·.ren (r1 d q))) (mapO (r1 d q) L) := fun B w ι a hs => hs.ren1 d q
/-- A plain row as one whose cells may be rows. -/
theorem re_rowv {k : Key} {es : List (List PV)} {e z : Nat} (hl : Zas L k = some (.row es e z true)) : ReOk E fr L fr (Zat L k (.rowv (es.map (·.map .p)) e z)) := fun B w ι a hs => ⟨ι, hs.retell k _ _ hl fun U h => by
  obtain ⟨vs, h1, h2, h3, h4⟩ := h
  refine ⟨vs, by simpa using h1, h2, fun x hx => ?_, fun j x hx => ?_⟩
  · obtain ⟨y, hy, rfl⟩ := List.mem_map.1 hx
    simpa using h4 y hy
  · rw [← List.map_flatten, List.getElem?_map, Option.map_eq_some_iff] at hx
    obtain ⟨y, hy, rfl⟩ := hx
    exact h3.get hy⟩
/-- And back. -/
theorem re_plain {k : Key} {es : List (List AV)} {es' : List (List PV)} {e z : Nat} (hl : Zas L k = some (.rowv es e z)) (hp : Zbb es = some es') : ReOk E fr L fr (Zat L k (.row es' e z true)) := fun B w ι a hs => ⟨ι, hs.retell k _ _ hl fun U h => h.plain hp⟩
/-- A row is given up. -/
theorem re_row {k : Key} {es : List (List PV)} {e z : Nat} {ap : Bool} (hl : Zas L k = some (.row es e z ap)) : ReOk E fr L (fr.map (·.thaw k (.sl z es))) (Zaw k (.sl z es) L) := fun B w ι a hs => ⟨ι, hs.thaw hl⟩
end
/-- A fresh row as a plain result. -/
theorem plainR {P : Program} {E : Envt} {f : FuncId} {args : List PV} {e z : Nat} {es : List (List PV)} (h : FCall P E f args e z (· = es)) : PCall P E f args (· = .sl z es) := by
  intro w U vs hU hE hEb hA
  refine (pcall_of_fresh h w U vs hU hE hEb hA).mono ?_
  rintro e' w' ⟨v, x, h1, ⟨es', rfl, rfl⟩, h2⟩
  exact ⟨v, _, h1, rfl, h2⟩
end Go.Proofs.YthfpehmbellmcaaDoor
