/- The state of a call in abstract words: owned objects, what stays, and the rules of control flow. -/
import Derived.Test.YtpddiepfolfnoaaDoorA1
namespace Go.Proofs.YtpddiepfolfnoaaDoor
set_option linter.unusedVariables false
set_option linter.unusedSimpArgs false
set_option linter.defProp false

structure Grow (w w' : World) (O : Nat → Prop) : Prop where
  os : w'.os = w.os
  tape : w'.tape = w.tape
  output : w'.output = w.output
  size : w.heap.size ≤ w'.heap.size
  block : ∀ b, b < w.heap.size → ¬ O b → w'.heap[b]? = w.heap[b]?

theorem Grow.refl (w : World) (O : Nat → Prop) : Grow w w O := ⟨rfl, rfl, rfl, Nat.le_refl _, fun _ _ _ => rfl⟩
theorem Grow.trans {w w1 w2 : World} {O O1 : Nat → Prop} (h : Grow w w1 O) (k : Grow w1 w2 O1) (ho : ∀ b, O1 b → O b ∨ w.heap.size ≤ b) : Grow w w2 O :=
  ⟨k.os.trans h.os, k.tape.trans h.tape, k.output.trans h.output, Nat.le_trans h.size k.size, fun b hb hn =>
    (k.block b (Nat.lt_of_lt_of_le hb h.size) (fun e => by rcases ho b e with h' | h'; exact hn h'; omega)).trans (h.block b hb hn)⟩
theorem Grow.drew {w w' : World} {O : Nat → Prop} (h : Grow w w' O) : Grow w w'.drew O := ⟨h.os, h.tape, h.output, h.size, h.block⟩
theorem Grow.of_drew {w w' : World} {O : Nat → Prop} (h : Grow w.drew w' O) : Grow w w' O := ⟨h.os, h.tape, h.output, h.size, h.block⟩

abbrev Objs := List (Key × AO)
def Zah : Objs → Key → Option AO
  | [], _ => none
  | (k', a) :: r, k => if k' = k then some a else Zah r k
def Zai : Objs → Key → AO → Objs
  | [], k, a => [(k, a)]
  | (k', a') :: r, k, a => if k' = k then (k', a) :: r else (k', a') :: Zai r k a
def delO : Objs → Key → Objs
  | [], _ => []
  | (k', a) :: r, k => if k' = k then delO r k else (k', a) :: delO r k
def AO.kill (k : Key) : AO → AO
  | .box cs t => .box (cs.map (·.kill k)) t
  | .row es e z ap => .row es e z ap
  | .map kv a b => .map kv a b
def Zaj (k : Key) : Objs → Objs
  | [] => []
  | (k', a) :: r => (k', a.kill k) :: Zaj k r

theorem look_putO (L : Objs) (k : Key) (a : AO) (j : Key) : Zah (Zai L k a) j = if j = k then some a else Zah L j := by
  induction L with
  | nil => simp only [Zai, Zah]; split <;> rename_i h <;> simp_all [eq_comm]
  | cons x r ih =>
    obtain ⟨k', a'⟩ := x
    simp only [Zai]
    by_cases h : k' = k
    · subst h; simp only [if_true, Zah]; by_cases hj : k' = j <;> simp_all [eq_comm]
    · simp only [if_neg h, Zah, ih]
      by_cases hj : k' = j
      · subst hj; simp [h]
      · simp [hj]
theorem look_delO (L : Objs) (k : Key) (j : Key) : Zah (delO L k) j = if j = k then none else Zah L j := by
  induction L with
  | nil => simp [delO, Zah]
  | cons x r ih =>
    obtain ⟨k', a'⟩ := x
    simp only [delO]
    by_cases h : k' = k
    · subst h; simp only [if_true, ih, Zah]; by_cases hj : j = k' <;> simp_all [eq_comm]
    · simp only [if_neg h, Zah, ih]
      by_cases hj : k' = j
      · subst hj; simp [h]
      · simp [hj]
theorem look_killO (k : Key) (L : Objs) (j : Key) : Zah (Zaj k L) j = (Zah L j).map (AO.kill k) := by
  induction L with
  | nil => rfl
  | cons x r ih => obtain ⟨k', a'⟩ := x; simp only [Zaj, Zah, ih]; split <;> rfl

/-- The blocks that the objects own. -/
def Own (L : Objs) (ι : Key → Value) (b : Nat) : Prop := ∃ k a, Zah L k = some a ∧ blk (ι k) = some b

def MapRep (w : World) (U : Nat → Prop) (kv : List (List UInt8 × PV)) (ents : List MapEntry) : Prop :=
  (ents.map (·.key) = kv.map fun p => .string ⟨p.1.toArray⟩) ∧ PRepL w U (kv.map (·.2)) (ents.map (·.val))

/-- A slice value v of n elements that owns its row: its cells are xs; ap: it may be appended to. -/
def RowOk (w : World) (e : TypeId) (z : Nat) (ap : Bool) (v : Value) (n : Nat) (xs : List Value) : Prop :=
  xs.length = n * z ∧ ((v = .slice none 0 0 ∧ n = 0) ∨ ∃ (g cap : Nat) (cur : Array Value) (fz : Nat × Nat), v = .slice (some ⟨g, 0, none⟩) n cap ∧ w.heap[g]? = some (.cells cur e fz) ∧ n ≤ cap ∧ cap ≤ maxLen ∧ cur.size = cap * z ∧ cur.toList.take (n * z) = xs ∧ (fz = (0, 0) ∨ (ap = false ∧ cur.size ≤ fz.1)))

theorem RowOk.cells {w : World} {e : TypeId} {z : Nat} {ap : Bool} {v : Value} {n : Nat} {xs : List Value} (h : RowOk w e z ap v n xs) {g m c : Nat} (hv : v = .slice (some ⟨g, 0, none⟩) m c) : ∀ (j : Nat) (u : Value), xs[j]? = some u → w.cell? ⟨g, j, none⟩ = some u := by
  intro j u hu
  rcases h.2 with ⟨rfl, _⟩ | ⟨g', cap, cur, fz, rfl, hg, _, _, _, htake, _⟩
  · cases hv
  · cases hv
    rw [cell_of_row w g j cur e fz hg]
    rw [← htake, List.getElem?_take] at hu
    split at hu
    · simpa using hu
    · cases hu
theorem RowOk.owns {w : World} {e : TypeId} {z : Nat} {v : Value} {n : Nat} {xs : List Value} (h : RowOk w e z true v n xs) : w.ownsRow 0 e z v n xs := by
  refine ⟨h.1, ?_⟩
  rcases h.2 with h' | ⟨g, cap, cur, fz, h1, h2, h3, h4, h5, h6, h7⟩
  · exact .inl h'
  · rcases h7 with rfl | ⟨h7, _⟩
    · exact .inr ⟨g, cap, cur, h1, Nat.zero_le _, h2, h3, h4, h5, h6⟩
    · cases h7
theorem RowOk.of_owns {w : World} {e : TypeId} {z : Nat} {v : Value} {n b : Nat} {xs : List Value} (h : w.ownsRow b e z v n xs) : RowOk w e z true v n xs := by
  refine ⟨h.1, ?_⟩
  rcases h.2 with h' | ⟨g, cap, cur, h1, h0, h2, h3, h4, h5, h6⟩
  · exact .inl h'
  · exact .inr ⟨g, cap, cur, (0, 0), h1, h2, h3, h4, h5, h6, .inl rfl⟩

def ObjOk (w : World) (U : Nat → Prop) (ι : Key → Value) (k : Key) : AO → Prop
  | .box cs t => ∃ (b : Nat) (vs : List Value), ι k = .pointer (some ⟨b, 0, none⟩) ∧ w.heap[b]? = some (.cells vs.toArray t (0, 0)) ∧ vs.length = cs.length ∧ (∀ v ∈ vs, v.oneCell' = true) ∧ ∀ (j : Nat) (a : AV), cs[j]? = some a → ∃ v, vs[j]? = some v ∧ ARep w U ι a v
  | .row es e z ap => ∃ vs : List Value, RowOk w e z ap (ι k) es.length vs ∧ (∀ v ∈ vs, v.oneCell' = true) ∧ PRepL w U es.flatten vs ∧ ∀ x ∈ es, x.length = z
  | .map kv kt et => ∃ r ents clock, ι k = .map (some r) ∧ w.heap[r]? = some (.map ents clock) ∧ MapRep w U kv ents.toList

structure Sim (w : World) (X : Nat → Prop) (L : Objs) (ι : Key → Value) : Prop where
  obj : ∀ k a, Zah L k = some a → ObjOk w (fun b => Own L ι b ∨ X b) ι k a
  inj : ∀ k k' a a' b, Zah L k = some a → Zah L k' = some a' → blk (ι k) = some b → blk (ι k') = some b → k = k'

/-- Library variables that a program's functions read. -/
structure Envt where
  ok : World → Prop
  bl : Nat → Prop
  mono : ∀ w w' : World, (∀ b, bl b → w'.heap[b]? = w.heap[b]?) → ok w → ok w'

structure Base where
  w0 : World
  X : Nat → Prop
  L0 : Objs
  i0 : Key → Value

structure St (E : Envt) (B : Base) (w : World) (L : Objs) (ι : Key → Value) : Prop where
  grow : Grow B.w0 w (Own B.L0 B.i0)
  sim : Sim w B.X L ι
  own : ∀ b, Own L ι b → Own B.L0 B.i0 b ∨ B.w0.heap.size ≤ b
  xlt : ∀ b, B.X b → b < B.w0.heap.size
  keep : ∀ k, (Zah B.L0 k).isSome = true → (Zah L k).isSome = true → ι k = B.i0 k
  env : E.ok w
  envb : ∀ b, E.bl b → b < B.w0.heap.size ∧ ¬ Own B.L0 B.i0 b
  loc : ∀ i, Zah B.L0 (.l i) = none
  xdis : ∀ b, B.X b → ¬ Own B.L0 B.i0 b

def FRep (w : World) (U : Nat → Prop) (ι : Key → Value) (fr : List AV) (a : Act) : Prop :=
  a.tmps.size = fr.length ∧ ∀ (i : Nat) (x : AV), fr[i]? = some x → ∃ v, a.tmps[i]? = some v ∧ ARep w U ι x v

def StF (E : Envt) (B : Base) (w : World) (L : Objs) (ι : Key → Value) (fr : List AV) (a : Act) : Prop :=
  St E B w L ι ∧ FRep w (fun b => Own L ι b ∨ B.X b) ι fr a ∧ a.defers = []

abbrev AQ := Exit → List AV → Objs → Prop

def AQ.conc (E : Envt) (B : Base) (Q : AQ) (e : Exit) (a : Act) (w : World) : Prop := ∃ fr L ι, Q e fr L ∧ StF E B w L ι fr a

def AWp (P : Program) (E : Envt) (c : Code) (fr : List AV) (L : Objs) (Q : AQ) : Prop :=
  ∀ B w ι a, StF E B w L ι fr a → c.wp P (Q.conc E B) a w

def ARepL (w : World) (U : Nat → Prop) (ι : Key → Value) : List AV → List Value → Prop
  | [], vs => vs = []
  | a :: as, vs => ∃ v r, vs = v :: r ∧ ARep w U ι a v ∧ ARepL w U ι as r

structure Back (E : Envt) (w : World) (X : Nat → Prop) (L : Objs) (ι : Key → Value) (w' : World) (L' : Objs) (ι' : Key → Value) : Prop where
  sim : Sim w' X L' ι'
  grow : Grow w w' (Own L ι)
  own : ∀ b, Own L' ι' b → Own L ι b ∨ w.heap.size ≤ b
  keep : ∀ k, (Zah L k).isSome = true → (Zah L' k).isSome = true → ι' k = ι k
  news : ∀ k, (Zah L' k).isSome = true → (Zah L k).isSome = true ∨ ∃ i, k = .l i

/-- A call that changes no owned object: new blocks alone. -/
def PureC (P : Program) (E : Envt) (f : FuncId) (args : List AV) (L : Objs) (φ : PV → Prop) : Prop :=
  ∀ w X ι vs, Sim w X L ι → (∀ b, X b → b < w.heap.size ∧ ¬ Own L ι b) → E.ok w → (∀ b, E.bl b → b < w.heap.size ∧ ¬ Own L ι b) → ARepL w (fun b => Own L ι b ∨ X b) ι args vs →
    Calls P f vs.toArray w fun e w' => ∃ v x, e = .returned v ∧ φ x ∧ PRep w' (fun b => Own L ι b ∨ X b) x v ∧ Grow w w' (fun _ => False)

/-- The same, of plain arguments and no objects: a function's contract. -/
def PCall (P : Program) (E : Envt) (f : FuncId) (args : List PV) (φ : PV → Prop) : Prop :=
  ∀ w U vs, (∀ b, U b → b < w.heap.size) → E.ok w → (∀ b, E.bl b → b < w.heap.size) → PRepL w U args vs →
    Calls P f vs.toArray w fun e w' => ∃ v x, e = .returned v ∧ φ x ∧ PRep w' U x v ∧ Grow w w' (fun _ => False)

def Call (P : Program) (E : Envt) (f : FuncId) (args : List AV) (L : Objs) (K : AV → Objs → Prop) : Prop :=
  ∀ w X ι vs, Sim w X L ι → (∀ b, X b → b < w.heap.size ∧ ¬ Own L ι b) → E.ok w → (∀ b, E.bl b → b < w.heap.size ∧ ¬ Own L ι b) → ARepL w (fun b => Own L ι b ∨ X b) ι args vs →
    Calls P f vs.toArray w fun e w' => ∃ v r L' ι', e = .returned v ∧ K r L' ∧ ARep w' (fun b => Own L' ι' b ∨ X b) ι' r v ∧ Back E w X L ι w' L' ι'

section
variable {P : Program} {E : Envt} {fr : List AV} {L : Objs} {Q Q' : AQ}

theorem AWp.mono {c : Code} (h : AWp P E c fr L Q) (hq : ∀ e fr L, Q e fr L → Q' e fr L) : AWp P E c fr L Q' :=
  fun B w ι a hs => wp_mono (h B w ι a hs) fun e a w ⟨fr, L, ι, q, s⟩ => ⟨fr, L, ι, hq e fr L q, s⟩
theorem AWp.skip (h : Q .normal fr L) : AWp P E .skip fr L Q := fun B w ι a hs => wp_skip ⟨fr, L, ι, h, hs⟩
theorem AWp.exit {id : Nat} (h : Q (.exit id) fr L) : AWp P E (.exit id) fr L Q := fun B w ι a hs => wp_exit ⟨fr, L, ι, h, hs⟩
theorem AWp.ret (h : Q .ret fr L) : AWp P E .ret fr L Q := fun B w ι a hs => wp_ret ⟨fr, L, ι, h, hs⟩
def thenQ (K : List AV → Objs → Prop) (Q : AQ) : AQ
  | .normal, fr, L => K fr L
  | e, fr, L => Q e fr L
theorem AWp.seq {x y : Code} (h : AWp P E x fr L (thenQ (fun fr L => AWp P E y fr L Q) Q)) : AWp P E (.seq x y) fr L Q := by
  intro B w ι a hs
  refine wp_seq (wp_mono (h B w ι a hs) ?_)
  rintro e a' w' ⟨fr', L', ι', q, s⟩
  cases e <;> first | exact q B w' ι' a' s | exact ⟨fr', L', ι', q, s⟩
def blockQ (id : Nat) (Q : AQ) : AQ
  | .exit j, fr, L => if j = id then Q .normal fr L else Q (.exit j) fr L
  | e, fr, L => Q e fr L
theorem AWp.block {id : Nat} {c : Code} (h : AWp P E c fr L (blockQ id Q)) : AWp P E (.block id c) fr L Q := by
  intro B w ι a hs
  refine wp_block (wp_mono (h B w ι a hs) ?_)
  rintro e a' w' ⟨fr', L', ι', q, s⟩
  cases e with
  | exit j =>
    simp only [blockQ] at q
    simp only [Exit.inBlock]
    split at q
    · rename_i hj; rw [if_pos hj]; exact ⟨fr', L', ι', q, s⟩
    · rename_i hj; rw [if_neg hj]; exact ⟨fr', L', ι', q, s⟩
  | _ => exact ⟨fr', L', ι', q, s⟩

theorem wp_loop_rel {c : Code} {R : Exit → Act → World → Prop} (I : Nat → Act → World → Prop) (round : ∀ n a w, I n a w → c.wp P (Exit.then (fun a' w' => ∃ m, m < n ∧ I m a' w') R) a w) :
    ∀ n a w, I n a w → (Code.loop c).wp P R a w := by
  intro n a w hI b k cs
  have key : ∀ n a w, I n a w → ∃ e a' w', R e a' w' ∧ Arrives P (lone (b.at a (.code c :: .inLoop c :: k)) cs w) b k cs e a' w' := by
    intro n
    induction n using Nat.strongRecOn with
    | _ n ih =>
      intro a w hI
      obtain ⟨e, a₁, w₁, hq, harr⟩ := round n a w hI b (.inLoop c :: k) cs
      cases e with
      | normal =>
        obtain ⟨m, hlt, hI₁⟩ := hq
        obtain ⟨e₂, a₂, w₂, hq₂, harr₂⟩ := ih m hlt a₁ w₁ hI₁
        exact ⟨e₂, a₂, w₂, hq₂, .of_steps (Steps.trans harr (.one step_inLoop)) harr₂⟩
      | exit id => exact ⟨_, a₁, w₁, hq, .pass (x := .inLoop c) rfl (fun _ _ => .inl (by simp)) harr⟩
      | goto l => exact ⟨_, a₁, w₁, hq, .pass (x := .inLoop c) rfl (fun _ _ => .inl (by simp)) harr⟩
      | ret => exact ⟨_, a₁, w₁, hq, .pass (x := .inLoop c) rfl (fun _ _ => .inl (by simp)) harr⟩
      | panic ch => exact ⟨_, a₁, w₁, hq, .pass (x := .inLoop c) rfl (fun _ _ => .inl (by simp)) harr⟩
      | outgrown => exact ⟨_, a₁, w₁, hq, .pass (x := .inLoop c) rfl (fun _ _ => .inl (by simp)) harr⟩
  obtain ⟨e, a', w', hq, harr⟩ := key n a w hI
  exact ⟨e, a', w', hq, .of_steps (.one step_loop) harr⟩

theorem AWp.loop {c : Code} (I : Nat → List AV → Objs → Prop) (round : ∀ n fr L, I n fr L → AWp P E c fr L (thenQ (fun fr' L' => ∃ m, m < n ∧ I m fr' L') Q)) (n : Nat) (h0 : I n fr L) : AWp P E (.loop c) fr L Q := by
  intro B w ι a hs
  refine wp_loop_rel (fun n a w => ∃ fr L ι, I n fr L ∧ StF E B w L ι fr a) ?_ n a w ⟨fr, L, ι, h0, hs⟩
  rintro n a w ⟨fr, L, ι, hI, hs⟩
  refine wp_mono (round n fr L hI B w ι a hs) ?_
  rintro e a' w' ⟨fr', L', ι', q, s⟩
  cases e with
  | normal => obtain ⟨m, hm, hi⟩ := q; exact ⟨m, hm, fr', L', ι', hi, s⟩
  | _ => exact ⟨fr', L', ι', q, s⟩

theorem FRep.eval {w : World} {U : Nat → Prop} {ι : Key → Value} {a : Act} (h : FRep w U ι fr a) {t : Nat} {x : AV} (hx : fr[t]? = some x) : ARep w U ι x (a.eval (.tmp t)) := by
  obtain ⟨v, hv, hr⟩ := h.2 t x hx
  simpa [Act.eval, hv] using hr

theorem AWp.cond {c : Operand} {x y : Code} {b : Bool} (hc : ∀ B w ι a, StF E B w L ι fr a → a.eval c = .bool b) (h1 : b = true → AWp P E x fr L Q) (h2 : b = false → AWp P E y fr L Q) : AWp P E (.cond c x y) fr L Q := by
  intro B w ι a hs
  exact wp_cond_split (hc B w ι a hs) (fun e => h1 e B w ι a hs) (fun e => h2 e B w ι a hs)

theorem FRep.put {w : World} {U : Nat → Prop} {ι : Key → Value} {a : Act} (h : FRep w U ι fr a) (d : Nat) {r : AV} {v : Value} (hr : ARep w U ι r v) : FRep w U ι (fr.set d r) (a.put (some d) v) := by
  refine ⟨by simp [Act.put, h.1], fun i x hx => ?_⟩
  simp only [Act.put]
  by_cases hi : d = i
  · subst hi
    have hlt : d < fr.length := by
      rcases Nat.lt_or_ge d fr.length with h' | h'
      · exact h'
      · rw [List.getElem?_eq_none (by simpa using h')] at hx; cases hx
    rw [List.getElem?_set_self hlt] at hx
    cases hx
    exact ⟨v, by rw [Array.getElem?_setIfInBounds_self_of_lt (by rw [h.1]; exact hlt)], hr⟩
  · rw [List.getElem?_set_ne hi] at hx
    obtain ⟨u, hu, hr'⟩ := h.2 i x hx
    exact ⟨u, by rw [Array.getElem?_setIfInBounds_ne hi]; exact hu, hr'⟩
theorem FRep.mono {w w' : World} {U U' : Nat → Prop} {ι : Key → Value} {a : Act} (h : FRep w U ι fr a) (hk : Keeps w w' U U') : FRep w' U' ι fr a :=
  ⟨h.1, fun i x hx => let ⟨v, hv, hr⟩ := h.2 i x hx; ⟨v, hv, hr.mono hk⟩⟩
theorem FRep.kill {w : World} {U : Nat → Prop} {ι : Key → Value} {a : Act} (h : FRep w U ι fr a) (k : Key) (v : Value) : FRep w U (fun j => if j = k then v else ι j) (fr.map (·.kill k)) a := by
  refine ⟨by simpa using h.1, fun i x hx => ?_⟩
  rw [List.getElem?_map, Option.map_eq_some_iff] at hx
  obtain ⟨y, hy, rfl⟩ := hx
  obtain ⟨u, hu, hr⟩ := h.2 i y hy
  exact ⟨u, hu, hr.kill⟩
end
end Go.Proofs.YtpddiepfolfnoaaDoor
