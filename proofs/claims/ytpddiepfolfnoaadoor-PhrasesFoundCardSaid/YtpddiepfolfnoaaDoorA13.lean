/- Stores, appends, rows made: their meaning, and that it is right. -/
import Derived.Test.YtpddiepfolfnoaaDoorA12
namespace Go.Proofs.YtpddiepfolfnoaaDoor
set_option linter.unusedVariables false
set_option linter.unusedSimpArgs false
set_option linter.defProp false

def Zab (cs : List AV) (off : Nat) : List AV → List AV
  | [] => cs
  | x :: r => Zab (cs.set off x) (off + 1) r

section
variable {P : Program} {E : Envt} {B : Base} {w w' : World} {L : Objs} {ι : Key → Value} {fr : List AV} {a : Act} {X : Nat → Prop} {o : Oper} {U : Nat → Prop}

theorem run_storeF (g o : Nat) (t : TypeId) (fz : Nat × Nat) : ∀ (vs : List Value) (i : Nat) (cur : List Value) (w : World), w.heap[g]? = some (.cells cur.toArray t fz) → o + i + vs.length ≤ cur.length → (fz = (0, 0) ∨ cur.length ≤ fz.1) → (∀ v ∈ vs, v.oneCell' = true) →
    (storeCells ⟨g, o, none⟩ vs i).run P w = .ok () (w.setRow g (setVals cur (o + i) vs).toArray)
  | [], i, cur, w, hg, _, _, _ => by
    simp only [storeCells, setVals]
    rw [setRow_self w g cur.toArray t fz hg]
    rfl
  | v :: rest, i, cur, w, hg, hl, hz, h1 => by
    have hi : o + i < cur.length := by simp at hl; omega
    have hcell : w.cell? ⟨g, o + i, none⟩ = some cur[o + i] := by simp [World.cell?, hg, hi]
    have hfro : w.frozen? ⟨g, o + i, none⟩ = false := by
      rcases hz with rfl | hz
      · simp [World.frozen?, hg]
      · simp [World.frozen?, hg]; omega
    have hst : (store ((⟨g, o, none⟩ : Addr).add i) v).run P w = .ok () (w.setRow g (cur.set (o + i) v).toArray) := by
      rw [addr_addA, run_store P w _ v _ (h1 v (by simp)), hcell]
      simp [hfro, setCell_eq_setRow w g (o + i) cur.toArray t fz v hg]
    have ih := run_storeF g o t fz rest (i + 1) (cur.set (o + i) v) (w.setRow g (cur.set (o + i) v).toArray) (setRow_heap w g _ _ t _ hg) (by simp at hl ⊢; omega) (by simpa using hz) (fun x hx => h1 x (by simp [hx]))
    simp only [storeCells, Sem.run_bind, hst, Result.andThen_ok, ih, setRow_setRow, setVals]
    rw [show o + (i + 1) = o + i + 1 from by omega]

theorem grow_setRow {O : Nat → Prop} (w : World) (g : Nat) (cs : Array Value) (hg : O g) : Grow w (w.setRow g cs) O :=
  ⟨rfl, rfl, rfl, by simp, fun b _ hn => setRow_other w g b cs (fun e => hn (e ▸ hg))⟩

/-- Cells of a variable, written one after another. -/
theorem setAV_rep {ι : Key → Value} {ds : List AV} {us : List Value} (hl : us.length = ds.length) (hd : ∀ (j : Nat) (x : AV), ds[j]? = some x → ∃ v, us[j]? = some v ∧ ARep w U ι x v) :
    ∀ {cs : List AV} {vs : List Value} {off : Nat}, vs.length = cs.length → (∀ (j : Nat) (x : AV), cs[j]? = some x → ∃ v, vs[j]? = some v ∧ ARep w U ι x v) → (setVals vs off us).length = (Zab cs off ds).length ∧ ∀ (j : Nat) (x : AV), (Zab cs off ds)[j]? = some x → ∃ v, (setVals vs off us)[j]? = some v ∧ ARep w U ι x v := by
  induction ds generalizing us with
  | nil => intro cs vs off h1 h2; have : us = [] := List.eq_nil_of_length_eq_zero hl; subst this; exact ⟨h1, h2⟩
  | cons x r ih =>
    intro cs vs off h1 h2
    cases us with
    | nil => simp at hl
    | cons u us =>
      obtain ⟨v0, e0, r0⟩ := hd 0 x rfl
      simp at e0
      subst e0
      refine ih (us := us) (by simpa using hl) (fun j y hy => by simpa using hd (j + 1) y (by simpa using hy)) (by simpa using h1) (fun j y hy => ?_)
      by_cases hj : off = j
      · subst hj
        have hlt : off < cs.length := by
          rcases Nat.lt_or_ge off cs.length with h' | h'
          · exact h'
          · rw [List.getElem?_eq_none (by simpa using h')] at hy; cases hy
        rw [List.getElem?_set_self hlt] at hy
        cases hy
        exact ⟨u, by rw [List.getElem?_set_self (by omega)], r0⟩
      · rw [List.getElem?_set_ne hj] at hy ⊢
        exact h2 j y hy

theorem setVals_mem (us : List Value) : ∀ (vs : List Value) (off : Nat) (v : Value), v ∈ setVals vs off us → v ∈ vs ∨ v ∈ us := by
  induction us with
  | nil => intro vs off v h; exact .inl h
  | cons u r ih =>
    intro vs off v h
    rcases ih _ _ v h with h' | h'
    · rcases List.mem_or_eq_of_mem_set h' with h'' | h''
      · exact .inl h''
      · exact .inr (by simp [h''])
    · exact .inr (by simp [h'])

/-- A store into a variable. -/
theorem eff_stb {t : TypeId} {sz off : Nat} {pa px : Operand} (ho : o.op = .store t pa px) (hdst : o.dst = none) (hsz : sizeB P t sz = true) {k : Key} {cs : List AV} {bt : TypeId} (hl : Zah L k = some (.box cs bt)) (hle : off + sz ≤ cs.length)
    (hs : StF E B w L ι fr a) (hpa : ARep w (fun b => Own L ι b ∨ B.X b) ι (.adr k off) (a.eval pa)) (ds : List AV) (hcz : (a.eval px).cells.toList.length = sz) (hdl : ds.length = sz) (h1 : ∀ v ∈ (a.eval px).cells.toList, v.oneCell' = true)
    (hd : ∀ (j : Nat) (x : AV), ds[j]? = some x → ∃ v, (a.eval px).cells.toList[j]? = some v ∧ ARep w (fun b => Own L ι b ∨ B.X b) ι x v) :
    ∃ v nx w' ι', (execOp a.eval o).run P w = .ok nx w' ∧ (nx = .value v ∨ (nx = .skip ∧ v = undef)) ∧ StF E B w' (Zai L k (.box (Zab cs off ds) bt)) ι' fr (a.put o.dst v) := by
  obtain ⟨b, vs, e1, e2, e3, e4, e5⟩ := hs.1.sim.obj k _ hl
  obtain ⟨b', f1, f2⟩ := hpa
  rw [e1] at f1
  cases f1
  have hOld : Old L ι k b := ⟨_, hl, by rw [e1]; rfl⟩
  generalize hus : (a.eval px).cells.toList = us at *
  have hrun : (execOp a.eval o).run P w = .ok .skip (w.setRow b (setVals vs off us).toArray) := by
    have hst := run_storeF (P := P) b off bt (0, 0) us 0 vs w e2 (by omega) (.inl rfl) h1
    rw [Nat.add_zero] at hst
    have hn : (a.eval px).cells.size = sz := by rw [← hcz, ← hus]; simp
    simp only [execOp, ho, f2, Instr.storeAt, Instr.sureAddr, storeVar, Sem.run_bind, Sem.run_pure, Result.andThen_ok, run_size hsz]
    simp [hn, hus, hst]
  have hG : Grow w (w.setRow b (setVals vs off us).toArray) (Old L ι k) := grow_setRow w b _ hOld
  have hO : ∀ b, Own (Zai L k (.box (Zab cs off ds) bt)) ι b → Own L ι b := by
    rintro b ⟨j, q, g1, g2⟩
    rw [look_putO] at g1
    by_cases e : j = k
    · exact ⟨k, _, hl, by rw [← e]; exact g2⟩
    · rw [if_neg e] at g1; exact ⟨j, q, g1, g2⟩
  have hk : Keeps w (w.setRow b (setVals vs off us).toArray) (fun b => Own L ι b ∨ B.X b) (fun b => Own (Zai L k (.box (Zab cs off ds) bt)) ι b ∨ B.X b) :=
    fun b' hlt hu => ⟨hG.block b' hlt (fun h => hu (.inl h.own)), fun h => hu (h.imp (hO b') id)⟩
  obtain ⟨g1, g2⟩ := setAV_rep (off := off) (by omega) hd e3 e5
  have hst := hs.wr k _ (.box (Zab cs off ds) bt) hl hG ⟨b, setVals vs off us, e1, setRow_heap w b _ _ _ _ e2, g1, fun v hv => by
    rcases setVals_mem us vs off v hv with h | h
    · exact e4 v h
    · exact h1 v h, fun j x hx => by
    obtain ⟨u, hu, hr⟩ := g2 j x hx
    exact ⟨u, hu, hr.mono hk⟩⟩
  exact ⟨undef, _, _, ι, hrun, .inr ⟨rfl, rfl⟩, by rw [hdst]; exact hst⟩

theorem take_setVals (us : List Value) : ∀ (l : List Value) (off m : Nat), (setVals l off us).take m = setVals (l.take m) off us := by
  induction us with
  | nil => intros; rfl
  | cons u r ih => intro l off m; simp only [setVals]; rw [ih, List.take_set]

theorem set_flatten {z : Nat} (x : PV) : ∀ (es : List (List PV)) (i o : Nat), (∀ e ∈ es, e.length = z) → i < es.length → o < z → es.flatten.set (i * z + o) x = (es.set i ((es.getD i []).set o x)).flatten := by
  intro es
  induction es with
  | nil => intro i o _ h; simp at h
  | cons e es ih =>
    intro i o hz hi ho
    have he := hz e (by simp)
    cases i with
    | zero => simp only [Nat.zero_mul, Nat.zero_add, List.flatten_cons, List.set_cons_zero, List.getD_cons_zero]; rw [List.set_append_left _ _ (by omega)]
    | succ i =>
      simp only [List.flatten_cons, List.set_cons_succ, List.getD_cons_succ]
      rw [List.set_append_right _ _ (by rw [he, Nat.add_mul]; omega)]
      rw [show (i + 1) * z + o - e.length = i * z + o from by rw [he, Nat.add_mul]; omega]
      rw [ih i o (fun q hq => hz q (by simp [hq])) (by simpa using hi) ho]

theorem setCells_flatten {z : Nat} : ∀ (ds : List PV) (es : List (List PV)) (i o : Nat), (∀ e ∈ es, e.length = z) → i < es.length → o + ds.length ≤ z → Zaa es.flatten (i * z + o) ds = (es.set i (Zaa (es.getD i []) o ds)).flatten := by
  intro ds
  induction ds with
  | nil => intro es i o hz hi _; simp only [Zaa]; rw [show es.getD i [] = es[i] from by simp [List.getD, hi], List.set_getElem_self]
  | cons x r ih =>
    intro es i o hz hi ho
    simp only [List.length_cons] at ho
    simp only [Zaa]
    have hgi : (es.getD i []).length = z := by rw [show es.getD i [] = es[i] from by simp [List.getD, hi]]; exact hz _ (List.getElem_mem _)
    rw [set_flatten x es i o hz hi (by omega)]
    have := ih (es.set i ((es.getD i []).set o x)) i (o + 1) (fun e he => by
      rcases List.mem_or_eq_of_mem_set he with h | h
      · exact hz e h
      · rw [h, List.length_set]; exact hgi) (by simpa using hi) (by omega)
    rw [show i * z + o + 1 = i * z + (o + 1) from by omega, this]
    congr 1
    rw [List.set_set]
    congr 1
    simp [List.getD, hi]

/-- A store into a row of one's own. -/
theorem eff_str {t : TypeId} {sz off z i : Nat} {pa px : Operand} (ho : o.op = .store t pa px) (hdst : o.dst = none) (hsz : sizeB P t sz = true) {k : Key} {es : List (List PV)} {e : TypeId} {ap : Bool} (hl : Zah L k = some (.row es e z ap)) (hle : off + sz ≤ z) (hi : i < es.length)
    (hs : StF E B w L ι fr a) (hpa : ARep w (fun b => Own L ι b ∨ B.X b) ι (.rad k z i off) (a.eval pa)) (ds : List PV) (hdl : ds.length = sz) (h1 : ∀ v ∈ (a.eval px).cells.toList, v.oneCell' = true)
    (hd : PRepL w (fun b => Own L ι b ∨ B.X b) ds (a.eval px).cells.toList) :
    ∃ v nx w' ι', (execOp a.eval o).run P w = .ok nx w' ∧ (nx = .value v ∨ (nx = .skip ∧ v = undef)) ∧ StF E B w' (Zai L k (.row (es.set i (Zaa (es.getD i []) off ds)) e z ap)) ι' fr (a.put o.dst v) := by
  obtain ⟨vs, hrow, e4, e5, e6⟩ := hs.1.sim.obj k _ hl
  obtain ⟨b, n, c, f1, f2⟩ := hpa
  rcases hrow.2 with ⟨g1, _⟩ | ⟨g, cap, cur, fz, g1, g2, g3, g4, g5, g6, g7⟩
  · rw [g1] at f1; cases f1
  rw [g1] at f1
  cases f1
  have hOld : Old L ι k b := ⟨_, hl, by rw [g1]; rfl⟩
  have hcz : (a.eval px).cells.toList.length = sz := by rw [hd.length, hdl]
  generalize hus : (a.eval px).cells.toList = us at *
  have hbound : i * z + off + us.length ≤ es.length * z := by
    have : (i + 1) * z ≤ es.length * z := Nat.mul_le_mul_right _ hi
    rw [Nat.add_mul] at this
    omega
  have hcur : es.length * z ≤ c * z := Nat.mul_le_mul_right _ g3
  have hrun : (execOp a.eval o).run P w = .ok .skip (w.setRow b (setVals cur.toList (i * z + off) us).toArray) := by
    have hst := run_storeF (P := P) b (i * z + off) e fz us 0 cur.toList w (by rw [Array.toArray_toList]; exact g2) (by simp; omega) (by rcases g7 with h | h; exact .inl h; exact .inr (by simpa using h.2)) h1
    rw [Nat.add_zero] at hst
    have hn : (a.eval px).cells.size = sz := by rw [← hcz, ← hus]; simp
    simp only [execOp, ho, f2, Instr.storeAt, Instr.sureAddr, storeVar, Sem.run_bind, Sem.run_pure, Result.andThen_ok, run_size hsz]
    simp [hn, hus, hst]
  have hG : Grow w (w.setRow b (setVals cur.toList (i * z + off) us).toArray) (Old L ι k) := grow_setRow w b _ hOld
  have hO : ∀ b, Own (Zai L k (.row (es.set i (Zaa (es.getD i []) off ds)) e z ap)) ι b → Own L ι b := by
    rintro b ⟨j, q, h2, h3⟩
    rw [look_putO] at h2
    by_cases e : j = k
    · exact ⟨k, _, hl, by rw [← e]; exact h3⟩
    · rw [if_neg e] at h2; exact ⟨j, q, h2, h3⟩
  have hk : Keeps w (w.setRow b (setVals cur.toList (i * z + off) us).toArray) (fun b => Own L ι b ∨ B.X b) (fun b => Own (Zai L k (.row (es.set i (Zaa (es.getD i []) off ds)) e z ap)) ι b ∨ B.X b) :=
    fun b' hlt hu => ⟨hG.block b' hlt (fun h => hu (.inl h.own)), fun h => hu (h.imp (hO b') id)⟩
  have hrep := setVals_rep (off := i * z + off) hd e5
  rw [setCells_flatten ds es i off e6 hi (by omega)] at hrep
  have hst := hs.wr k _ (.row (es.set i (Zaa (es.getD i []) off ds)) e z ap) hl hG ⟨setVals vs (i * z + off) us, ⟨by rw [setVals_length, List.length_set]; exact hrow.1, .inr ⟨b, c, (setVals cur.toList (i * z + off) us).toArray, fz, by rw [List.length_set]; exact g1, setRow_heap w b _ _ _ _ g2, by rw [List.length_set]; exact g3, g4, by simpa [setVals_length] using g5, by rw [List.length_set]; simp only [take_setVals, g6], by
    rcases g7 with h | h
    · exact .inl h
    · exact .inr ⟨h.1, by simpa [setVals_length] using h.2⟩⟩⟩, fun v hv => by
    rcases setVals_mem us vs _ v hv with h | h
    · exact e4 v h
    · exact h1 v h, PRepL.mono hk _ _ hrep, fun q hq => by
    rcases List.mem_or_eq_of_mem_set hq with h | h
    · exact e6 q h
    · rw [h, setCells_length, show es.getD i [] = es[i] from by simp [List.getD, hi]]; exact e6 _ (List.getElem_mem _)⟩
  exact ⟨undef, _, _, ι, hrun, .inr ⟨rfl, rfl⟩, by rw [hdst]; exact hst⟩
end
end Go.Proofs.YtpddiepfolfnoaaDoor
