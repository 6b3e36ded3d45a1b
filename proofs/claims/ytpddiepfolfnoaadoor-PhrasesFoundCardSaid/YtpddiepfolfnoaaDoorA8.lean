/- Meaning of small operations, continued: literals of structs and slices, equality of structs, bytes to string, function values. -/
import Derived.Test.YtpddiepfolfnoaaDoorA7
namespace Go.Proofs.YtpddiepfolfnoaaDoor
set_option linter.unusedVariables false
set_option linter.unusedSimpArgs false
set_option linter.defProp false

section
variable {P : Program} {L : Objs} {fr : List AV} {o : Oper} {w : World} {U : Nat → Prop} {ι : Key → Value}

/-- A value's cells read as the plain value's cells. -/
theorem PRep.cells {x : PV} {v : Value} (h : PRep w U x v) (ht : ∀ cs, x ≠ .tup cs) : PRepL w U (Zy x) v.cells.toList := by
  cases x with
  | agg cs => simp only [PRep] at h; obtain ⟨vs, rfl, hl⟩ := h; simpa [Zy, Value.cells] using hl
  | tup cs => exact absurd rfl (ht cs)
  | _ =>
    have h1 := PRep.oneCell h (by simp) (by simp)
    have : v.cells = #[v] := by cases v <;> first | rfl | simp [Value.oneCell'] at h1
    simp only [Zy, PRepL]
    exact ⟨v, [], by rw [this], h, rfl⟩

def PV.notTup : PV → Bool
  | .tup _ => false
  | _ => true

theorem flatL_notTup {x : PV} (h : Zz (Zy x) = true) : ∀ cs, x ≠ .tup cs := by
  rintro cs rfl
  simp [Zz, Zy, Zx] at h

theorem PRepL.oneCells {cs : List PV} {vs : List Value} (h : PRepL w U cs vs) (hf : Zz cs = true) : ∀ v ∈ vs, v.oneCell' = true := by
  induction cs generalizing vs with
  | nil => simp only [PRepL] at h; subst h; simp
  | cons a as ih =>
    simp only [PRepL] at h
    obtain ⟨v, r, rfl, h1, h2⟩ := h
    simp only [Zz, List.all_cons, Bool.and_eq_true] at hf
    intro u hu
    simp only [List.mem_cons] at hu
    rcases hu with rfl | hu
    · refine h1.oneCell ?_ ?_ <;> (rintro cs rfl; simp [Zx] at hf)
    · exact ih h2 hf.2 u hu

theorem PRepL.set {cs : List PV} {vs : List Value} (h : PRepL w U cs vs) (i : Nat) {x : PV} {v : Value} (hx : PRep w U x v) : PRepL w U (cs.set i x) (vs.set i v) := by
  induction i generalizing cs vs with
  | zero =>
    cases cs with
    | nil => simp only [PRepL] at h; subst h; simp [PRepL]
    | cons a as => simp only [PRepL] at h; obtain ⟨u, r, rfl, _, h2⟩ := h; simp only [List.set_cons_zero, PRepL]; exact ⟨v, r, rfl, hx, h2⟩
  | succ i ih =>
    cases cs with
    | nil => simp only [PRepL] at h; subst h; simp [PRepL]
    | cons a as => simp only [PRepL] at h; obtain ⟨u, r, rfl, h1, h2⟩ := h; simp only [List.set_cons_succ, PRepL]; exact ⟨u, _, rfl, h1, ih h2⟩

/-- Cells put in place, one after another. -/
def setVals (vs : List Value) (off : Nat) : List Value → List Value
  | [] => vs
  | v :: r => setVals (vs.set off v) (off + 1) r

theorem setVals_rep {ds : List PV} {us : List Value} (hd : PRepL w U ds us) : ∀ {cs : List PV} {vs : List Value} {off : Nat}, PRepL w U cs vs → PRepL w U (Zaa cs off ds) (setVals vs off us) := by
  induction ds generalizing us with
  | nil => intro cs vs off h; simp only [PRepL] at hd; subst hd; exact h
  | cons x r ih =>
    intro cs vs off h
    simp only [PRepL] at hd
    obtain ⟨u, us', rfl, h1, h2⟩ := hd
    exact ih h2 (h.set off h1)

theorem fold_set (us : List Value) : ∀ (k off : Nat) (vs : List Value), ((us.zipIdx k).foldl (fun (cs : Array Value) (x : Value × Nat) => cs.setIfInBounds (off + x.2) x.1) vs.toArray) = (setVals vs (off + k) us).toArray := by
  induction us with
  | nil => intro k off vs; rfl
  | cons u r ih =>
    intro k off vs
    simp only [List.zipIdx_cons, List.foldl_cons, setVals]
    rw [show vs.toArray.setIfInBounds (off + k) u = (vs.set (off + k) u).toArray from by simp]
    rw [ih (k + 1) off, show off + (k + 1) = off + k + 1 from by omega]

theorem setVals_length (us : List Value) : ∀ (vs : List Value) (off : Nat), (setVals vs off us).length = vs.length := by
  induction us with
  | nil => intros; rfl
  | cons u r ih => intro vs off; simp [setVals, ih]

/-- One part of a literal. -/
theorem fill_cons (place : Nat → Option (Nat × Nat)) (vs : List Value) (i off sz : Nat) (v : Value) (rest : List (Nat × Value)) (hp : place i = some (off, sz)) (h1 : v.cells.size = sz) (h2 : off + sz ≤ vs.length) :
    Instr.fill place vs.toArray ((i, v) :: rest) = Instr.fill place (setVals vs off v.cells.toList).toArray rest := by
  rw [Instr.fill, hp]
  simp only
  rw [if_neg (by simp; omega)]
  congr 1
  have := fold_set v.cells.toList 0 off vs
  rw [Nat.add_zero] at this
  rw [← this]
  rw [← Array.foldl_toList]
  simp [Array.toList_zipIdx]

def okParts (P : Program) (place : Nat → Option (Nat × Nat)) (n : Nat) : List (Nat × Operand) → List (Nat × Nat × Opd) → Bool
  | [], [] => true
  | (i, x) :: r, (off, sz, y) :: r' => place i == some (off, sz) && okOpd x y && decide (off + sz ≤ n) && okParts P place n r r'
  | _, _ => false

theorem setCells_length (us : List PV) : ∀ (vs : List PV) (off : Nat), (Zaa vs off us).length = vs.length := by
  induction us with
  | nil => intros; rfl
  | cons u r ih => intro vs off; simp [Zaa, ih]

theorem fill_ok {a : Act} (hf : FRep w U ι fr a) (place : Nat → Option (Nat × Nat)) (n : Nat) : ∀ (ps : List (Nat × Operand)) (qs : List (Nat × Nat × Opd)) (cs : List PV) (vs : List Value) (c : Prop) (ds : List PV),
    okParts P place n ps qs = true → Zac fr cs qs = some (c, ds) → c → PRepL w U cs vs → vs.length = n → ∃ us, Instr.fill place vs.toArray (ps.map fun x => (x.1, a.eval x.2)) = some us.toArray ∧ PRepL w U ds us := by
  intro ps
  induction ps with
  | nil =>
    intro qs cs vs c ds hok hb hc hl hn
    cases qs with
    | nil =>
      simp only [Zac, Option.some.injEq, Prod.mk.injEq] at hb
      obtain ⟨rfl, rfl⟩ := hb
      exact ⟨vs, rfl, hl⟩
    | cons q qs => simp [okParts] at hok
  | cons p ps ih =>
    intro qs cs vs c ds hok hb hc hl hn
    obtain ⟨i, x⟩ := p
    cases qs with
    | nil => simp [okParts] at hok
    | cons q qs =>
      obtain ⟨off, sz, y⟩ := q
      simp only [okParts, Bool.and_eq_true, beq_iff_eq, decide_eq_true_eq] at hok
      obtain ⟨⟨⟨h1, h2⟩, h3⟩, h4⟩ := hok
      simp only [Zac] at hb
      split at hb
      · rename_i cx v ex
        split at hb
        · rename_i hsz
          obtain ⟨⟨c', ds'⟩, e1, e2⟩ := Option.map_eq_some_iff.1 hb
          simp only [Prod.mk.injEq] at e2
          obtain ⟨rfl, rfl⟩ := e2
          have rx : PRep w U v (a.eval x) := rdP hf h2 ex hc.1
          have hcell := rx.cells (flatL_notTup hsz.2)
          have hcl : (a.eval x).cells.size = sz := by have := hcell.length; simp at this; omega
          simp only [List.map_cons]
          rw [fill_cons place vs i off sz _ _ h1 hcl (by omega)]
          exact ih qs _ _ c' ds' h4 e1 hc.2 (setVals_rep hcell hl) (by rw [setVals_length]; exact hn)
        · cases hb
      · cases hb

def okVal : Value → PV → Bool
  | .int k n, .int k' n' => k == k' && n == n'
  | .bool b, .bool b' => b == b'
  | .string s, .str l => s.data.toList == l
  | .slice none 0 0, .nl _ => true
  | .nilFunc, .raw .nilFunc => true
  | .pointer none, .raw (.pointer none) => true
  | .map none, .raw (.map none) => true
  | _, _ => false
def okVals : List Value → List PV → Bool
  | [], [] => true
  | v :: vs, x :: xs => okVal v x && okVals vs xs
  | _, _ => false
theorem okVal_rep {v : Value} {x : PV} (h : okVal v x = true) (w : World) (U : Nat → Prop) : PRep w U x v ∧ Zx x = true := by
  unfold okVal at h
  split at h
  · simp only [Bool.and_eq_true, beq_iff_eq] at h; obtain ⟨rfl, rfl⟩ := h; exact ⟨rfl, rfl⟩
  · simp only [beq_iff_eq] at h; subst h; exact ⟨rfl, rfl⟩
  · simp only [beq_iff_eq] at h; subst h; simp [PRep, Zx]
  · simp [PRep, Zx]
  · simp [PRep, Zx, Value.oneCell']
  · simp [PRep, Zx, Value.oneCell']
  · simp [PRep, Zx, Value.oneCell']
  · cases h
theorem okVals_rep {vs : List Value} {xs : List PV} (h : okVals vs xs = true) (w : World) (U : Nat → Prop) : PRepL w U xs vs ∧ Zz xs = true := by
  induction vs generalizing xs with
  | nil => cases xs with
    | nil => simp [PRepL, Zz]
    | cons x xs => simp [okVals] at h
  | cons v vs ih => cases xs with
    | nil => simp [okVals] at h
    | cons x xs =>
      simp only [okVals, Bool.and_eq_true] at h
      have h1 := okVal_rep h.1 w U
      have h2 := ih h.2
      simp only [PRepL, Zz, List.all_cons, Bool.and_eq_true]
      exact ⟨⟨v, vs, rfl, h1.1, h2.1⟩, h1.2, by simpa [Zz] using h2.2⟩

def zeroB (P : Program) (t : TypeId) (zs : List PV) : Bool :=
  match (P.info? t).bind (·.zero) with
  | some z => okVals z.cells.toList zs
  | none => false
theorem run_zero {t : TypeId} {zs : List PV} (h : zeroB P t zs = true) (w : World) : ∃ z, (zeroValue t).run P w = .ok z w ∧ okVals z.cells.toList zs = true := by
  unfold zeroB at h
  split at h
  · rename_i z hz
    obtain ⟨i, h1, h2⟩ := Option.bind_eq_some_iff.1 hz
    exact ⟨z, by simp [zeroValue, typeInfo, h1, h2], h⟩
  · cases h

def placesB (P : Program) (fs : Array Field) (places : Array (Nat × Nat)) : Bool :=
  fs.toList.map (fun f => (f.offset, P.cellsOf f.type)) == places.toList && fs.toList.all fun f => (P.info? f.type).isSome

theorem run_places (fs : Array Field) (places : Array (Nat × Nat)) (h : placesB P fs places = true) (w : World) :
    (fs.mapM fun f => do pure (f.offset, ← sizeOf f.type) : Sem (Array (Nat × Nat))).run P w = .ok places w := by
  simp only [placesB, Bool.and_eq_true, beq_iff_eq, List.all_eq_true] at h
  obtain ⟨h1, h2⟩ := h
  have key : ∀ (l : List Field), (∀ f ∈ l, (P.info? f.type).isSome = true) → (l.mapM fun f => do pure (f.offset, ← sizeOf f.type) : Sem (List (Nat × Nat))).run P w = .ok (l.map fun f => (f.offset, P.cellsOf f.type)) w := by
    intro l
    induction l with
    | nil => intro _; rfl
    | cons f l ih =>
      intro h
      obtain ⟨i, hi⟩ := Option.isSome_iff_exists.1 (h f (by simp))
      have := ih (fun g hg => h g (by simp [hg]))
      have hz : (sizeOf f.type).run P w = .ok (P.cellsOf f.type) w := by simp [sizeOf, typeInfo, hi, Program.cellsOf]
      simp only [List.mapM_cons, Sem.run_bind, hz, Sem.run_pure, Result.andThen_ok, List.map_cons]
      rw [this]
      rfl
  have := key fs.toList h2
  rw [Array.mapM_eq_mapM_toList]
  rw [h1] at this
  simp only [← bind_pure_comp, Sem.run_bind] at this ⊢
  rw [this]
  rfl
end
end Go.Proofs.YtpddiepfolfnoaaDoor
