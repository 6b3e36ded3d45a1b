/- Meaning of small operations, continued: literals of structs and slices, equality of structs, bytes to string, function values. -/
import Derived.Test.YtpddiepfolfnoaaDoorA8
import Derived.Laws.BytesString
namespace Go.Proofs.YtpddiepfolfnoaaDoor
set_option linter.unusedVariables false
set_option linter.unusedSimpArgs false
set_option linter.defProp false

section
variable {P : Program} {L : Objs} {fr : List AV} {o : Oper} {w : World} {U : Nat → Prop} {ι : Key → Value}

theorem snd_bld {t : TypeId} {parts : Array (Nat × Operand)} {fs : Array Field} {places : Array (Nat × Nat)} {zero : List PV} {parts' : List (Nat × Nat × Opd)} (ho : o.op = .build t parts) (ht : P.underlying t = some (.struct fs)) (hz : zeroB P t zero = true) (hp : placesB P fs places = true)
    (hk : okParts P (places[·]?) zero.length parts.toList parts' = true) {c : Prop} {r : AV} (h : Ze fr L (.bld zero parts') = some (c, r)) : Val1 P o fr L c r := by
  simp only [Ze] at h
  obtain ⟨⟨c1, ds⟩, e1, e2⟩ := Option.map_eq_some_iff.1 h
  simp only [Prod.mk.injEq] at e2
  obtain ⟨rfl, rfl⟩ := e2
  refine Val1.same fun E B w ι a hs h1 => ?_
  obtain ⟨z, hz1, hz2⟩ := run_zero hz w
  have hzr := (okVals_rep hz2 w (fun b => Own L ι b ∨ B.X b)).1
  obtain ⟨us, hfill, hrep⟩ := fill_ok (P := P) hs.2.1 (places[·]?) zero.length parts.toList parts' zero z.cells.toList c1 ds hk e1 h1 hzr hzr.length
  refine ⟨.agg us.toArray, ?_, us, rfl, hrep⟩
  simp only [execOp, ho, Instr.build, Sem.run_bind, hz1, Result.andThen_ok, run_underlying ht, run_places fs places hp]
  have e3 : (Array.map (fun x : Nat × Operand => (x.1, a.eval x.2)) parts).toList = parts.toList.map fun x => (x.1, a.eval x.2) := by simp
  have e4 : z.cells.toList.toArray = z.cells := by simp
  rw [e4] at hfill
  rw [← e3] at hfill
  simp only [hfill]
  rfl

theorem sim_own_lt {X : Nat → Prop} (h : Sim w X L ι) {b : Nat} (hb : Own L ι b) : b < w.heap.size := by
  obtain ⟨k, ao, hl, hk⟩ := hb
  have := h.obj k ao hl
  cases ao with
  | box cs t =>
    obtain ⟨b', vs, e1, e2, _⟩ := this
    rw [e1] at hk
    simp only [blk, Option.some.injEq] at hk
    subst hk
    exact (Array.getElem?_eq_some_iff.1 e2).1
  | row es e z ap =>
    obtain ⟨vs, hown, _⟩ := this
    rcases hown.2 with ⟨e1, _⟩ | ⟨g, cap, cur, fz, e1, e2, _⟩
    · rw [e1] at hk; simp [blk] at hk
    · rw [e1] at hk
      simp only [blk, Option.some.injEq] at hk
      subst hk
      exact (Array.getElem?_eq_some_iff.1 e2).1
  | map kv a b =>
    obtain ⟨r, ents, cl, e1, e2, _⟩ := this
    rw [e1] at hk
    simp only [blk, Option.some.injEq] at hk
    subst hk
    exact (Array.getElem?_eq_some_iff.1 e2).1

theorem St.u_lt {E : Envt} {B : Base} (h : St E B w L ι) {b : Nat} (hb : Own L ι b ∨ B.X b) : b < w.heap.size := by
  rcases hb with hb | hb
  · exact sim_own_lt h.sim hb
  · exact Nat.lt_of_lt_of_le (h.xlt b hb) h.grow.size

theorem hao (w : World) (ob : Obj) {b : Nat} (hb : b < w.heap.size) : (w.alloc ob).heap[b]? = w.heap[b]? := Go.RowKit.Below.heap_alloc w ob b hb
theorem keeps_alloc (w : World) (U : Nat → Prop) (ob : Obj) : Keeps w (w.alloc ob) U U := fun b hb hu => ⟨hao w ob hb, hu⟩
theorem grow_alloc (w : World) (O : Nat → Prop) (ob : Obj) : Grow w (w.alloc ob) O := ⟨rfl, rfl, rfl, by simp, fun b hb _ => hao w ob hb⟩

theorem setVals_mid (us : List Value) : ∀ (pre old : List Value), us.length ≤ old.length → setVals (pre ++ old) pre.length us = pre ++ us ++ old.drop us.length := by
  induction us with
  | nil => intro pre old _; simp [setVals]
  | cons u r ih =>
    intro pre old h
    cases old with
    | nil => simp at h
    | cons x xs =>
      simp only [setVals]
      rw [List.set_append_right _ _ (Nat.le_refl _), Nat.sub_self, List.set_cons_zero]
      have := ih (pre ++ [u]) xs (by simpa using h)
      simp only [List.length_append, List.length_cons, List.length_nil, List.append_assoc, List.singleton_append, Nat.zero_add] at this
      rw [this]
      simp

def okDense : Nat → List (Nat × Operand) → List Opd → Bool
  | _, [], [] => true
  | k, (i, x) :: r, y :: r' => i == k && okOpd x y && okDense (k + 1) r r'
  | _, _, _ => false

theorem PRep.wk1 {x : PV} {v : Value} (h : PRep w U x v) : PRep w U (wk1 x) v := by
  cases x with
  | nl z => simp only [PRep] at h; subst h; simp [Go.Proofs.YtpddiepfolfnoaaDoor.wk1, PRep]
  | _ => exact h
theorem PRepL.wk1 {xs : List PV} {vs : List Value} (h : PRepL w U xs vs) : PRepL w U (xs.map Go.Proofs.YtpddiepfolfnoaaDoor.wk1) vs := by
  induction xs generalizing vs with
  | nil => exact h
  | cons x xs ih => simp only [PRepL] at h; obtain ⟨v, r, rfl, h1, h2⟩ := h; simp only [List.map_cons, PRepL]; exact ⟨v, r, rfl, h1.wk1, ih h2⟩

theorem fill_dense {a : Act} (hf : FRep w U ι fr a) (z : Nat) : ∀ (ps : List (Nat × Operand)) (qs : List Opd) (k : Nat) (pre old : List Value) (c : Prop) (es : List (List PV)),
    okDense k ps qs = true → Zad fr z qs = some (c, es) → c → pre.length = k * z → old.length = ps.length * z →
    ∃ us, Instr.fill (fun i => some (i * z, z)) (pre ++ old).toArray (ps.map fun x => (x.1, a.eval x.2)) = some (pre ++ us).toArray ∧ PRepL w U es.flatten us ∧ (∀ v ∈ us, v.oneCell' = true) ∧ (∀ x ∈ es, x.length = z) ∧ es.length = ps.length := by
  intro ps
  induction ps with
  | nil =>
    intro qs k pre old c es hok hb hc hp hl
    cases qs with
    | nil =>
      simp only [Zad, Option.some.injEq, Prod.mk.injEq] at hb
      obtain ⟨rfl, rfl⟩ := hb
      have : old = [] := List.eq_nil_of_length_eq_zero (by simpa using hl)
      subst this
      exact ⟨[], rfl, by simp [PRepL], by simp, by simp, rfl⟩
    | cons q qs => simp [okDense] at hok
  | cons p ps ih =>
    intro qs k pre old c es hok hb hc hp hl
    obtain ⟨i, x⟩ := p
    cases qs with
    | nil => simp [okDense] at hok
    | cons y qs =>
      simp only [okDense, Bool.and_eq_true, beq_iff_eq] at hok
      obtain ⟨⟨rfl, h2⟩, h4⟩ := hok
      simp only [Zad] at hb
      split at hb
      · rename_i cx v ex
        split at hb
        · rename_i hsz
          obtain ⟨⟨c', es'⟩, e1, e2⟩ := Option.map_eq_some_iff.1 hb
          simp only [Prod.mk.injEq] at e2
          obtain ⟨rfl, rfl⟩ := e2
          have rx : PRep w U v (a.eval x) := rdP hf h2 ex hc.1
          have hcell := rx.cells (flatL_notTup hsz.2)
          have hcl : (a.eval x).cells.toList.length = z := by have := hcell.length; omega
          have hol : old.length = z + ps.length * z := by rw [hl, List.length_cons, Nat.add_mul, Nat.one_mul, Nat.add_comm]
          simp only [List.map_cons]
          rw [fill_cons _ _ i (i * z) z _ _ rfl (by simpa using hcl) (by rw [List.length_append, hp]; omega), ← hp, setVals_mid _ _ _ (by omega)]
          obtain ⟨us, g1, g2, g3, g4, g5⟩ := ih qs (i + 1) (pre ++ (a.eval x).cells.toList) (old.drop (a.eval x).cells.toList.length) c' es' h4 e1 hc.2 (by rw [List.length_append, hp, hcl, Nat.add_mul, Nat.one_mul]) (by rw [List.length_drop, hcl, hol]; omega)
          refine ⟨(a.eval x).cells.toList ++ us, by rw [g1, List.append_assoc], ?_, ?_, ?_, by simp [g5]⟩
          · simp only [List.flatten_cons]; exact hcell.wk1.append g2
          · intro u hu
            simp only [List.mem_append] at hu
            rcases hu with hu | hu
            · exact hcell.oneCells hsz.2 u hu
            · exact g3 u hu
          · intro q hq
            simp only [List.mem_cons] at hq
            rcases hq with rfl | hq
            · simpa using hsz.1
            · exact g4 q hq
        · cases hb
      · cases hb

/-- A slice literal: the new block. -/
theorem run_bsl {E : Envt} {B : Base} {a : Act} (hs : StF E B w L ι fr a) {t e : TypeId} {z n : Nat} {parts : Array (Nat × Operand)} {parts' : List Opd} (ho : o.op = .buildSlice t n parts) (ht : P.underlying t = some (.slice e)) (hz : sizeB P e z = true) (hzr : ((P.info? e).bind (·.zero)).isSome = true)
    (hn : parts.toList.length = n) (hm : n * z ≤ 16777216) (hk : okDense 0 parts.toList parts' = true) {c : Prop} {es : List (List PV)} (hb : Zad fr z parts' = some (c, es)) (hc : c) :
    ∃ us : List Value, (execOp a.eval o).run P w = .ok (.value (.slice (some ⟨w.heap.size, 0, none⟩) n n)) (w.alloc (.cells us.toArray e)) ∧ PRepL w (fun b => Own L ι b ∨ B.X b) es.flatten us ∧ (∀ v ∈ us, v.oneCell' = true) ∧ (∀ x ∈ es, x.length = z) ∧ es.length = n := by
  obtain ⟨zv, hzv⟩ := Option.isSome_iff_exists.1 hzr
  obtain ⟨i, hi1, hi2⟩ := Option.bind_eq_some_iff.1 hzv
  have hrz : (zeroValue e).run P w = .ok zv w := by simp [zeroValue, typeInfo, hi1, hi2]
  have fin : ∀ zc : Array Value, ∃ us : List Value, Instr.fill (fun i => some (i * z, z)) ((Array.range (n * z)).map (zc[· % zc.size]!)) (parts.toList.map fun x => (x.1, a.eval x.2)) = some us.toArray ∧ PRepL w (fun b => Own L ι b ∨ B.X b) es.flatten us ∧ (∀ v ∈ us, v.oneCell' = true) ∧ (∀ x ∈ es, x.length = z) ∧ es.length = n := by
    intro zc
    obtain ⟨us, g1, g2, g3, g4, g5⟩ := fill_dense hs.2.1 z parts.toList parts' 0 [] ((Array.range (n * z)).map (zc[· % zc.size]!)).toList c es hk hb hc (by simp) (by simp [← hn])
    refine ⟨us, ?_, g2, g3, g4, by rw [g5, hn]⟩
    rw [List.nil_append, List.nil_append, Array.toArray_toList] at g1
    exact g1
  have e3 : (Array.map (fun x : Nat × Operand => (x.1, a.eval x.2)) parts).toList = parts.toList.map fun x => (x.1, a.eval x.2) := by simp
  by_cases h0 : n * z = 0
  · obtain ⟨us, g1, rest⟩ := fin #[]
    refine ⟨us, ?_, rest⟩
    simp only [execOp, ho, Instr.buildSlice, Sem.run_bind, run_underlying ht, Result.andThen_ok, run_size hz, Sem.run_ite]
    rw [if_neg (by omega)]
    simp only [Sem.run_pure, Result.andThen_ok, if_pos h0]
    rw [e3]
    simp only [g1]
    simp [newRow, newObj]
    rfl
  · obtain ⟨us, g1, rest⟩ := fin zv.cells
    refine ⟨us, ?_, rest⟩
    simp only [execOp, ho, Instr.buildSlice, Sem.run_bind, run_underlying ht, Result.andThen_ok, run_size hz, Sem.run_ite]
    rw [if_neg (by omega)]
    simp only [Sem.run_pure, Result.andThen_ok, if_neg h0, hrz]
    rw [e3]
    simp only [g1]
    simp [newRow, newObj]
    rfl

theorem snd_bsl {t e : TypeId} {z n : Nat} {parts : Array (Nat × Operand)} {parts' : List Opd} (ho : o.op = .buildSlice t n parts) (ht : P.underlying t = some (.slice e)) (hz : sizeB P e z = true) (hzr : ((P.info? e).bind (·.zero)).isSome = true)
    (hn : parts.toList.length = n) (hm : n * z ≤ 16777216) (hk : okDense 0 parts.toList parts' = true) {c : Prop} {r : AV} (h : Ze fr L (.bsl z parts') = some (c, r)) : Val1 P o fr L c r := by
  simp only [Ze] at h
  obtain ⟨⟨c1, es⟩, e1, e2⟩ := Option.map_eq_some_iff.1 h
  simp only [Prod.mk.injEq] at e2
  obtain ⟨rfl, rfl⟩ := e2
  intro E B w ι a hs h1
  obtain ⟨us, g1, g2, g3, g4, g5⟩ := run_bsl hs ho ht hz hzr hn hm hk e1 h1
  refine ⟨_, _, g1, grow_alloc w _ _, some ⟨w.heap.size, 0, none⟩, n, by rw [g5], by omega, fun hne => ⟨w.heap.size, 0, rfl, by simp, fun hu => absurd (hs.1.u_lt hu) (by omega), ?_⟩⟩
  have key : ∀ (es : List (List PV)) (vs : List Value) (off : Nat), (∀ x ∈ es, x.length = z) → PRepL w (fun b => Own L ι b ∨ B.X b) es.flatten vs → (∀ v ∈ vs, v.oneCell' = true) → (∀ j u, vs[j]? = some u → (w.alloc (.cells us.toArray e)).cell? ⟨w.heap.size, off + j, none⟩ = some u) → PRepE (w.alloc (.cells us.toArray e)) (fun b => Own L ι b ∨ B.X b) w.heap.size z off es := by
    intro es
    induction es with
    | nil => intros; simp [PRepE]
    | cons x r ih =>
      intro vs off hz hv h1 hc
      simp only [PRepE]
      have hx := hz x (by simp)
      simp only [List.flatten_cons] at hv
      have ha := hv.take x.length
      have hb := hv.drop x.length
      rw [List.take_left] at ha
      rw [List.drop_left] at hb
      refine ⟨hx, PRepC.of (PRepL.mono (keeps_alloc w _ _) _ _ ha) (fun v hv => h1 v (List.mem_of_mem_take hv)) (fun j u hu => hc j u (by rw [List.getElem?_take] at hu; split at hu; exact hu; cases hu)), ih _ (off + z) (fun y hy => hz y (by simp [hy])) hb (fun v hv => h1 v (List.mem_of_mem_drop hv)) (fun j u hu => ?_)⟩
      rw [List.getElem?_drop] at hu
      have := hc _ u hu
      rwa [hx, ← Nat.add_assoc] at this
  refine key es us 0 g4 g2 g3 (fun j u hu => ?_)
  rw [World.cell?_alloc_at _ _ _ _ rfl, Nat.zero_add]
  simpa using hu

/-- A row of bytes as a string. -/
theorem bytesP_vals {es : List (List PV)} {l : List UInt8} (h : bytesP es = some l) {vs : List Value} (hv : PRepL w U es.flatten vs) : ∃ ns : List Int, vs = ns.map (Value.int .u8) ∧ ns.map (fun n => UInt8.ofNat n.toNat) = l ∧ es.length = ns.length := by
  induction es generalizing l vs with
  | nil => simp only [bytesP, Option.some.injEq] at h; subst h; simp only [List.flatten_nil, PRepL] at hv; subst hv; exact ⟨[], rfl, rfl, rfl⟩
  | cons x r ih =>
    unfold bytesP at h
    split at h
    · rename_i heq; cases heq
    · rename_i n r' heq
      cases heq
      obtain ⟨l', e1, rfl⟩ := Option.map_eq_some_iff.1 h
      simp only [List.flatten_cons, List.singleton_append, PRepL] at hv
      obtain ⟨v, rr, rfl, h1, h2⟩ := hv
      obtain ⟨ns, rfl, g1, g2⟩ := ih e1 h2
      exact ⟨n :: ns, by rw [PRep.int_eq h1]; rfl, by simp [g1], by simp [g2]⟩
    · cases h
theorem foldl_pushA (ns : List Int) : ∀ s : ByteArray, ns.foldl (fun r n => r.push (UInt8.ofNat n.toNat)) s = ⟨(s.data.toList ++ ns.map fun n => UInt8.ofNat n.toNat).toArray⟩ := by
  induction ns with
  | nil => intro s; simp
  | cons c l ih => intro s; simp only [List.foldl_cons]; rw [ih]; simp [ByteArray.push]

theorem snd_b2s {s d e : TypeId} {x : Operand} {x' : Opd} (ho : o.op = .convert s d x) (hsT : P.underlying s = some (.slice e)) (he : P.underlying e = some (.int .u8)) (hd : P.underlying d = some .string) (hx : okOpd x x' = true) {c : Prop} {r : AV}
    (h : Ze fr L (.b2s x') = some (c, r)) : Val1 P o fr L c r := by
  simp only [Ze] at h
  split at h
  · rename_i es e1
    obtain ⟨l, e2, e3⟩ := Option.map_eq_some_iff.1 h
    simp only [Prod.mk.injEq] at e3
    obtain ⟨rfl, rfl⟩ := e3
    refine Val1.same fun E B w ι a hs h1 => ⟨.string ⟨l.toArray⟩, ?_, rfl⟩
    have hr := (rdOk hs.2.1 hx).un h1
    have run : ∀ (A : Option Addr) (n cp : Nat), a.eval x = .slice A n cp → (∀ b off, A = some ⟨b, off, none⟩ → PRepE w (fun b => Own L ι b ∨ B.X b) b 1 off es ∧ n = es.length) → (A = none → es = []) → (∃ b off, A = some ⟨b, off, none⟩) ∨ A = none → (execOp a.eval o).run P w = .ok (.value (.string ⟨l.toArray⟩)) w := by
      intro A n cp eA hsome hnone hcase
      simp only [execOp, ho, eA]
      have hcv : (convert s d (.slice A n cp)).run P w = .ok (.string ⟨l.toArray⟩) w := by
        rw [run_convert_bytes_string w s d e _ _ _ hsT he hd]
        rcases hcase with ⟨b, off, rfl⟩ | rfl
        · obtain ⟨hE, rfl⟩ := hsome b off rfl
          have hC : ∃ vs, PRepL w (fun b => Own L ι b ∨ B.X b) es.flatten vs ∧ ∀ j v, vs[j]? = some v → w.cell? ⟨b, off + j, none⟩ = some v := by
            clear e2 e1 hsome hnone eA h
            induction es generalizing off with
            | nil => exact ⟨[], by simp [PRepL], by simp⟩
            | cons q r ih =>
              simp only [PRepE] at hE
              obtain ⟨q1, q2, q3⟩ := hE
              obtain ⟨vs1, a1, a2, a3⟩ := q2.vals
              obtain ⟨vs2, b1, b2⟩ := ih (off := off + 1) q3
              have hl1 : vs1.length = 1 := by rw [a1.length, q1]
              refine ⟨vs1 ++ vs2, by simp only [List.flatten_cons]; exact a1.append b1, fun j v hj => ?_⟩
              rw [List.getElem?_append] at hj
              split at hj
              · exact a3 j v hj
              · have := b2 _ v hj
                rwa [hl1, show off + 1 + (j - 1) = off + j from by omega] at this
          obtain ⟨vs, hv, hc⟩ := hC
          obtain ⟨ns, rfl, g1, g2⟩ := bytesP_vals e2 hv
          have hl := run_loadCells_list (P := P) (w := w) ⟨b, off, none⟩ (ns.map (Value.int .u8)) (fun j v hj => by rw [addr_addA]; exact hc j v hj)
          rw [List.length_map, ← g2] at hl
          rw [run_bytesToString w _ _ _ _ hl, foldl_pushA, g1]
          rfl
        · have := hnone rfl
          subst this
          simp only [bytesP, Option.some.injEq] at e2
          subst e2
          simp [Conv.bytesToString]
          rfl
      simp only [Sem.run_bind, hcv]
      rfl
    generalize (rd fr x').un.2 = q at *
    unfold Zv at e1
    split at e1
    · simp only [Option.some.injEq, Prod.mk.injEq] at e1
      obtain ⟨rfl, rfl⟩ := e1
      obtain ⟨A, cp, eA, hcp, hE⟩ := hr
      rename_i es
      by_cases hn : es = []
      · subst hn
        simp only [bytesP, Option.some.injEq] at e2
        subst e2
        simp only [execOp, ho, eA]
        have hcv : (convert s d (.slice A 0 cp)).run P w = .ok (.string ⟨#[]⟩) w := by
          rw [run_convert_bytes_string w s d e _ _ _ hsT he hd]
          cases A with
          | none => simp [Conv.bytesToString]; rfl
          | some ad =>
            have hl : (loadCells ad 0).run P w = .ok (([] : List Int).map (Value.int .u8)).toArray w := by simp [loadCells, loadCellsFrom]
            rw [run_bytesToString w _ _ _ _ hl]; rfl
        simp only [List.length_nil, Sem.run_bind, hcv]
        rfl
      · obtain ⟨b, off, rfl, _, _, hE'⟩ := hE hn
        exact run _ _ _ eA (fun b' off' e => by cases e; exact ⟨hE', rfl⟩) (fun h => by cases h) (.inl ⟨b, off, rfl⟩)
    · simp only [Option.some.injEq, Prod.mk.injEq] at e1
      obtain ⟨rfl, rfl⟩ := e1
      exact run none 0 0 hr (fun _ _ h => by cases h) (fun _ => rfl) (.inr rfl)
    · rename_i k
      split at e1
      · rename_i es' et z' ap hl
        simp only [Option.some.injEq, Prod.mk.injEq] at e1
        obtain ⟨rfl, rfl⟩ := e1
        obtain ⟨eA, _⟩ := hr
        obtain ⟨vs, hown, _⟩ := hs.1.sim.obj k _ hl
        rcases hown.2 with ⟨e3, e4⟩ | ⟨g, cap, cur, fz, e3, _⟩
        · exact run none 0 0 (by rw [eA, e3]) (fun _ _ h => by cases h) (fun _ => List.eq_nil_of_length_eq_zero e4) (.inr rfl)
        · exact run _ _ _ (by rw [eA, e3]) (fun b' off' e => by cases e; exact ⟨row_cells hs.1.sim hl e3, rfl⟩) (fun h => by cases h) (.inl ⟨g, 0, rfl⟩)
      · cases e1
    · cases e1
  · cases h

theorem snd_mkf {f : FuncId} {caps : Array Operand} {caps' : List Opd} (ho : o.op = .makeFunc (.func f) #[] caps) (hx : okOpds caps.toList caps' = true) {c : Prop} {r : AV} (h : Ze fr L (.mkf f caps') = some (c, r)) : Val1 P o fr L c r := by
  simp only [Ze] at h
  obtain ⟨ks, e1, e2⟩ := Option.map_eq_some_iff.1 h
  simp only [Prod.mk.injEq] at e2
  obtain ⟨rfl, rfl⟩ := e2
  refine Val1.same fun E B w ι a hs _ => ⟨.func (.func f) #[] (caps.map a.eval), ?_, ?_⟩
  · simp [execOp, ho, Instr.makeFunc]
  · have key : ∀ (xs : List Operand) (ys : List Opd) (ks : List Key), okOpds xs ys = true → Zae (ys.map (rd fr)) = some ks → xs.map a.eval = ks.map ι := by
      intro xs
      induction xs with
      | nil => intro ys ks h1 h2; cases ys with
        | nil => simp only [List.map_nil, Zae, Option.some.injEq] at h2; subst h2; rfl
        | cons y ys => simp [okOpds] at h1
      | cons x xs ih => intro ys ks h1 h2; cases ys with
        | nil => simp [okOpds] at h1
        | cons y ys =>
          simp only [okOpds, Bool.and_eq_true] at h1
          have hr := rdOk hs.2.1 h1.1
          simp only [List.map_cons] at h2
          generalize rd fr y = q at *
          unfold Zae at h2
          split at h2
          · rename_i heq; cases heq
          · rename_i k' r' heq
            cases heq
            obtain ⟨ks', e3, rfl⟩ := Option.map_eq_some_iff.1 h2
            obtain ⟨b, e4, e5⟩ := hr
            simp [ih ys ks' h1.2 e3, e4, e5]
          · cases h2
    have := key caps.toList caps' ks hx e1
    simp only [ARep]
    congr 1
    apply Array.ext'
    simpa using this
end
end Go.Proofs.YtpddiepfolfnoaaDoor
