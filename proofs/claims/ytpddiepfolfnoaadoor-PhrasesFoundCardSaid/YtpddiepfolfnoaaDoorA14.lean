/- Appends and rows made: their meaning, and that it is right. -/
import Derived.Test.YtpddiepfolfnoaaDoorA13
import Derived.Lib.AppendZeros
namespace Go.Proofs.YtpddiepfolfnoaaDoor
set_option linter.unusedVariables false
set_option linter.unusedSimpArgs false
set_option linter.defProp false

def appB (P : Program) (e : TypeId) (z by_ : Nat) : Bool :=
  match P.info? e with
  | some i => i.size == z && i.bytes == by_ && (match i.zero with | some v => v.cells.size == z | none => false) && decide (0 < z) && decide (0 < by_)
  | none => false

section
variable {P : Program} {E : Envt} {B : Base} {w w' : World} {L : Objs} {ι : Key → Value} {fr : List AV} {a : Act} {X : Nat → Prop} {o : Oper} {U : Nat → Prop}

theorem appB_spec {e z by_ : Nat} (h : appB P e z by_ = true) : ∃ i v, P.info? e = some i ∧ i.zero = some v ∧ i.size = z ∧ i.bytes = by_ ∧ v.cells.size = z ∧ 0 < z ∧ 0 < by_ := by
  unfold appB at h
  split at h
  · rename_i i hi
    simp only [Bool.and_eq_true, beq_iff_eq, decide_eq_true_eq] at h
    obtain ⟨⟨⟨⟨h1, h2⟩, h3⟩, h4⟩, h5⟩ := h
    split at h3
    · rename_i v hv
      exact ⟨i, v, hi, hv, h1, h2, by simpa using h3, h4, h5⟩
    · cases h3
  · cases h

/-- What a slice that is appended holds. -/
theorem src_vals (hs : StF E B w L ι fr a) {q : AV} {v : Value} {z : Nat} {es : List (List PV)} (e : Zv L q = some (z, es)) (h : ARep w (fun b => Own L ι b ∨ B.X b) ι q v) :
    ∃ A c news, v = .slice A es.length c ∧ PRepL w (fun b => Own L ι b ∨ B.X b) es.flatten news ∧ (∀ u ∈ news, u.oneCell' = true) ∧ (∀ x ∈ es, x.length = z) ∧ (es ≠ [] → ∃ ad, A = some ad ∧ ∀ (j : Nat) (u : Value), news[j]? = some u → w.cell? (ad.add j) = some u) := by
  have key : ∀ (es : List (List PV)) (b off : Nat), PRepE w (fun b => Own L ι b ∨ B.X b) b z off es → ∃ news, PRepL w (fun b => Own L ι b ∨ B.X b) es.flatten news ∧ (∀ u ∈ news, u.oneCell' = true) ∧ (∀ x ∈ es, x.length = z) ∧ ∀ (j : Nat) (u : Value), news[j]? = some u → w.cell? ⟨b, off + j, none⟩ = some u := by
    intro es
    induction es with
    | nil => intro b off _; exact ⟨[], by simp [PRepL], by simp, by simp, by simp⟩
    | cons x r ih =>
      intro b off hE
      simp only [PRepE] at hE
      obtain ⟨h1, h2, h3⟩ := hE
      obtain ⟨us, a1, a2, a3⟩ := h2.vals
      obtain ⟨vs, b1, b2, b3, b4⟩ := ih b (off + z) h3
      have hlen : us.length = z := by rw [a1.length, h1]
      refine ⟨us ++ vs, by simp only [List.flatten_cons]; exact a1.append b1, ?_, ?_, fun j u hu => ?_⟩
      · intro u hu; simp only [List.mem_append] at hu; exact hu.elim (a2 u) (b2 u)
      · intro y hy; simp only [List.mem_cons] at hy; rcases hy with rfl | hy; exact h1; exact b3 y hy
      · rw [List.getElem?_append] at hu
        split at hu
        · exact a3 j u hu
        · have := b4 _ u hu
          rwa [hlen, show off + z + (j - z) = off + j from by omega] at this
  unfold Zv at e
  split at e
  · simp only [Option.some.injEq, Prod.mk.injEq] at e
    obtain ⟨rfl, rfl⟩ := e
    rename_i z es
    obtain ⟨A, c, e1, e2, e3⟩ := h
    by_cases hn : es = []
    · subst hn
      exact ⟨A, c, [], e1, by simp [PRepL], by simp, by simp, fun h => absurd rfl h⟩
    · obtain ⟨b, off, rfl, _, _, hE⟩ := e3 hn
      obtain ⟨news, g1, g2, g3, g4⟩ := key es b off hE
      exact ⟨_, c, news, e1, g1, g2, g3, fun _ => ⟨_, rfl, fun j u hu => by rw [addr_addA]; exact g4 j u hu⟩⟩
  · simp only [Option.some.injEq, Prod.mk.injEq] at e
    obtain ⟨rfl, rfl⟩ := e
    exact ⟨none, 0, [], h, by simp [PRepL], by simp, by simp, fun h => absurd rfl h⟩
  · rename_i k
    split at e
    · rename_i es' e' z' ap hl
      simp only [Option.some.injEq, Prod.mk.injEq] at e
      obtain ⟨rfl, rfl⟩ := e
      obtain ⟨vs, hrow, e4, e5, e6⟩ := hs.1.sim.obj k _ hl
      rcases hrow.2 with ⟨g1, g2⟩ | ⟨g, cap, cur, fz, g1, _⟩
      · have hes := List.eq_nil_of_length_eq_zero g2
        subst hes
        exact ⟨none, 0, [], by rw [h.1, g1]; rfl, by simp [PRepL], by simp, by simp, fun h => absurd rfl h⟩
      · refine ⟨_, cap, vs, by rw [h.1, g1], e5, e4, e6, fun _ => ⟨_, rfl, fun j u hu => ?_⟩⟩
        rw [addr_addA, Nat.zero_add]
        exact hrow.cells g1 j u hu
    · cases e
  · cases e

theorem run_append_empty {t ty e : TypeId} {i : TypeInfo} (ht : P.underlying t = some (.slice e)) (hi : P.info? e = some i) (base A : Option Addr) (n cap c : Nat) (hc : n ≤ cap) :
    (Builtin.append_ #[t, t] ty #[.slice base n cap, .slice A 0 c]).run P w = .ok (.slice base n cap) w := by
  cases A <;> cases base <;> simp [Builtin.append_, run_underlying ht, sizeOf, typeInfo, hi, Builtin.lenOf, hc, Builtin.firstCells, loadCells, loadCellsFrom, storeCells]

theorem flat_len {z : Nat} : ∀ (es : List (List PV)), (∀ x ∈ es, x.length = z) → es.flatten.length = es.length * z := by
  intro es
  induction es with
  | nil => intro _; simp
  | cons x r ih =>
    intro h
    rw [List.flatten_cons, List.length_append, ih (fun y hy => h y (by simp [hy])), h x (by simp), List.length_cons, Nat.add_mul]
    omega

/-- An append in general: the value, the world. -/
theorem run_app (hs : StF E B w L ι fr a) {t e z by_ : Nat} {ty : TypeId} (ht : P.underlying t = some (.slice e)) (hA : appB P e z by_ = true) (base : Nat) (v : Value) (n : Nat) (vs : List Value) (hown : w.ownsRow base e z v n vs) (hb : base ≤ w.heap.size)
    {q : AV} {u : Value} {es2 : List (List PV)} (e2 : Zv L q = some (z, es2)) (hq : ARep w (fun b => Own L ι b ∨ B.X b) ι q u) (hlen : (n + es2.length) * by_ ≤ 140737488355328) :
    ∃ v' w' news, (Builtin.append_ #[t, t] ty #[v, u]).run P w = .ok v' w' ∧ w'.ownsRow base e z v' (n + es2.length) (vs ++ news) ∧ w.grownBy w' v.ownBlock ∧ (v'.ownBlock = v.ownBlock ∨ v'.ownBlock = some w.heap.size) ∧
      PRepL w (fun b => Own L ι b ∨ B.X b) es2.flatten news ∧ (∀ u ∈ news, u.oneCell' = true) ∧ (∀ x ∈ es2, x.length = z) := by
  obtain ⟨i, zv, h1, h2, h3, h4, h5, h6, h7⟩ := appB_spec hA
  obtain ⟨A, c, news, e1, g1, g2, g3, g4⟩ := src_vals hs e2 hq
  subst e1
  have hm : n + es2.length ≤ maxLen := by
    have : n + es2.length ≤ (n + es2.length) * by_ := Nat.le_mul_of_pos_right _ h7
    unfold maxLen
    omega
  by_cases hn : es2 = []
  · subst hn
    have hnews : news = [] := by simp only [List.flatten_nil, PRepL] at g1; exact g1
    subst hnews
    have hv : ∃ base' cap, v = .slice base' n cap ∧ n ≤ cap := by
      rcases hown.2 with ⟨q1, q2⟩ | ⟨g, cap, cur, q1, _, _, q2, _⟩
      · exact ⟨none, 0, by rw [q1, q2], by omega⟩
      · exact ⟨_, cap, q1, q2⟩
    obtain ⟨base', cap, rfl, hc⟩ := hv
    exact ⟨_, w, [], run_append_empty ht h1 _ _ _ _ _ hc, by simpa using hown, World.grownBy.refl w _, .inl rfl, g1, g2, g3⟩
  · obtain ⟨ad, rfl, g5⟩ := g4 hn
    have hl : news.length = es2.length * z := by rw [g1.length, flat_len es2 g3]
    obtain ⟨v', w', r1, r2, r3, _, r5⟩ := run_append_own_at (P := P) w base t ty e i zv z by_ ht h1 h2 h3 h4 h5 h6 v n vs hown ad es2.length c news hl g5 g2 hm hlen hb
    exact ⟨v', w', news, r1, r2, r3, r5, g1, g2, g3⟩

theorem blk_own {v : Value} {b : Nat} (h : ∃ A n c, v = .slice A n c) : blk v = v.ownBlock := by
  obtain ⟨A, n, c, rfl⟩ := h
  cases A <;> rfl
theorem owns_slice {base e z n : Nat} {v : Value} {xs : List Value} (h : w.ownsRow base e z v n xs) : ∃ A m c, v = .slice A m c := by
  rcases h.2 with ⟨q1, _⟩ | ⟨g, cap, cur, q1, _⟩
  · exact ⟨none, 0, 0, q1⟩
  · exact ⟨_, _, _, q1⟩
theorem grow_of_grownBy {O : Nat → Prop} {row : Option Nat} (h : w.grownBy w' row) (hr : ∀ b, row = some b → O b) : Grow w w' O :=
  ⟨h.os, h.tape, h.output, h.size, fun b hb hn => h.block b hb (fun e => hn (hr b e.symm))⟩

/-- append to a row of one's own. -/
theorem eff_app {t e z by_ : Nat} {px py : Operand} {x' y' : Opd} {d i : Nat} (ho : o.op = .call { callee := .builtin .append, args := #[px, py], argTypes := #[t, t] }) (hd : o.dst = some d) (ht : P.underlying t = some (.slice e)) (hA : appB P e z by_ = true) (hx : okOpd px x' = true) (hy : okOpd py y' = true)
    {cx cy : Prop} {q : AV} (ex : (rd fr x').un = (cx, .row (.l i))) (ey : (rd fr y').un = (cy, q)) {es es2 : List (List PV)} (hl : Zah L (.l i) = some (.row es e z true)) (e2 : Zv L q = some (z, es2)) :
    Eff1 P o fr L (cx ∧ cy ∧ (es.length + es2.length) * by_ ≤ 140737488355328) ((fr.map (·.kill (.l i))).set d (.row (.l i))) (Zak L (.l i) (.row (es ++ es2) e z true)) := by
  intro E B w ι a hs ⟨c1, c2, c3⟩
  have hv : ARep w _ ι (.row (.l i)) (a.eval px) := rdP hs.2.1 hx ex c1
  have hu := rdP hs.2.1 hy ey c2
  obtain ⟨vs, hrow, e4, e5, e6⟩ := hs.1.sim.obj _ _ hl
  have hown := hrow.owns
  obtain ⟨v', w', news, r1, r2, r3, r4, r5, r6, r7⟩ := run_app (ty := o.type) hs ht hA 0 (ι (.l i)) es.length vs hown (Nat.zero_le _) e2 hu c3
  have hG : Grow w w' (Old L ι (.l i)) := grow_of_grownBy r3 (fun b hb => ⟨_, hl, by rw [blk_own (b := b) (owns_slice hown)]; exact hb⟩)
  have hb : ∀ b, blk v' = some b → w.heap.size ≤ b ∨ Old L ι (.l i) b := by
    intro b hb
    rw [blk_own (b := b) (owns_slice r2)] at hb
    rcases r4 with r4 | r4
    · exact .inr ⟨_, hl, by rw [blk_own (b := b) (owns_slice hown), ← r4]; exact hb⟩
    · rw [r4] at hb; cases hb; exact .inl (Nat.le_refl _)
  have hk := upd_keeps (X := B.X) (ao := .row (es ++ es2) e z true) (fun b hb => hs.1.x_lt hb) hG hb
  have hobj : ObjOk w' (fun b => Own (Zak L (.l i) (.row (es ++ es2) e z true)) (updI ι (.l i) v') b ∨ B.X b) (updI ι (.l i) v') (.l i) (.row (es ++ es2) e z true) := by
    refine ⟨vs ++ news, by simpa [updI] using RowOk.of_owns r2, ?_, ?_, ?_⟩
    · intro u hu; simp only [List.mem_append] at hu; exact hu.elim (e4 u) (r6 u)
    · rw [List.flatten_append]; exact PRepL.mono hk _ _ (e5.append r5)
    · intro y hy; simp only [List.mem_append] at hy; exact hy.elim (e6 y) (r7 y)
  have h1 := hs.upd i v' (.row (es ++ es2) e z true) hG hb hobj
  refine ⟨v', .value v', w', _, ?_, .inl rfl, h1.1, ?_, by rw [Act.put_defers']; exact h1.2.2⟩
  · rw [run_builtin _ _ _ a ho]
    simp only [builtin, Sem.run_bind, List.map_toArray, List.map_cons, List.map_nil, hv.1]
    rw [r1]
    rfl
  · rw [hd]
    exact h1.2.1.put d ⟨by simp [updI], owns_slice r2⟩

/-- append to nil. -/
theorem eff_appn {t e z by_ : Nat} {px py : Operand} {x' y' : Opd} {d z0 : Nat} (ho : o.op = .call { callee := .builtin .append, args := #[px, py], argTypes := #[t, t] }) (hd : o.dst = some d) (ht : P.underlying t = some (.slice e)) (hA : appB P e z by_ = true) (hx : okOpd px x' = true) (hy : okOpd py y' = true)
    {cx cy : Prop} {q : AV} (ex : (rd fr x').un = (cx, .p (.nl z0))) (ey : (rd fr y').un = (cy, q)) {es2 : List (List PV)} (e2 : Zv L q = some (z, es2)) :
    Eff1 P o fr L (cx ∧ cy ∧ es2.length * by_ ≤ 140737488355328) ((fr.map (·.kill (.l d))).set d (.row (.l d))) (Zak L (.l d) (.row es2 e z true)) := by
  intro E B w ι a hs ⟨c1, c2, c3⟩
  have hv : a.eval px = .slice none 0 0 := rdP hs.2.1 hx ex c1
  have hu := rdP hs.2.1 hy ey c2
  have hown := World.ownsRow_nil w w.heap.size e z
  obtain ⟨v', w', news, r1, r2, r3, r4, r5, r6, r7⟩ := run_app (ty := o.type) hs ht hA w.heap.size (.slice none 0 0) 0 [] hown (Nat.le_refl _) e2 hu (by simpa using c3)
  rw [Nat.zero_add, List.nil_append] at r2
  have hG : Grow w w' (Old L ι (.l d)) := grow_of_grownBy r3 (fun b hb => by simp [Value.ownBlock] at hb)
  have hb : ∀ b, blk v' = some b → w.heap.size ≤ b ∨ Old L ι (.l d) b := by
    intro b hb
    rw [blk_own (b := b) (owns_slice r2)] at hb
    exact .inl (r2.lt b hb).1
  have hk := upd_keeps (X := B.X) (ao := .row es2 e z true) (fun b hb => hs.1.x_lt hb) hG hb
  refine eff_new hd hs (v := v') (w' := w') ?_ v' hG hb ⟨news, by simpa [updI] using RowOk.of_owns r2, r6, PRepL.mono hk _ _ r5, r7⟩ ⟨by simp [updI], owns_slice r2⟩
  rw [run_builtin _ _ _ a ho]
  simp only [builtin, Sem.run_bind, List.map_toArray, List.map_cons, List.map_nil, hv]
  rw [r1]
  rfl

/-- A slice literal as a row of one's own. -/
theorem eff_bsr {t e : TypeId} {z n d : Nat} {parts : Array (Nat × Operand)} {parts' : List Opd} (ho : o.op = .buildSlice t n parts) (hd : o.dst = some d) (ht : P.underlying t = some (.slice e)) (hz : sizeB P e z = true) (hzr : ((P.info? e).bind (·.zero)).isSome = true)
    (hn : parts.toList.length = n) (hm : n * z ≤ 16777216) (hm2 : n ≤ 16777216) (hk : okDense 0 parts.toList parts' = true) {c : Prop} {es : List (List PV)} (h : Zad fr z parts' = some (c, es)) : Eff1 P o fr L c ((fr.map (·.kill (.l d))).set d (.row (.l d))) (Zak L (.l d) (.row es e z true)) := by
  intro E B w ι a hs h1
  obtain ⟨us, g1, g2, g3, g4, g5⟩ := run_bsl hs ho ht hz hzr hn hm hk h h1
  have hG : Grow w (w.alloc (.cells us.toArray e)) (Old L ι (.l d)) := grow_alloc _ _ _
  have hb : ∀ b, blk (.slice (some ⟨w.heap.size, 0, none⟩) n n) = some b → w.heap.size ≤ b ∨ Old L ι (.l d) b := fun b e => by simp only [blk, Option.some.injEq] at e; omega
  have hkk := upd_keeps (X := B.X) (ao := .row es e z true) (fun b hb => hs.1.x_lt hb) hG hb
  have hul : us.length = n * z := by rw [g2.length, flat_len es g4, g5]
  refine eff_new hd hs g1 (.slice (some ⟨w.heap.size, 0, none⟩) n n) hG hb ⟨us, ⟨by rw [hul, g5], .inr ⟨w.heap.size, n, us.toArray, (0, 0), by simp [updI, g5], heap_alloc_new w _, by omega, by unfold maxLen; omega, by simpa using hul, by rw [g5, ← hul]; simp, .inl rfl⟩⟩, g3, PRepL.mono hkk _ _ g2, g4⟩ ⟨by simp [updI], _, _, _, rfl⟩

/-- A string as a row of bytes. -/
theorem eff_s2b {s d e : TypeId} {dd : Nat} {x : Operand} {x' : Opd} {u0 : TypeDesc} (ho : o.op = .convert s d x) (hd : o.dst = some dd) (hsT : P.underlying s = some u0) (hdT : P.underlying d = some (.slice e)) (heT : P.underlying e = some (.int .u8)) (hx : okOpd x x' = true) {c : Prop} {l : List UInt8} (ex : (rd fr x').un = (c, .p (.str l))) :
    Eff1 P o fr L (c ∧ l.length ≤ 140737488355328) ((fr.map (·.kill (.l dd))).set dd (.row (.l dd))) (Zak L (.l dd) (.row (l.map fun q => [.int .u8 (q.toNat : Nat)]) e 1 false)) := by
  intro E B w ι a hs ⟨h1, h2⟩
  have hv := PRep.str_eq (rdP hs.2.1 hx ex h1)
  generalize hst : (⟨l.toArray⟩ : ByteArray) = st at hv
  have hsz : st.size = l.length := by rw [← hst]; simp [ByteArray.size]
  have hdat : st.data.toList = l := by rw [← hst]
  have hrun := Lib.run_convert_string_bytes (P := P) w s d e st hsT hdT heT
  have hG : Grow w (Lib.bytesWorld w e st) (Old L ι (.l dd)) := ⟨rfl, rfl, rfl, by rw [Lib.bytesWorld_size]; omega, fun b hb _ => Lib.bytesWorld_at_old w e st b hb⟩
  have hb : ∀ b, blk (.slice (some ⟨w.heap.size, 0, none⟩) st.size (grownCap w st.size 0 e)) = some b → w.heap.size ≤ b ∨ Old L ι (.l dd) b := fun b e => by simp only [blk, Option.some.injEq] at e; omega
  have hge := grownCap_ge w st.size 0 e
  have hle := grownCap_le_maxLen w st.size 0 e (by unfold maxLen; omega)
  have hcs : (Lib.bytesCells w e st).size = grownCap w st.size 0 e := by
    simp only [Lib.bytesCells, Array.size_append, Array.size_map, Array.size_replicate]
    have : st.data.size = st.size := rfl
    omega
  refine eff_new hd hs (v := .slice (some ⟨w.heap.size, 0, none⟩) st.size (grownCap w st.size 0 e)) (w' := Lib.bytesWorld w e st) ?_ _ hG hb ⟨l.map fun q => .int .u8 (q.toNat : Nat), ⟨by simp, .inr ⟨w.heap.size, grownCap w st.size 0 e, Lib.bytesCells w e st, _, by simp [updI, hsz], Lib.bytesWorld_at_new w e st, by simpa [hsz] using hge, hle, by simpa using hcs, ?_, .inr ⟨rfl, Nat.le_refl _⟩⟩⟩, by simp [Value.oneCell'], ?_, by simp⟩ ⟨by simp [updI], _, _, _, rfl⟩
  · simp only [execOp, ho, hv, Sem.run_bind, hrun]
    rfl
  · simp only [Lib.bytesCells, Array.toList_append, Array.toList_map, hdat, Nat.mul_one]
    rw [List.take_append_of_le_length (by simp), List.take_of_length_le (by simp)]
  · have : ∀ l : List UInt8, (l.map fun q => [PV.int .u8 (q.toNat : Nat)]).flatten = l.map fun q => PV.int .u8 (q.toNat : Nat) := by
      intro l; induction l with
      | nil => rfl
      | cons q l ih => simp only [List.map_cons, List.flatten_cons, List.singleton_append, ih]
    rw [this]
    exact PRepL.of_get (by simp) (fun j x v hx hv => by rw [List.getElem?_map, Option.map_eq_some_iff] at hx hv; obtain ⟨q1, e1, rfl⟩ := hx; obtain ⟨q2, e2, rfl⟩ := hv; rw [e1] at e2; cases e2; rfl)

theorem made_flat (zc : Array Value) (z : Nat) (hz : zc.size = z) : ∀ n : Nat, ((List.range (n * z)).map fun j => zc[j % zc.size]!) = (List.replicate n zc.toList).flatten := by
  intro n
  induction n with
  | zero => simp
  | succ n ih =>
    rw [Nat.add_mul, Nat.one_mul, List.range_add, List.map_append, ih, List.replicate_succ', List.flatten_append]
    congr 1
    simp only [List.map_map, List.flatten_cons, List.flatten_nil, List.append_nil]
    apply List.ext_getElem
    · simp [hz]
    · intro j h1 h2
      simp only [List.length_map, List.length_range] at h1
      have e : (n * z + j) % z = j := by rw [Nat.mul_comm, Nat.mul_add_mod]; exact Nat.mod_eq_of_lt h1
      simp only [List.getElem_map, List.getElem_range, Function.comp_apply, hz, e]
      rw [getElem!_pos zc j (by omega)]
      simp

/-- make: a row of zeros. -/
theorem eff_mks {t e z by_ d : Nat} {zero : List PV} {px py : Operand} {x' y' : Opd} (ho : o.op = .makeSlice t px py) (hd : o.dst = some d) (ht : P.underlying t = some (.slice e)) (hA : appB P e z by_ = true) (hzr : zeroB P e zero = true) (hx : okOpd px x' = true) (hy : okOpd py y' = true)
    {cx cy : Prop} {kx ky : IntKind} {n c : Int} (ex : (rd fr x').un = (cx, .p (.int kx n))) (ey : (rd fr y').un = (cy, .p (.int ky c))) :
    Eff1 P o fr L (cx ∧ cy ∧ 0 ≤ n ∧ n ≤ c ∧ c * by_ ≤ 140737488355328) ((fr.map (·.kill (.l d))).set d (.row (.l d))) (Zak L (.l d) (.row (List.replicate n.toNat (zero.map wk1)) e z true)) := by
  intro E B w ι a hs ⟨c1, c2, c3, c4, c5⟩
  have hvx := PRep.int_eq (rdP hs.2.1 hx ex c1)
  have hvy := PRep.int_eq (rdP hs.2.1 hy ey c2)
  obtain ⟨i, zv, h1, h2, h3, h4, h5, h6, h7⟩ := appB_spec hA
  have hzo : okVals zv.cells.toList zero = true := by
    unfold zeroB at hzr
    rw [h1] at hzr
    simpa [h2] using hzr
  have hzrep := okVals_rep hzo
  have hc63 : c ≤ 9223372036854775807 := by
    have : c ≤ c * (by_ : Int) := by
      have := Int.mul_le_mul_of_nonneg_left (show (1 : Int) ≤ (by_ : Int) by omega) (show 0 ≤ c by omega)
      omega
    omega
  have hrun := run_make (P := P) w t e i zv ht h1 h2 kx ky n c c3 c4 (by rw [h4, Int.mul_comm]; omega) hc63
  rw [h3] at hrun
  obtain ⟨m, rfl⟩ := Int.eq_ofNat_of_zero_le c3
  obtain ⟨cc, rfl⟩ := Int.eq_ofNat_of_zero_le (show 0 ≤ c by omega)
  simp only [Int.toNat_natCast] at hrun ⊢
  have hG : Grow w (w.alloc (.cells (madeCells zv.cells (cc * z)) e)) (Old L ι (.l d)) := grow_alloc _ _ _
  have hb : ∀ b, blk (.slice (some ⟨w.heap.size, 0, none⟩) m cc) = some b → w.heap.size ≤ b ∨ Old L ι (.l d) b := fun b e => by simp only [blk, Option.some.injEq] at e; omega
  have hzl : zv.cells.toList.length = z := by simpa using h5
  have hcells : ∀ (m : Nat), ((List.replicate m zv.cells.toList).flatten).length = m * z := by
    intro m
    induction m with
    | zero => simp
    | succ m ih => rw [List.replicate_succ, List.flatten_cons, List.length_append, ih, hzl, Nat.add_mul]; omega
  have hrepl : ∀ (m : Nat) (w : World) (U : Nat → Prop), PRepL w U (List.replicate m (zero.map wk1)).flatten (List.replicate m zv.cells.toList).flatten := by
    intro m w U
    induction m with
    | zero => simp [PRepL]
    | succ m ih => rw [List.replicate_succ, List.replicate_succ, List.flatten_cons, List.flatten_cons]; exact (hzrep w U).1.wk1.append ih
  have h1c : ∀ (m : Nat), ∀ v ∈ (List.replicate m zv.cells.toList).flatten, v.oneCell' = true := by
    intro m v hv
    obtain ⟨l, hl, hv⟩ := List.mem_flatten.1 hv
    rw [List.eq_of_mem_replicate hl] at hv
    exact (hzrep w (fun _ => False)).1.oneCells (hzrep w (fun _ => False)).2 v hv
  have hzlen : (zero.map wk1).length = z := by rw [List.length_map, ← (hzrep w (fun _ => False)).1.length]; exact hzl
  refine eff_new hd hs (v := .slice (some ⟨w.heap.size, 0, none⟩) m cc) (w' := w.alloc (.cells (madeCells zv.cells (cc * z)) e)) ?_ _ hG hb ⟨(List.replicate m zv.cells.toList).flatten, ⟨by rw [List.length_replicate]; exact hcells m, .inr ⟨w.heap.size, cc, madeCells zv.cells (cc * z), (0, 0), by simp [updI], heap_alloc_new w _, by rw [List.length_replicate]; omega, by unfold maxLen; omega, size_madeCells _ _, ?_, .inl rfl⟩⟩, h1c m, hrepl m _ _, fun x hx => by rw [List.eq_of_mem_replicate hx]; exact hzlen⟩ ⟨by simp [updI], _, _, _, rfl⟩
  · simp only [execOp, ho, hvx, hvy, Sem.run_bind, hrun]
    rfl
  · rw [List.length_replicate]
    have e1 : (madeCells zv.cells (cc * z)).toList = (List.range (cc * z)).map fun j => zv.cells[j % zv.cells.size]! := by
      simp [madeCells]
    have hle : m * z ≤ cc * z := Nat.mul_le_mul_right _ (by omega)
    rw [e1, ← List.map_take, List.take_range, Nat.min_eq_left hle]
    exact made_flat zv.cells z h5 m

/-- cap(nil). -/
theorem snd_cap0 {t e : TypeId} {x : Operand} {x' : Opd} (ho : o.op = .call { callee := .builtin .cap, args := #[x], argTypes := #[t] }) (ht : P.underlying t = some (.slice e)) (hx : okOpd x x' = true) {c : Prop} {r : AV}
    (h : Ze fr L (.cap0 x') = some (c, r)) : Val1 P o fr L c r := by
  simp only [Ze] at h
  split at h
  · rename_i cx z ex
    simp only [Option.some.injEq, Prod.mk.injEq] at h
    obtain ⟨rfl, rfl⟩ := h
    refine Val1.same fun E B w ι a hs h1 => ⟨.int .i64 0, ?_, rfl⟩
    have rx : a.eval x = .slice none 0 0 := rdP hs.2.1 hx ex h1
    rw [run_builtin _ _ _ a ho]
    simp [builtin, Builtin.cap_, run_underlying ht, rx, goInt]
  · cases h

/-- nil[:0]. -/
theorem snd_vsn {t e : TypeId} {x hi : Operand} {x' hi' : Opd} (ho : o.op = .slice t x none (some hi) none) (ht : P.underlying t = some (.slice e)) (hz : (P.info? e).isSome = true) (hx : okOpd x x' = true) (hh : okOpd hi hi' = true) {c : Prop} {r : AV}
    (h : Ze fr L (.vsn x' hi') = some (c, r)) : Val1 P o fr L c r := by
  simp only [Ze] at h
  split at h
  · rename_i cx z ch k n ex eh
    simp only [Option.some.injEq, Prod.mk.injEq] at h
    obtain ⟨rfl, rfl⟩ := h
    refine Val1.same fun E B w ι a hs ⟨h1, h2, h3⟩ => ⟨.slice none 0 0, ?_, rfl⟩
    have rx : a.eval x = .slice none 0 0 := rdP hs.2.1 hx ex h1
    have rh := PRep.int_eq (rdP hs.2.1 hh eh h2)
    subst h3
    obtain ⟨i, hi⟩ := Option.isSome_iff_exists.1 hz
    simp [execOp, ho, rx, rh, Instr.sliceAt, run_underlying ht, Instr.slice, Instr.sliceBounds, Instr.sliceBound, asIntOf, sizeOf, typeInfo, hi]
  · cases h

theorem zero_flat (zc : Array Value) (n : Nat) : (Builtin.zeroCells zc n).toList = (List.replicate n zc.toList).flatten := by
  simp only [Builtin.zeroCells, Array.toList_map, Array.toList_range]
  exact made_flat zc zc.size rfl n
theorem take_flat {z : Nat} : ∀ (es : List (List PV)) (m : Nat), (∀ x ∈ es, x.length = z) → m ≤ es.length → (es.take m).flatten = es.flatten.take (m * z) := by
  intro es m
  induction m generalizing es with
  | zero => simp
  | succ m ih =>
    intro e6 hml
    cases es with
    | nil => simp
    | cons y r =>
      have hy : y.length = z := e6 y (by simp)
      rw [List.take_succ_cons, List.flatten_cons, List.flatten_cons, ih r (fun u hu => e6 u (by simp [hu])) (by simp at hml; omega), Nat.add_mul, Nat.one_mul, List.take_append, List.take_of_length_le (l := y) (by omega)]
      congr 2
      omega

/-- append(nil, make([]T, n)...). -/
theorem eff_apz {t tn e z by_ d : Nat} {zero : List PV} {px py : Operand} {x' y' : Opd} {kn : IntKind} (ho : o.op = .call { callee := .builtin .append, args := #[px, py], argTypes := #[t, tn] }) (hd : o.dst = some d) (ht : P.underlying t = some (.slice e)) (htn : P.underlying tn = some (.int kn)) (hA : appB P e z by_ = true) (hzr : zeroB P e zero = true) (hx : okOpd px x' = true) (hy : okOpd py y' = true)
    {cx cy : Prop} {z0 : Nat} {ky : IntKind} {n : Int} (ex : (rd fr x').un = (cx, .p (.nl z0))) (ey : (rd fr y').un = (cy, .p (.int ky n))) :
    Eff1 P o fr L (cx ∧ cy ∧ 0 < n ∧ n * by_ ≤ 140737488355328) ((fr.map (·.kill (.l d))).set d (.row (.l d))) (Zak L (.l d) (.row (List.replicate n.toNat (zero.map wk1)) e z true)) := by
  intro E B w ι a hs ⟨c1, c2, c3, c5⟩
  have hvx : a.eval px = .slice none 0 0 := rdP hs.2.1 hx ex c1
  have hvy := PRep.int_eq (rdP hs.2.1 hy ey c2)
  obtain ⟨i, zv, h1, h2, h3, h4, h5, h6, h7⟩ := appB_spec hA
  have hzo : okVals zv.cells.toList zero = true := by
    unfold zeroB at hzr
    rw [h1] at hzr
    simpa [h2] using hzr
  have hzrep := okVals_rep hzo
  obtain ⟨m, rfl⟩ := Int.eq_ofNat_of_zero_le (show 0 ≤ n by omega)
  rw [Int.toNat_natCast]
  have hmb : m * by_ ≤ 140737488355328 := by omega
  have hmle : m ≤ m * by_ := Nat.le_mul_of_pos_right _ h7
  have hrun := Lib.run_append_nil_zeros (P := P) w t tn o.type e i zv ky kn ht htn h1 h2 m (by omega) (by omega) (by omega) (by rw [h4]; omega)
  have hge := grownCap_ge w m 0 e
  have hle := grownCap_le_maxLen w m 0 e (by unfold maxLen; omega)
  generalize hcc : grownCap w m 0 e = cc at *
  have hG : Grow w (w.drew.alloc (.cells (Builtin.zeroCells zv.cells m ++ Builtin.zeroCells zv.cells (cc - m)) e)) (Old L ι (.l d)) := ⟨rfl, rfl, rfl, by simp, fun b hb _ => hao w.drew _ hb⟩
  have hb : ∀ b, blk (.slice (some ⟨w.heap.size, 0, none⟩) m cc) = some b → w.heap.size ≤ b ∨ Old L ι (.l d) b := fun b e => by simp only [blk, Option.some.injEq] at e; omega
  have hzl : zv.cells.toList.length = z := by simpa using h5
  have hcells : ∀ (m : Nat), ((List.replicate m zv.cells.toList).flatten).length = m * z := by
    intro m
    induction m with
    | zero => simp
    | succ m ih => rw [List.replicate_succ, List.flatten_cons, List.length_append, ih, hzl, Nat.add_mul]; omega
  have hrepl : ∀ (m : Nat) (w : World) (U : Nat → Prop), PRepL w U (List.replicate m (zero.map wk1)).flatten (List.replicate m zv.cells.toList).flatten := by
    intro m w U
    induction m with
    | zero => simp [PRepL]
    | succ m ih => rw [List.replicate_succ, List.replicate_succ, List.flatten_cons, List.flatten_cons]; exact (hzrep w U).1.wk1.append ih
  have h1c : ∀ (m : Nat), ∀ v ∈ (List.replicate m zv.cells.toList).flatten, v.oneCell' = true := by
    intro m v hv
    obtain ⟨l, hl, hv⟩ := List.mem_flatten.1 hv
    rw [List.eq_of_mem_replicate hl] at hv
    exact (hzrep w (fun _ => False)).1.oneCells (hzrep w (fun _ => False)).2 v hv
  have hzlen : (zero.map wk1).length = z := by rw [List.length_map, ← (hzrep w (fun _ => False)).1.length]; exact hzl
  refine eff_new hd hs (v := .slice (some ⟨w.heap.size, 0, none⟩) m cc) (w' := w.drew.alloc (.cells (Builtin.zeroCells zv.cells m ++ Builtin.zeroCells zv.cells (cc - m)) e)) ?_ _ hG hb ⟨(List.replicate m zv.cells.toList).flatten, ⟨by rw [List.length_replicate]; exact hcells m, .inr ⟨w.heap.size, cc, _, (0, 0), by simp [updI], heap_alloc_new w.drew _, by rw [List.length_replicate]; omega, hle, ?_, ?_, .inl rfl⟩⟩, h1c m, hrepl m _ _, fun x hx => by rw [List.eq_of_mem_replicate hx]; exact hzlen⟩ ⟨by simp [updI], _, _, _, rfl⟩
  · rw [run_builtin _ _ _ a ho]
    simp only [builtin, Sem.run_bind, List.map_toArray, List.map_cons, List.map_nil, hvx, hvy]
    rw [hrun]
    rfl
  · rw [← Array.length_toList, Array.toList_append, List.length_append, zero_flat, zero_flat, hcells, hcells, ← Nat.add_mul]
    congr 1
    omega
  · rw [Array.toList_append, zero_flat, List.length_replicate, List.take_append_of_le_length (by rw [hcells]; omega), List.take_of_length_le (by rw [hcells]; omega)]

/-- A row of one's own, cut short. -/
theorem eff_trn {t e : TypeId} {z d i : Nat} {x hi : Operand} {x' hi' : Opd} (ho : o.op = .slice t x none (some hi) none) (hd : o.dst = some d) (ht : P.underlying t = some (.slice e)) (hz : sizeB P e z = true) (hx : okOpd x x' = true) (hh : okOpd hi hi' = true)
    {cx ch : Prop} {k : IntKind} {n : Int} {es : List (List PV)} {et : TypeId} (ex : (rd fr x').un = (cx, .row (.l i))) (eh : (rd fr hi').un = (ch, .p (.int k n))) (hl : Zah L (.l i) = some (.row es et z true)) :
    Eff1 P o fr L (cx ∧ ch ∧ 0 ≤ n ∧ n ≤ es.length) ((fr.map (·.kill (.l i))).set d (.row (.l i))) (Zak L (.l i) (.row (es.take n.toNat) et z true)) := by
  intro E B w ι a hs ⟨c1, c2, c3, c4⟩
  have hv : ARep w _ ι (.row (.l i)) (a.eval x) := rdP hs.2.1 hx ex c1
  have rh := PRep.int_eq (rdP hs.2.1 hh eh c2)
  obtain ⟨vs, hrow, e4, e5, e6⟩ := hs.1.sim.obj _ _ hl
  obtain ⟨m, rfl⟩ := Int.eq_ofNat_of_zero_le c3
  simp only [Int.toNat_natCast] at *
  have hml : m ≤ es.length := by omega
  have hfl := take_flat es m e6 hml
  have hlen : vs.length = es.length * z := hrow.1
  have hmz : m * z ≤ es.length * z := Nat.mul_le_mul_right _ hml
  have hvs : (vs.take (m * z)).length = m * z := by rw [List.length_take, hlen]; omega
  obtain ⟨A, cp, hA, hcp, hrow'⟩ : ∃ A cp, ι (.l i) = .slice A es.length cp ∧ es.length ≤ cp ∧ RowOk w et z true (.slice A m cp) m (vs.take (m * z)) := by
    rcases hrow.2 with ⟨q1, q2⟩ | ⟨g, cap, cur, fz, q1, q2, q3, q4, q5, q6, q7⟩
    · have hm0 : m = 0 := by omega
      subst hm0
      exact ⟨none, 0, by rw [q1, q2], by omega, by simp, .inl ⟨rfl, rfl⟩⟩
    · exact ⟨_, cap, q1, q3, hvs, .inr ⟨g, cap, cur, fz, rfl, q2, by omega, q4, q5, by rw [← q6, List.take_take, Nat.min_eq_left hmz], q7⟩⟩
  have hbk : blk (.slice A m cp) = blk (ι (.l i)) := by rw [hA]; cases A <;> rfl
  have hG : Grow w w (Old L ι (.l i)) := Grow.refl _ _
  have hb : ∀ b, blk (.slice A m cp) = some b → w.heap.size ≤ b ∨ Old L ι (.l i) b := fun b hb => .inr ⟨_, hl, by rw [← hbk]; exact hb⟩
  have hk := upd_keeps (X := B.X) (ao := .row (es.take m) et z true) (fun b hb => hs.1.x_lt hb) hG hb
  have hml' : (es.take m).length = m := by rw [List.length_take]; omega
  have hobj : ObjOk w (fun b => Own (Zak L (.l i) (.row (es.take m) et z true)) (updI ι (.l i) (.slice A m cp)) b ∨ B.X b) (updI ι (.l i) (.slice A m cp)) (.l i) (.row (es.take m) et z true) := by
    refine ⟨vs.take (m * z), by rw [hml']; simpa [updI] using hrow', fun u hu => e4 u (List.mem_of_mem_take hu), ?_, fun y hy => e6 y (List.mem_of_mem_take hy)⟩
    rw [hfl]
    exact PRepL.mono hk _ _ (e5.take _)
  have h1 := hs.upd i (.slice A m cp) (.row (es.take m) et z true) hG hb hobj
  refine ⟨.slice A m cp, .value (.slice A m cp), w, _, ?_, .inl rfl, h1.1, ?_, by rw [Act.put_defers']; exact h1.2.2⟩
  · have hmc : m ≤ cp := by omega
    have := hv.1
    rw [hA] at this
    simp [execOp, ho, this, rh, Instr.sliceAt, run_underlying ht, Instr.slice, Instr.sliceBounds, Instr.sliceBound, asIntOf, run_size hz, hmc]
    cases A <;> simp [Addr.add]
  · rw [hd]
    exact h1.2.1.put d ⟨by simp [updI], _, _, _, rfl⟩
end
end Go.Proofs.YtpddiepfolfnoaaDoor
