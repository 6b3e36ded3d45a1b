/- The check is right: what passes it means what it says. -/
import Derived.Test.YtpddiepfolfnoaaDoorA15
namespace Go.Proofs.YtpddiepfolfnoaaDoor
set_option linter.unusedVariables false
set_option linter.unusedSimpArgs false
set_option linter.defProp false

section
variable {P : Program} {E : Envt} {B : Base} {w w' : World} {L : Objs} {ι : Key → Value} {fr : List AV} {a : Act} {X : Nat → Prop} {o : Oper} {U : Nat → Prop}

theorem strT_eq {t : TypeId} (h : strT P t = true) : P.underlying t = some .string := by
  unfold strT at h; split at h
  · assumption
  · cases h
theorem boolT_eq {t : TypeId} (h : boolT P t = true) : P.underlying t = some .bool := by
  unfold boolT at h; split at h
  · assumption
  · cases h
theorem slT_eq {t e : TypeId} (h : slT P t = some e) : P.underlying t = some (.slice e) := by
  unfold slT at h; split at h
  · cases h; assumption
  · cases h
theorem intT_eq {t : TypeId} {k : IntKind} (h : intT P t = some k) : P.underlying t = some (.int k) := by
  unfold intT at h; split at h
  · cases h; assumption
  · cases h

theorem arr_of_list {α : Type} {a : Array α} {l : List α} (h : a.toList = l) : a = l.toArray := by rw [← h]

/-- Class A operations. -/
theorem step_sound {i : IOp} (hchk : chkOp P o.op i = true) {c : Prop} {r : AV} (h : Ze fr L i = some (c, r)) : Val1 P o fr L c r := by
  unfold chkOp at hchk
  split at hchk
  · rename_i x y ho; simp only [Ze, Option.some.injEq, Prod.mk.injEq] at h; obtain ⟨rfl, rfl⟩ := h; exact snd_mov (.inl ho) hchk
  · rename_i x y ho; simp only [Ze, Option.some.injEq, Prod.mk.injEq] at h; obtain ⟨rfl, rfl⟩ := h; exact snd_mov (.inr ho) hchk
  · simp [Ze] at h
  · simp [Ze] at h
  · rename_i x1 x2 x3 y1 y2 y3 ho
    simp only [Bool.and_eq_true] at hchk
    simp only [Ze] at h
    split at h
    · simp only [Option.some.injEq, Prod.mk.injEq] at h; obtain ⟨rfl, rfl⟩ := h
      exact snd_pick ho hchk.1.1 hchk.1.2 hchk.2 ‹_› ‹_› ‹_›
    · simp only [Option.some.injEq, Prod.mk.injEq] at h; obtain ⟨rfl, rfl⟩ := h
      exact snd_pick1 ho hchk.1.1 hchk.1.2 ‹_› ‹_›
    · simp only [Option.some.injEq, Prod.mk.injEq] at h; obtain ⟨rfl, rfl⟩ := h
      exact snd_pick2 ho hchk.1.1 hchk.2 ‹_› ‹_›
    · cases h
  · rename_i op t x y t' op' x' y' ho
    simp only [Bool.and_eq_true, beq_iff_eq] at hchk
    obtain ⟨⟨rfl, h1⟩, h2⟩ := hchk
    exact snd_bin ho h1 h2 h
  · rename_i op t x y t' op' x' y' ho
    simp only [Bool.and_eq_true, beq_iff_eq] at hchk
    obtain ⟨⟨⟨rfl, h1⟩, h2⟩, h3⟩ := hchk
    exact snd_bnb ho (boolT_eq h3) h1 h2 h
  · rename_i op t x y t' neg ks x' y' ho
    simp only [Bool.and_eq_true, beq_iff_eq] at hchk
    obtain ⟨⟨⟨h0, h1⟩, h2⟩, h3⟩ := hchk
    subst h0
    exact snd_eqa ho h3 h1 h2 h
  · rename_i t x x' ho; exact snd_not ho hchk h
  · rename_i t x x' ho; exact snd_neg ho hchk h
  · rename_i args ts x' ho
    split at hchk
    · rename_i x t e1 e2
      simp only [Bool.and_eq_true] at hchk
      obtain ⟨e, he⟩ := Option.isSome_iff_exists.1 hchk.2
      rw [arr_of_list e1, arr_of_list e2] at ho
      exact snd_len ho (slT_eq he) hchk.1 h
    · cases hchk
  · rename_i args ts x' ho
    split at hchk
    · rename_i x t e1 e2
      simp only [Bool.and_eq_true] at hchk
      rw [arr_of_list e1, arr_of_list e2] at ho
      exact snd_sln ho (strT_eq hchk.2) hchk.1 h
    · cases hchk
  · rename_i args ts x' y' ho
    split at hchk
    · rename_i x y e1
      simp only [Bool.and_eq_true] at hchk
      rw [arr_of_list e1] at ho
      exact snd_mx ho hchk.1 hchk.2 h
    · cases hchk
  · rename_i args ts x' y' ho
    split at hchk
    · rename_i x y e1
      simp only [Bool.and_eq_true] at hchk
      rw [arr_of_list e1] at ho
      exact snd_mn ho hchk.1 hchk.2 h
    · cases hchk
  · rename_i t x i x' i' ho
    simp only [Bool.and_eq_true] at hchk
    exact snd_idx ho (strT_eq hchk.2) hchk.1.1 hchk.1.2 h
  · rename_i t x lo hi x' lo' hi' ho
    simp only [Bool.and_eq_true] at hchk
    exact snd_ssl ho (strT_eq hchk.2) hchk.1.1.1 hchk.1.1.2 hchk.1.2 h
  · rename_i t x lo hi z x' lo' hi' ho
    simp only [Bool.and_eq_true] at hchk
    obtain ⟨⟨⟨h1, h2⟩, h3⟩, h4⟩ := hchk
    split at h4
    · rename_i e he; exact snd_vsl ho (slT_eq he) h4 h1 h2 h3 h
    · cases h4
  · rename_i t x i z x' i' ho
    simp only [Bool.and_eq_true] at hchk
    obtain ⟨⟨h1, h2⟩, h4⟩ := hchk
    split at h4
    · rename_i e he; exact snd_ixa ho (slT_eq he) h4 h1 h2 h
    · cases h4
  · rename_i s x f off x' ho
    simp only [Bool.and_eq_true] at hchk
    obtain ⟨h1, h4⟩ := hchk
    split at h4
    · rename_i fs hfs
      split at h4
      · rename_i fd hfd
        simp only [Bool.and_eq_true, beq_iff_eq, decide_eq_true_eq] at h4
        have hsz : ∃ n, sizeB P fd.type (n + 1) = true := by
          have := h4.2
          unfold Program.cellsOf at this
          cases hi : P.info? fd.type with
          | none => rw [hi] at this; simp at this
          | some i => rw [hi] at this; simp at this; exact ⟨i.size - 1, by simp [sizeB, hi]; omega⟩
        obtain ⟨n, hn⟩ := hsz
        exact snd_fla (sz := n) ho (by unfold fieldB; rw [hfs]; simp only [hfd, h4.1, hn]; simp) h1 h
      · cases h4
    · cases h4
  · rename_i s x f off sz ag x' ho
    simp only [Bool.and_eq_true] at hchk
    obtain ⟨h1, h4⟩ := hchk
    split at h4
    · rename_i fs hfs
      split at h4
      · rename_i fd hfd
        simp only [Bool.and_eq_true, beq_iff_eq, Bool.or_eq_true] at h4
        obtain ⟨⟨⟨k1, k2⟩, k3⟩, k4⟩ := h4
        exact snd_fld ho fs fd hfs hfd k1 k2 k3 (fun e => by rcases k4 with k4 | k4; rw [e] at k4; cases k4; exact k4) h1 h
      · cases h4
    · cases h4
  · rename_i t x sz ag x' ho
    simp only [Bool.and_eq_true, Bool.or_eq_true, beq_iff_eq] at hchk
    obtain ⟨⟨⟨k1, k2⟩, k3⟩, k4⟩ := hchk
    exact snd_ld ho k2 k3 (fun e => by rcases k4 with k4 | k4; rw [e] at k4; cases k4; exact k4) k1 h
  · rename_i x i i' x' ho
    simp only [Bool.and_eq_true, beq_iff_eq] at hchk
    obtain ⟨h1, rfl⟩ := hchk
    exact snd_ext ho h1 h
  · rename_i t parts zero parts' ho
    simp only [Bool.and_eq_true] at hchk
    obtain ⟨h1, h2⟩ := hchk
    split at h2
    · rename_i fs hfs
      simp only [Bool.and_eq_true] at h2
      exact snd_bld ho hfs h1 (by simp only [placesB, Bool.and_eq_true, beq_iff_eq]; exact ⟨by simp, h2.2⟩) h2.1 h
    · cases h2
  · rename_i s d x k x' ho
    simp only [Bool.and_eq_true, beq_iff_eq] at hchk
    exact snd_cvi ho hchk.1.2 (intT_eq hchk.2) hchk.1.1 h
  · rename_i s d x x' ho
    simp only [Bool.and_eq_true] at hchk
    obtain ⟨k, hk⟩ := Option.isSome_iff_exists.1 hchk.1.2
    exact snd_cvs ho (intT_eq hk) (strT_eq hchk.2) hchk.1.1 h
  · rename_i s d x x' ho
    simp only [Bool.and_eq_true] at hchk
    obtain ⟨⟨h1, h2⟩, h3⟩ := hchk
    split at h3
    · rename_i e he
      simp only [beq_iff_eq] at h3
      exact snd_b2s ho (slT_eq he) (intT_eq h3) (strT_eq h2) h1 h
    · cases h3
  · simp [Ze] at h
  · rename_i t n parts z parts' ho
    simp only [Bool.and_eq_true, beq_iff_eq, decide_eq_true_eq] at hchk
    obtain ⟨⟨⟨h1, h2⟩, h3⟩, h4⟩ := hchk
    split at h1
    · rename_i e he
      simp only [Bool.and_eq_true] at h1
      exact snd_bsl ho (slT_eq he) h1.1 h1.2 h2 h3 h4 h
    · cases h1
  · simp [Ze] at h
  · rename_i x x' ho; exact snd_nck ho hchk h
  · rename_i f first caps f' caps' ho
    simp only [Bool.and_eq_true, beq_iff_eq, List.isEmpty_iff] at hchk
    obtain ⟨⟨rfl, h1⟩, h2⟩ := hchk
    rw [arr_of_list h1] at ho
    exact snd_mkf ho h2 h
  · simp [Ze] at h
  · simp [Ze] at h
  · simp [Ze] at h
  · simp [Ze] at h
  · simp [Ze] at h
  · simp [Ze] at h
  · simp [Ze] at h
  · simp [Ze] at h
  · rename_i args ts x' ho
    split at hchk
    · rename_i x t e1 e2
      simp only [Bool.and_eq_true] at hchk
      obtain ⟨e, he⟩ := Option.isSome_iff_exists.1 hchk.2
      rw [arr_of_list e1, arr_of_list e2] at ho
      exact snd_cap0 ho (slT_eq he) hchk.1 h
    · cases hchk
  · rename_i t x hi x' hi' ho
    simp only [Bool.and_eq_true] at hchk
    obtain ⟨⟨h1, h2⟩, h3⟩ := hchk
    split at h3
    · rename_i e he; exact snd_vsn ho (slT_eq he) h3 h1 h2 h
    · cases h3
  · simp [Ze] at h
  · simp [Ze] at h
  · simp [Ze] at h
  · simp [Ze] at h
  · simp [Ze] at h
  · rename_i t m k ok ok' zero m' k' ho
    simp only [Bool.and_eq_true, beq_iff_eq] at hchk
    obtain ⟨⟨⟨rfl, h1⟩, h2⟩, h3⟩ := hchk
    split at h3
    · rename_i kt et ht
      simp only [Bool.and_eq_true] at h3
      exact snd_mpl ho ht (strT_eq h3.1) h3.2 h1 h2 h
    · cases h3
  · rename_i args ts x' ho
    split at hchk
    · rename_i x t e1 e2
      simp only [Bool.and_eq_true] at hchk
      obtain ⟨h1, h2⟩ := hchk
      split at h2
      · rename_i kt et ht
        rw [arr_of_list e1, arr_of_list e2] at ho
        exact snd_mpn ho ht h1 h
      · cases h2
    · cases hchk
  · cases hchk

theorem step_eff {i : IOp} {d : Option Nat} (hchk : chkOp P o.op i = true) (hd : o.dst = d) {c : Prop} {fr' : List AV} {L' : Objs} (h : (Ze fr L i).map (fun q => (q.1, Zf fr d q.2, L)) = some (c, fr', L')) : Eff1 P o fr L c fr' L' := by
  obtain ⟨⟨c1, r⟩, e1, e2⟩ := Option.map_eq_some_iff.1 h
  simp only [Prod.mk.injEq] at e2
  obtain ⟨rfl, rfl, rfl⟩ := e2
  have hv := step_sound hchk e1
  cases d with
  | none => exact hv.eff0 hd
  | some d => exact hv.eff hd

theorem un_slot {x : Opd} {c : Prop} {q : AV} (h : (rd fr x).un = (c, q)) : (rd fr x).un.1 = c ∧ (rd fr x).un.2 = q := by rw [h]; exact ⟨rfl, rfl⟩

theorem estep_sound {i : IOp} {d : Option Nat} (hchk : chkOp P o.op i = true) (hd : o.dst = d) (hst : isSt i = true → d = none) {c : Prop} {fr' : List AV} {L' : Objs} (h : Zd d fr L i = some (c, fr', L')) : Eff1 P o fr L c fr' L' := by
  have hchk0 := hchk
  unfold chkOp at hchk
  split at hchk
  · exact step_eff hchk0 hd h
  · exact step_eff hchk0 hd h
  · rename_i x e z ho
    simp only [Zd] at h
    split at h
    · simp only [Option.some.injEq, Prod.mk.injEq] at h; obtain ⟨rfl, rfl, rfl⟩ := h
      exact eff_nilr (.inl ho) hchk hd
    · cases h
  · rename_i x e z ho
    simp only [Zd] at h
    split at h
    · simp only [Option.some.injEq, Prod.mk.injEq] at h; obtain ⟨rfl, rfl, rfl⟩ := h
      exact eff_nilr (.inr ho) hchk hd
    · cases h
  · exact step_eff hchk0 hd h
  · exact step_eff hchk0 hd h
  · exact step_eff hchk0 hd h
  · exact step_eff hchk0 hd h
  · exact step_eff hchk0 hd h
  · exact step_eff hchk0 hd h
  · exact step_eff hchk0 hd h
  · exact step_eff hchk0 hd h
  · exact step_eff hchk0 hd h
  · exact step_eff hchk0 hd h
  · exact step_eff hchk0 hd h
  · exact step_eff hchk0 hd h
  · exact step_eff hchk0 hd h
  · exact step_eff hchk0 hd h
  · exact step_eff hchk0 hd h
  · exact step_eff hchk0 hd h
  · exact step_eff hchk0 hd h
  · exact step_eff hchk0 hd h
  · exact step_eff hchk0 hd h
  · exact step_eff hchk0 hd h
  · exact step_eff hchk0 hd h
  · exact step_eff hchk0 hd h
  · rename_i s dT x e x' ho
    simp only [Bool.and_eq_true, beq_iff_eq] at hchk
    obtain ⟨⟨⟨h1, h2⟩, h3⟩, h4⟩ := hchk
    obtain ⟨u0, hu0⟩ := Option.isSome_iff_exists.1 h2
    simp only [Zd] at h
    split at h
    · rename_i d' c' l ex
      simp only [Option.some.injEq, Prod.mk.injEq] at h; obtain ⟨rfl, rfl, rfl⟩ := h
      exact eff_s2b ho hd hu0 (slT_eq h3) (intT_eq h4) h1 ex
    · cases h
  · exact step_eff hchk0 hd h
  · rename_i t n parts e z parts' ho
    simp only [Bool.and_eq_true, beq_iff_eq, decide_eq_true_eq] at hchk
    obtain ⟨⟨⟨⟨⟨⟨h1, h2⟩, h3⟩, h4⟩, h5⟩, h6⟩, h7⟩ := hchk
    simp only [Zd] at h
    split at h
    · rename_i d' c' es eb
      simp only [Option.some.injEq, Prod.mk.injEq] at h; obtain ⟨rfl, rfl, rfl⟩ := h
      exact eff_bsr ho hd (slT_eq h1) h2 h3 h4 h5 h6 h7 eb
    · cases h
  · exact step_eff hchk0 hd h
  · exact step_eff hchk0 hd h
  · rename_i t t' zero ho
    simp only [Bool.and_eq_true, beq_iff_eq] at hchk
    obtain ⟨rfl, h1⟩ := hchk
    simp only [Zd] at h
    split at h
    · simp only [Option.some.injEq, Prod.mk.injEq] at h; obtain ⟨rfl, rfl, rfl⟩ := h
      exact eff_alc ho h1 hd
    · cases h
  · rename_i t x t' x' ho
    simp only [Bool.and_eq_true, beq_iff_eq] at hchk
    obtain ⟨rfl, h1⟩ := hchk
    simp only [Zd] at h
    split at h
    · rename_i d' c' v ex
      split at h
      · rename_i hfl
        simp only [Option.some.injEq, Prod.mk.injEq] at h; obtain ⟨rfl, rfl, rfl⟩ := h
        exact eff_boxp ho h1 hd ex hfl
      · cases h
    · rename_i d' c' k ex
      simp only [Option.some.injEq, Prod.mk.injEq] at h; obtain ⟨rfl, rfl, rfl⟩ := h
      exact eff_boxr ho h1 hd ex
    · cases h
  · rename_i t p x sz p' x' ho
    simp only [Bool.and_eq_true] at hchk
    obtain ⟨⟨h1, h2⟩, h3⟩ := hchk
    have hdn := hst rfl
    rw [hdn] at hd
    simp only [Zd] at h
    split at h
    · rename_i cp k of cx v ep ex
      split at h
      · rename_i cs bt hl
        split at h
        · rename_i hc
          simp only [Option.some.injEq, Prod.mk.injEq] at h; obtain ⟨rfl, rfl, rfl⟩ := h
          intro E B w ι a hs ⟨k1, k2⟩
          have hp := rdP hs.2.1 h1 ep k1
          have hv : PRep w _ v (a.eval x) := rdP hs.2.1 h2 ex k2
          have hcl := hv.cells (flatL_notTup hc.2.2)
          exact eff_stb ho hd h3 hl hc.1 hs hp ((Zy v).map .p) (by rw [hcl.length, hc.2.1]) (by simpa using hc.2.1) (hcl.oneCells hc.2.2) (fun j y hy => by
            rw [List.getElem?_map, Option.map_eq_some_iff] at hy
            obtain ⟨q, hq, rfl⟩ := hy
            exact hcl.get hq)
        · cases h
      · cases h
    · rename_i cp k of cx k' ep ex
      split at h
      · rename_i cs bt hl
        split at h
        · rename_i hc
          obtain ⟨hc1, rfl⟩ := hc
          simp only [Option.some.injEq, Prod.mk.injEq] at h; obtain ⟨rfl, rfl, rfl⟩ := h
          intro E B w ι a hs ⟨k1, k2⟩
          have hp := rdP hs.2.1 h1 ep k1
          have hv := rdP hs.2.1 h2 ex k2
          obtain ⟨A, n, cc, ev⟩ := hv.2
          have hcell : (a.eval x).cells.toList = [a.eval x] := by rw [ev]; rfl
          exact eff_stb ho hd h3 hl hc1 hs hp [.row k'] (by rw [hcell]; rfl) rfl (by rw [hcell]; simp [ev, Value.oneCell']) (fun j y hy => by
            cases j with
            | zero => simp at hy; subst hy; exact ⟨_, by rw [hcell]; rfl, hv⟩
            | succ j => simp at hy)
        · cases h
      · cases h
    · rename_i cp k z i of cx v ep ex
      split at h
      · rename_i es e z' ap hl
        split at h
        · rename_i hc
          obtain ⟨rfl, hc1, hc2, hc3⟩ := hc
          simp only [Option.some.injEq, Prod.mk.injEq] at h; obtain ⟨rfl, rfl, rfl⟩ := h
          intro E B w ι a hs ⟨k1, k2, k3⟩
          have hp := rdP hs.2.1 h1 ep k1
          have hv : PRep w _ v (a.eval x) := rdP hs.2.1 h2 ex k2
          have hcl := hv.cells (flatL_notTup hc3)
          exact eff_str ho hd h3 hl hc1 k3 hs hp ((Zy v).map wk1) (by simpa using hc2) (hcl.oneCells hc3) hcl.wk1
        · cases h
      · cases h
    · cases h
  · rename_i args ts e z by_ x' y' ho
    split at hchk
    · rename_i x y t t' e1 e2
      simp only [Bool.and_eq_true, beq_iff_eq] at hchk
      obtain ⟨⟨⟨⟨rfl, h1⟩, h2⟩, h3⟩, h4⟩ := hchk
      rw [arr_of_list e1, arr_of_list e2] at ho
      simp only [Zd] at h
      split at h
      · rename_i d' cx i z2 es2 ex ey
        split at h
        · rename_i es e' z' hl
          split at h
          · rename_i hc
            obtain ⟨rfl, rfl, rfl⟩ := hc
            simp only [Option.some.injEq, Prod.mk.injEq] at h; obtain ⟨rfl, rfl, rfl⟩ := h
            exact eff_app ho hd (slT_eq h3) h4 h1 h2 ex rfl hl ey
          · cases h
        · cases h
      · rename_i d' cx z0 z2 es2 ex ey
        split at h
        · rename_i hc
          subst hc
          simp only [Option.some.injEq, Prod.mk.injEq] at h; obtain ⟨rfl, rfl, rfl⟩ := h
          exact eff_appn ho hd (slT_eq h3) h4 h1 h2 ex rfl ey
        · cases h
      · cases h
    · cases hchk
  · rename_i t x y e z by_ zero x' y' ho
    simp only [Bool.and_eq_true, beq_iff_eq] at hchk
    obtain ⟨⟨⟨⟨h1, h2⟩, h3⟩, h4⟩, h5⟩ := hchk
    simp only [Zd] at h
    split at h
    · rename_i d' cx kx n cy ky c' ex ey
      simp only [Option.some.injEq, Prod.mk.injEq] at h; obtain ⟨rfl, rfl, rfl⟩ := h
      exact eff_mks ho hd (slT_eq h3) h4 h5 h1 h2 ex ey
    · cases h
  · exact step_eff hchk0 hd h
  · exact step_eff hchk0 hd h
  · exact step_eff hchk0 hd h
  · exact step_eff hchk0 hd h
  · exact step_eff hchk0 hd h
  · rename_i t x hi z x' hi' ho
    simp only [Bool.and_eq_true] at hchk
    obtain ⟨⟨h1, h2⟩, h3⟩ := hchk
    split at h3
    · rename_i e he
      simp only [Zd] at h
      split at h
      · rename_i d' cx i ch k n ex eh
        split at h
        · rename_i es et z' ap hl
          split at h
          · rename_i hc
            obtain ⟨rfl, rfl⟩ := hc
            simp only [Option.some.injEq, Prod.mk.injEq] at h; obtain ⟨rfl, rfl, rfl⟩ := h
            exact eff_trn ho hd (slT_eq he) h3 h1 h2 ex eh hl
          · cases h
        · cases h
      · cases h
    · cases h3
  · rename_i args ts e z by_ zero x' y' ho
    split at hchk
    · rename_i x y t t' e1 e2
      simp only [Bool.and_eq_true, beq_iff_eq] at hchk
      obtain ⟨⟨⟨⟨⟨h1, h2⟩, h3⟩, h4⟩, h5⟩, h6⟩ := hchk
      obtain ⟨kn, hkn⟩ := Option.isSome_iff_exists.1 h4
      rw [arr_of_list e1, arr_of_list e2] at ho
      simp only [Zd] at h
      split at h
      · rename_i d' cx z0 cy ky n ex ey
        simp only [Option.some.injEq, Prod.mk.injEq] at h; obtain ⟨rfl, rfl, rfl⟩ := h
        exact eff_apz ho hd (slT_eq h3) (intT_eq hkn) h5 h6 h1 h2 ex ey
      · cases h
    · cases hchk
  · rename_i t kt et ho
    simp only [Zd] at h
    split at h
    · simp only [Option.some.injEq, Prod.mk.injEq] at h; obtain ⟨rfl, rfl, rfl⟩ := h
      exact eff_mkm ho hd
    · cases h
  · rename_i t m k x m' k' x' ho
    simp only [Bool.and_eq_true] at hchk
    obtain ⟨⟨⟨h1, h2⟩, h3⟩, h4⟩ := hchk
    split at h4
    · rename_i kt et ht
      simp only [Zd] at h
      split at h
      · rename_i cm q ck s cv y em ex ev
        split at h
        · rename_i kv kt0 et0 hl
          simp only [Option.some.injEq, Prod.mk.injEq] at h; obtain ⟨rfl, rfl, rfl⟩ := h
          exact eff_mpu (.inl ho) hd ht (strT_eq h4) h1 h2 h3 em ex ev hl
        · cases h
      · cases h
    · cases h4
  · rename_i t m k x m' k' x' ho
    simp only [Bool.and_eq_true] at hchk
    obtain ⟨⟨⟨h1, h2⟩, h3⟩, h4⟩ := hchk
    split at h4
    · rename_i kt et ht
      simp only [Zd] at h
      split at h
      · rename_i cm q ck s cv y em ex ev
        split at h
        · rename_i kv kt0 et0 hl
          simp only [Option.some.injEq, Prod.mk.injEq] at h; obtain ⟨rfl, rfl, rfl⟩ := h
          exact eff_mpu (.inr ho) hd ht (strT_eq h4) h1 h2 h3 em ex ev hl
        · cases h
      · cases h
    · cases h4
  · exact step_eff hchk0 hd h
  · exact step_eff hchk0 hd h
  · cases hchk
end
end Go.Proofs.YtpddiepfolfnoaaDoor
