/- Regions that draw their order: the theorem. -/
import Derived.Test.YtpddiepfolfnoaaDoorA20
namespace Go.Proofs.YtpddiepfolfnoaaDoor
set_option linter.unusedVariables false
set_option linter.unusedSimpArgs false
set_option linter.defProp false

section
variable {P : Program} {E : Envt} {Y : List PV} {B : Base}

theorem chkOps_get {ops : Array Oper} : ∀ {js : List IOper} {os : List Oper}, chkOps P ops os js = true → (∀ i ∈ js, isFz i = false) → js.length = os.length ∧ ∀ (k : Nat) (i : IOper), js[k]? = some i → ∃ o, os[k]? = some o ∧ chkOper P ops o i = true := by
  intro js
  induction js with
  | nil => intro os h _; simp only [chkOps, List.isEmpty_iff] at h; subst h; simp
  | cons i js ih =>
    intro os h hf
    simp only [chkOps] at h
    rw [if_neg (by simp [hf i (by simp)])] at h
    split at h
    · rename_i o os'
      simp only [Bool.and_eq_true] at h
      obtain ⟨h1, h2⟩ := ih h.2 (fun j hj => hf j (by simp [hj]))
      refine ⟨by simp [h1], fun k x hx => ?_⟩
      cases k with
      | zero => simp at hx; subst hx; exact ⟨o, rfl, h.1⟩
      | succ k => simp at hx; simpa using h2 k x hx
    · cases h

theorem pairsOk_mem {ops : Array Oper} {n i : Nat} {ii : IOper} : ∀ {l : List (Nat × IOper)}, pairsOk ops n i ii l = true → ∀ y ∈ l, apartI y.2 ii = true ∨ ancB ops n i y.1 = true := by
  intro l
  induction l with
  | nil => intro _ y hy; cases hy
  | cons q l ih =>
    intro h y hy
    obtain ⟨j, jj⟩ := q
    simp only [pairsOk, Bool.and_eq_true, Bool.or_eq_true] at h
    simp only [List.mem_cons] at hy
    rcases hy with rfl | hy
    · exact h.1
    · exact ih h.2 y hy
theorem allOk_get {ops : Array Oper} {n : Nat} : ∀ {l seen : List (Nat × IOper)}, allOk ops n seen l = true → ∀ (pre : List (Nat × IOper)) (x : Nat × IOper) (post : List (Nat × IOper)), l = pre ++ x :: post → ∀ y ∈ seen ++ pre, apartI y.2 x.2 = true ∨ ancB ops n x.1 y.1 = true := by
  intro l
  induction l with
  | nil => intro seen _ pre x post h; cases pre <;> cases h
  | cons q l ih =>
    intro seen h pre x post e y hy
    obtain ⟨i, ii⟩ := q
    simp only [allOk, Bool.and_eq_true] at h
    cases pre with
    | nil =>
      simp only [List.nil_append, List.cons.injEq] at e
      obtain ⟨rfl, rfl⟩ := e
      exact pairsOk_mem h.1 y (by simpa using hy)
    | cons p pre =>
      simp only [List.cons_append, List.cons.injEq] at e
      obtain ⟨rfl, rfl⟩ := e
      exact ih h.2 pre x post rfl y (by simpa using hy)

/-- What has been done is closed under what had to be done before. -/
def ClosedL (ops : Array Oper) (listed : Array Bool) : Prop := ∀ (i : Nat) (o : Oper), ops[i]? = some o → listed.getD i false = true → ∀ e ∈ edgesB o, listed.getD e false = true

theorem anc_listed {ops : Array Oper} {listed : Array Bool} (hc : ClosedL ops listed) : ∀ (n i j : Nat) (o : Oper), ops[i]? = some o → (∀ e ∈ edgesB o, listed.getD e false = true) → ancB ops n i j = true → listed.getD j false = true := by
  intro n
  induction n with
  | zero => intro i j o _ _ h; simp [ancB] at h
  | succ n ih =>
    intro i j o ho he h
    simp only [ancB, ho, List.any_eq_true, Bool.or_eq_true, beq_iff_eq] at h
    obtain ⟨e, h1, h2⟩ := h
    rcases h2 with rfl | h2
    · exact he e h1
    · cases hoe : ops[e]? with
      | none => cases n <;> simp [ancB, hoe] at h2
      | some oe => exact ih e j oe hoe (hc e oe hoe (he e h1)) h2

theorem mem_ready {ops : Array Oper} {listed : Array Bool} {i : Nat} : i ∈ Region.ready .any ops listed ↔ ∃ o, ops[i]? = some o ∧ listed.getD i true = false ∧ ∀ e ∈ edgesB o, listed.getD e false = true := by
  simp only [Region.ready, List.mem_filter, List.mem_range, Bool.and_eq_true, Bool.not_eq_true']
  constructor
  · rintro ⟨h1, h2, h3⟩
    obtain ⟨o, ho⟩ : ∃ o, ops[i]? = some o := ⟨_, Array.getElem?_eq_getElem h1⟩
    refine ⟨o, ho, h2, fun e he => ?_⟩
    rw [ho] at h3
    simp only [Option.map_some, Option.getD_some, Array.all_eq_true'] at h3
    simp only [edgesB, List.mem_map, List.mem_filter] at he
    obtain ⟨ed, ⟨h4, h5⟩, rfl⟩ := he
    have := h3 ed (by simpa using h4)
    simpa [h5] using this
  · rintro ⟨o, ho, h2, h3⟩
    refine ⟨(Array.getElem?_eq_some_iff.1 ho).1, h2, ?_⟩
    rw [ho]
    simp only [Option.map_some, Option.getD_some, Array.all_eq_true']
    intro ed hed
    cases hb : Region.binds .any ed with
    | false => simp
    | true => simp only [Bool.not_true, Bool.false_or]; exact h3 _ (by simp only [edgesB, List.mem_map, List.mem_filter]; exact ⟨ed, ⟨by simpa using hed, hb⟩, rfl⟩)

def unl (listed : Array Bool) (p : Nat × IOper) : Bool := !listed.getD p.1 true

theorem any_ok {ops : Array Oper} {js : List IOper} {K : List AV → Objs → Prop} {Q : Exit → Act → World → Prop} (hK : ∀ fr L ι a w, K fr L → StF E B w L ι fr a → Q .normal a w) (hjs : js.length = ops.size)
    (hget : ∀ (k : Nat) (i : IOper), js[k]? = some i → ∃ o, ops[k]? = some o ∧ chkOper P ops o i = true) (hfz : ∀ i ∈ js, isFz i = false) (hall : allOk ops ops.size [] ((List.range js.length).zip js) = true)
    (hedge : ∀ (i : Nat) (o : Oper), ops[i]? = some o → ∀ e ∈ edgesB o, e < i) :
    ∀ (fuel : Nat) (listed : Array Bool) (fr : List AV) (L : Objs) (ι : Key → Value) (a : Act) (w : World), listed.size = ops.size → ClosedL ops listed → fuel = (((List.range js.length).zip js).filter (unl listed)).length →
      awpOps P E Y ((((List.range js.length).zip js).filter (unl listed)).map (·.2)) fr L K → StF E B w L ι fr a → wpAny P .any ops Q fuel listed a w := by
  intro fuel
  have zget : ∀ (k : Nat) (x : IOper), js[k]? = some x → ((List.range js.length).zip js)[k]? = some (k, x) := by
    intro k x hk
    rw [List.getElem?_zip_eq_some]
    exact ⟨by rw [List.getElem?_range (List.getElem?_eq_some_iff.1 hk).1], hk⟩
  have zmem : ∀ (p : Nat × IOper), p ∈ (List.range js.length).zip js → p.1 < js.length ∧ js[p.1]? = some p.2 := by
    intro p hp
    obtain ⟨k, hk⟩ := List.getElem?_of_mem hp
    rw [List.getElem?_zip_eq_some] at hk
    obtain ⟨h1, h2⟩ := hk
    rw [List.getElem?_range (by have := (List.getElem?_eq_some_iff.1 h2).1; exact this)] at h1
    cases h1
    exact ⟨(List.getElem?_eq_some_iff.1 h2).1, h2⟩
  induction fuel with
  | zero =>
    intro listed fr L ι a w hsz hcl hf h hs
    have hnil : ((List.range js.length).zip js).filter (unl listed) = [] := List.eq_nil_of_length_eq_zero hf.symm
    rw [hnil] at h
    refine ⟨?_, hK fr L ι a w h hs⟩
    refine List.eq_nil_iff_forall_not_mem.2 fun i hi => ?_
    obtain ⟨o, ho, h2, _⟩ := mem_ready.1 hi
    have hlt : i < js.length := by rw [hjs]; exact (Array.getElem?_eq_some_iff.1 ho).1
    have : (i, js[i]) ∈ ((List.range js.length).zip js).filter (unl listed) := by
      simp only [List.mem_filter]
      exact ⟨List.mem_of_getElem? (zget i _ (List.getElem?_eq_getElem hlt)), by simp [unl, h2]⟩
    rw [hnil] at this
    cases this
  | succ fuel ih =>
    intro listed fr L ι a w hsz hcl hf h hs
    have hready : Region.ready .any ops listed ≠ [] := by
      intro hnil
      cases hrem : ((List.range js.length).zip js).filter (unl listed) with
      | nil => rw [hrem] at hf; simp at hf
      | cons p rest =>
        have hp : p ∈ ((List.range js.length).zip js).filter (unl listed) := by rw [hrem]; simp
        -- the least one that is not listed
        have hex : ∃ i, i < js.length ∧ listed.getD i true = false ∧ ∀ j, j < i → listed.getD j true = true := by
          obtain ⟨h1, h2⟩ := List.mem_filter.1 hp
          have hp1 := (zmem p h1).1
          have hpu : listed.getD p.1 true = false := by simpa [unl] using h2
          have : ∀ m i, i ≤ m → i < js.length → listed.getD i true = false → ∃ i, i < js.length ∧ listed.getD i true = false ∧ ∀ j, j < i → listed.getD j true = true := by
            intro m
            induction m with
            | zero => intro i hi h1 h2; exact ⟨i, h1, h2, fun j hj => by omega⟩
            | succ m ihm =>
              intro i hi h1 h2
              by_cases hex : ∃ j, j < i ∧ listed.getD j true = false
              · obtain ⟨j, hj1, hj2⟩ := hex
                exact ihm j (by omega) (by omega) hj2
              · refine ⟨i, h1, h2, fun j hj => ?_⟩
                cases hq : listed.getD j true with
                | true => rfl
                | false => exact absurd ⟨j, hj, hq⟩ hex
          exact this p.1 p.1 (Nat.le_refl _) hp1 hpu
        obtain ⟨i, hi1, hi2, hi3⟩ := hex
        obtain ⟨o, ho, _⟩ := hget i _ (List.getElem?_eq_getElem hi1)
        have : i ∈ Region.ready .any ops listed := mem_ready.2 ⟨o, ho, hi2, fun e he => by
          have hlt := hedge i o ho e he
          have := hi3 e hlt
          have hes : e < listed.size := by rw [hsz, ← hjs]; omega
          simp only [Array.getD, hes, dite_true] at this ⊢
          exact this⟩
        rw [hnil] at this
        cases this
    refine ⟨fun hn => absurd hn hready, fun i hi => ?_⟩
    obtain ⟨o, ho, hun, hed⟩ := mem_ready.1 hi
    have hlt : i < js.length := by rw [hjs]; exact (Array.getElem?_eq_some_iff.1 ho).1
    have hil : i < listed.size := by rw [hsz, ← hjs]; exact hlt
    obtain ⟨ii, hii⟩ : ∃ ii, js[i]? = some ii := ⟨_, List.getElem?_eq_getElem hlt⟩
    have hsplit : (List.range js.length).zip js = ((List.range js.length).zip js).take i ++ (i, ii) :: ((List.range js.length).zip js).drop (i + 1) := by
      have hzl : ((List.range js.length).zip js).length = js.length := by simp
      have e : ((List.range js.length).zip js)[i]? = some (i, ii) := by
        rw [List.getElem?_zip_eq_some]
        exact ⟨by rw [List.getElem?_range hlt], hii⟩
      rw [List.getElem?_eq_some_iff] at e
      obtain ⟨h1, h2⟩ := e
      rw [← h2, ← List.drop_eq_getElem_cons h1, List.take_append_drop]
    have hpre : ∀ p ∈ ((List.range js.length).zip js).take i, p.1 < i := by
      intro p hp
      obtain ⟨k, hk⟩ := List.getElem?_of_mem hp
      rw [List.getElem?_take] at hk
      split at hk
      · rename_i hki
        rw [List.getElem?_zip_eq_some] at hk
        rw [List.getElem?_range (by omega)] at hk
        cases hk.1
        exact hki
      · cases hk
    have hpost : ∀ p ∈ ((List.range js.length).zip js).drop (i + 1), i < p.1 := by
      intro p hp
      obtain ⟨k, hk⟩ := List.getElem?_of_mem hp
      rw [List.getElem?_drop, List.getElem?_zip_eq_some] at hk
      have hkl := (List.getElem?_eq_some_iff.1 hk.2).1
      rw [List.getElem?_range hkl] at hk
      have := Option.some.inj hk.1
      omega
    have hunl : unl listed (i, ii) = true := by simp [unl, hun]
    have hfil : ((List.range js.length).zip js).filter (unl listed) = (((List.range js.length).zip js).take i).filter (unl listed) ++ (i, ii) :: (((List.range js.length).zip js).drop (i + 1)).filter (unl listed) := by
      conv => lhs; rw [hsplit]
      rw [List.filter_append, List.filter_cons_of_pos hunl]
    have hgd : ∀ j, j ≠ i → (listed.setIfInBounds i true).getD j true = listed.getD j true := by
      intro j hj
      rw [Array.getD_eq_getD_getElem?, Array.getD_eq_getD_getElem?, Array.getElem?_setIfInBounds_ne (Ne.symm hj)]
    have hself : ∀ b, (listed.setIfInBounds i true).getD i b = true := by
      intro b
      rw [Array.getD_eq_getD_getElem?, Array.getElem?_setIfInBounds_self_of_lt hil]
      rfl
    have hfil' : ((List.range js.length).zip js).filter (unl (listed.setIfInBounds i true)) = (((List.range js.length).zip js).take i).filter (unl listed) ++ (((List.range js.length).zip js).drop (i + 1)).filter (unl listed) := by
      conv => lhs; rw [hsplit]
      rw [List.filter_append, List.filter_cons_of_neg (by simp [unl, hself])]
      congr 1
      · refine List.filter_congr fun p hp => ?_
        have := hpre p hp
        simp only [unl, hgd p.1 (by omega)]
      · refine List.filter_congr fun p hp => ?_
        have := hpost p hp
        simp only [unl, hgd p.1 (by omega)]
    have hap : ∀ x ∈ ((((List.range js.length).zip js).take i).filter (unl listed)).map (·.2), apartI x ii = true := by
      intro x hx
      obtain ⟨p, hp, rfl⟩ := List.mem_map.1 hx
      obtain ⟨hp1, hp2⟩ := List.mem_filter.1 hp
      rcases allOk_get hall _ _ _ hsplit p (by simpa using hp1) with h' | h'
      · exact h'
      · have := anc_listed hcl _ i p.1 o ho hed h'
        have hpl : p.1 < listed.size := by have := hpre p hp1; omega
        simp only [unl, Array.getD, hpl, dite_true] at hp2 this
        rw [this] at hp2
        cases hp2
    rw [hfil] at h hf
    simp only [List.map_append, List.map_cons] at h
    have hfront := moveFront _ fr L hap h
    have hfi : isFz ii = false := hfz ii (List.mem_of_getElem? hii)
    obtain ⟨o', ho', hchk⟩ := hget i ii hii
    rw [ho] at ho'
    cases ho'
    have hstep := oper_sound (next := wpAny P .any ops Q fuel (listed.setIfInBounds i true)) (Q := Q) hchk hfi hfront hs (fun fr' L' ι' a' w' h' hs' => by
      refine ih (listed.setIfInBounds i true) fr' L' ι' a' w' (by simpa using hsz) ?_ ?_ ?_ hs'
      · intro k q hq hk e he
        by_cases hki : k = i
        · subst hki
          rw [ho] at hq
          cases hq
          by_cases hei : e = k
          · subst hei; exact hself _
          · have := hed e he
            rw [Array.getD_eq_getD_getElem?, Array.getElem?_setIfInBounds_ne (Ne.symm hei), ← Array.getD_eq_getD_getElem?]
            exact this
        · rw [Array.getD_eq_getD_getElem?, Array.getElem?_setIfInBounds_ne (Ne.symm hki), ← Array.getD_eq_getD_getElem?] at hk
          have := hcl k q hq hk e he
          by_cases hei : e = i
          · subst hei; exact hself _
          · rw [Array.getD_eq_getD_getElem?, Array.getElem?_setIfInBounds_ne (Ne.symm hei), ← Array.getD_eq_getD_getElem?]
            exact this
      · rw [hfil']
        simp only [List.length_append, List.length_cons] at hf ⊢
        omega
      · rw [hfil', List.map_append]
        exact h')
    unfold wpOp
    rw [ho]
    simp only
    by_cases hw : Region.wanted o (yielded ops a.tmps) = true
    · rw [if_pos hw] at hstep ⊢
      exact .inl hstep
    · rw [if_neg hw] at hstep ⊢
      exact hstep

theorem awpOps_drop {ops : Array Oper} {K : List AV → Objs → Prop} : ∀ (is : List IOper) (fr : List AV) (L : Objs) (ι : Key → Value) (a : Act) (w : World) (os : List Oper), chkOps P ops os is = true → awpOps P E Y is fr L K → StF E B w L ι fr a → chkOps P ops os (dropFz is) = true ∧ ∃ fr' L', awpOps P E Y (dropFz is) fr' L' K ∧ StF E B w L' ι fr' a := by
  intro is
  induction is with
  | nil => intro fr L ι a w os hc h hs; exact ⟨hc, fr, L, h, hs⟩
  | cons i is ih =>
    intro fr L ι a w os hc h hs
    simp only [dropFz]
    by_cases hf : isFz i = true
    · rw [if_pos hf]
      simp only [chkOps] at hc
      rw [if_pos hf] at hc
      obtain ⟨x, rfl⟩ := isFz_eq hf
      obtain ⟨fr', L', h', hs'⟩ := awpOps_fz h hs
      exact ih fr' L' ι a w os hc h' hs'
    · rw [if_neg hf]
      exact ⟨hc, fr, L, h, hs⟩

theorem drawOk (hm : P.follows .mixedOrders = true) : DrawOk P okDraw := by
  intro E B Y ops is id fr L ι a w K Q hK hc hD h hs
  obtain ⟨hc', fr', L', h', hs'⟩ := awpOps_drop is fr L ι a w ops.toList hc h hs
  simp only [okDraw, Bool.and_eq_true, beq_iff_eq, List.all_eq_true, Bool.not_eq_true'] at hD
  obtain ⟨⟨⟨h1, h2⟩, h3⟩, h4⟩ := hD
  generalize dropFz is = js at *
  obtain ⟨g1, g2⟩ := chkOps_get hc' (fun i hi => h1 i hi)
  refine wp_region_any hm ?_
  have hs'' : StF E B { w with drawn := w.drawn + 1 } L' ι fr' a := hs'.grown ⟨rfl, rfl, rfl, Nat.le_refl _, fun _ _ _ => rfl⟩
  have hrep : ∀ j, (Array.replicate ops.size false).getD j true = false ↔ j < ops.size := by
    intro j
    by_cases hj : j < ops.size <;> simp [Array.getD, hj]
  have hfil : ((List.range js.length).zip js).filter (unl (Array.replicate ops.size false)) = (List.range js.length).zip js := by
    refine List.filter_eq_self.2 fun p hp => ?_
    obtain ⟨k, hk⟩ := List.getElem?_of_mem hp
    rw [List.getElem?_zip_eq_some] at hk
    have hkl := (List.getElem?_eq_some_iff.1 hk.2).1
    rw [List.getElem?_range hkl] at hk
    cases hk.1
    simp only [unl, (hrep p.1).2 (by rw [← h2]; exact hkl), Bool.not_false]
  refine any_ok (Y := Y) (js := js) hK h2 (fun k i hk => ?_) (fun i hi => h1 i hi) h3 (fun i o ho e he => ?_) ops.size (Array.replicate ops.size false) fr' L' ι a _ (by simp) ?_ ?_ ?_ hs''
  · obtain ⟨o, ho, hh⟩ := g2 k i hk
    exact ⟨o, by simpa using ho, hh⟩
  · have hlt : i < ops.size := (Array.getElem?_eq_some_iff.1 ho).1
    have := h4 i (by simpa using hlt)
    rw [ho] at this
    simp only [List.all_eq_true, decide_eq_true_eq] at this
    exact this e he
  · intro k q hq hk
    by_cases hj : k < ops.size <;> simp [Array.getD, hj] at hk
  · rw [hfil]; simp [h2]
  · rw [hfil]
    have : ((List.range js.length).zip js).map (·.2) = js := by
      rw [← List.unzip_snd, List.unzip_zip (by simp)]
    rw [this]
    exact h'
end
end Go.Proofs.YtpddiepfolfnoaaDoor
