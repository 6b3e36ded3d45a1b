/- Plain regions, calls, and whole bodies: what awp says of a body holds of its run. -/
import Derived.Test.YtpddiepfolfnoaaDoorA16
namespace Go.Proofs.YtpddiepfolfnoaaDoor
set_option linter.unusedVariables false
set_option linter.unusedSimpArgs false
set_option linter.defProp false

section
variable {P : Program} {E : Envt} {B : Base} {w w' : World} {L L' : Objs} {ι ι' : Key → Value} {fr : List AV} {a : Act} {o : Oper} {X : Nat → Prop}

theorem St.x_own (h : St E B w L ι) {b : Nat} (hb : B.X b) : b < w.heap.size ∧ ¬ Own L ι b := by
  refine ⟨h.x_lt hb, fun ho => ?_⟩
  rcases h.own b ho with h' | h'
  · exact h.xdis b hb h'
  · have := h.xlt b hb; omega
theorem St.e_own (h : St E B w L ι) {b : Nat} (hb : E.bl b) : b < w.heap.size ∧ ¬ Own L ι b := by
  refine ⟨Nat.lt_of_lt_of_le (h.envb b hb).1 h.grow.size, fun ho => ?_⟩
  rcases h.own b ho with h' | h'
  · exact (h.envb b hb).2 h'
  · have := (h.envb b hb).1; omega

theorem ARep.clean {U : Nat → Prop} (hk : ∀ k, (Zah L k).isSome = true → (Zah L' k).isSome = true → ι' k = ι k) : ∀ {x : AV} {u : Value}, ARep w U ι x u → ARep w U ι' (x.clean L L') u
  | .p x, u, h => h
  | .row k, u, h => by
    simp only [AV.clean]; split
    · rename_i e; simpa [ARep, hk k e.1 e.2] using h
    · trivial
  | .adr k o, u, h => by
    simp only [AV.clean]; split
    · rename_i e; simpa [ARep, hk k e.1 e.2] using h
    · trivial
  | .rad k z i o, u, h => by
    simp only [AV.clean]; split
    · rename_i e; simpa [ARep, hk k e.1 e.2] using h
    · trivial
  | .ipt z es i o, u, h => h
  | .mp k, u, h => by
    simp only [AV.clean]; split
    · rename_i e; simpa [ARep, hk k e.1 e.2] using h
    · trivial
  | .fn f ks, u, h => by
    simp only [AV.clean]; split
    · rename_i e
      simp only [ARep] at h ⊢
      rw [h]
      congr 2
      exact List.map_congr_left fun j hj => (hk j (e j hj).1 (e j hj).2).symm
    · trivial
  | .g c a, u, h => ⟨fun hc => ARep.clean hk (x := a) (h.1 hc), h.2⟩
  | .any, u, h => trivial

/-- Behind a call. -/
theorem StF.back (hs : StF E B w L ι fr a) (hb : Back E w B.X L ι w' L' ι') : StF E B w' L' ι' (fr.map (·.clean L L')) a := by
  obtain ⟨h, hf, hd⟩ := hs
  have hk : Keeps w w' (fun b => Own L ι b ∨ B.X b) (fun b => Own L' ι' b ∨ B.X b) := by
    intro b hlt hu
    refine ⟨hb.grow.block b hlt (fun h => hu (.inl h)), ?_⟩
    rintro (h' | h')
    · rcases hb.own b h' with h'' | h''
      · exact hu (.inl h'')
      · omega
    · exact hu (.inr h')
  refine ⟨⟨h.grow.trans hb.grow h.own, hb.sim, fun b hb' => ?_, h.xlt, fun k h0 h1 => ?_, E.mono w w' (fun b hb' => hb.grow.block b (h.e_own hb').1 (h.e_own hb').2) h.env, h.envb, h.loc, h.xdis⟩, ⟨by simpa using hf.1, fun i x hx => ?_⟩, hd⟩
  · rcases hb.own b hb' with h' | h'
    · exact h.own b h'
    · exact .inr (Nat.le_trans h.grow.size h')
  · rcases hb.news k h1 with h2 | ⟨i, rfl⟩
    · rw [hb.keep k h2 h1]; exact h.keep k h0 h2
    · rw [h.loc i] at h0; cases h0
  · rw [List.getElem?_map, Option.map_eq_some_iff] at hx
    obtain ⟨y, hy, rfl⟩ := hx
    obtain ⟨u, hu, hr⟩ := hf.2 i y hy
    exact ⟨u, hu, (hr.mono hk).clean hb.keep⟩

theorem argsRep {U : Nat → Prop} (hf : FRep w U ι fr a) : ∀ {xs : List Operand} {ys : List Opd}, okOpds xs ys = true → Zl fr ys → ARepL w U ι (Zm fr ys) (xs.map a.eval) := by
  intro xs
  induction xs with
  | nil => intro ys h _; cases ys with
    | nil => simp [Zm, ARepL]
    | cons y ys => simp [okOpds] at h
  | cons x xs ih => intro ys h hc; cases ys with
    | nil => simp [okOpds] at h
    | cons y ys =>
      simp only [okOpds, Bool.and_eq_true] at h
      simp only [Zl] at hc
      simp only [Zm, List.map_cons, ARepL]
      exact ⟨_, _, rfl, (rdOk hf h.1).un hc.1, ih h.2 hc.2⟩

theorem ARepL.append {U : Nat → Prop} {as bs : List AV} {vs us : List Value} (h : ARepL w U ι as vs) (k : ARepL w U ι bs us) : ARepL w U ι (as ++ bs) (vs ++ us) := by
  induction as generalizing vs with
  | nil => simp only [ARepL] at h; subst h; simpa using k
  | cons a as ih => simp only [ARepL] at h; obtain ⟨v, r, rfl, h1, h2⟩ := h; simp only [List.cons_append, ARepL]; exact ⟨v, _, rfl, h1, ih h2⟩

theorem FRep.setD {U : Nat → Prop} (hf : FRep w U ι fr a) (d : Option Nat) {r : AV} {v : Value} (hr : ARep w U ι r v) : FRep w U ι (Zf fr d r) (a.put d v) := by
  cases d with
  | none => exact hf
  | some d => exact hf.put d hr

/-- A call of a function of the program, entered. -/
theorem run_enter {f : FuncId} (hf : fnB P f = true) (args : Array Value) (w : World) : (callFunc f args).run P w = .ok (.enter f args) w := by
  unfold fnB at hf
  split at hf
  · rename_i fn hfn
    simp only [Bool.and_eq_true, bne_iff_ne, ne_eq] at hf
    have hb : fn.body.isNone = false := by cases hq : fn.body <;> simp_all
    simp only [callFunc, Sem.run_bind, run_program, Result.andThen_ok, hfn]
    rw [show (fn.name == "runtime.NumGoroutine") = false from by simpa using hf.2]
    simp [hb]
  · cases hf

/-- What a call does to the rest. -/
theorem call_ok {f : FuncId} {as : List AV} {vs : List Value} {d : Option Nat} {K : List AV → Objs → Prop} {R : Ending → World → Prop} (hs : StF E B w L ι fr a) (hA : ARepL w (fun b => Own L ι b ∨ B.X b) ι as vs) (h : CallOp P E f as L d fr K)
    (hR : ∀ v w' fr' L' ι', K fr' L' → StF E B w' L' ι' fr' (a.put d v) → R (.returned v) w') : Calls P f vs.toArray w R := by
  rcases h with ⟨φ, hp, hk⟩ | ⟨bk, post, hgc, hh, hsep, hk⟩ | hg
  · refine (hp w B.X ι vs hs.1.sim (fun b hb => hs.1.x_own hb) hs.1.env (fun b hb => hs.1.e_own hb) hA).mono ?_
    rintro e w' ⟨v, x, rfl, hx, hr, hG⟩
    have h1 := hs.grown hG
    exact hR v w' _ _ ι (hk x hx) ⟨h1.1, h1.2.1.setD d (r := .p x) hr, by rw [Act.put_defers']; exact h1.2.2⟩
  · refine (hgc w B.X ι vs hs.1.sim (fun b hb => hs.1.x_own hb) hs.1.env (fun b hb => hs.1.e_own hb) hA).mono ?_
    rintro e w' ⟨v, r, os', rfl, hp, hr, hb⟩
    have hk := hk r os' hp
    -- the state behind the call, the result not yet laid down
    have h1 : StF E B w' (putB L bk os') ι fr a ∧ (∀ b, Own (putB L bk os') ι b ↔ Own L ι b) := by
      cases bk with
      | none => exact ⟨hs.grown hb, fun b => Iff.rfl⟩
      | some q =>
        obtain ⟨k, os⟩ := q
        obtain ⟨hG, hat⟩ := hb
        have hO : ∀ b, Own (Zai L k os'.ao) ι b ↔ Own L ι b := by
          intro b
          constructor
          · rintro ⟨j, q, e1, e2⟩
            rw [look_putO] at e1
            by_cases e : j = k
            · exact ⟨k, _, hh, by rw [← e]; exact e2⟩
            · rw [if_neg e] at e1; exact ⟨j, q, e1, e2⟩
          · rintro ⟨j, q, e1, e2⟩
            by_cases e : j = k
            · exact ⟨k, _, by rw [look_putO, if_pos rfl], by rw [← e]; exact e2⟩
            · exact ⟨j, q, by rw [look_putO, if_neg e]; exact e1, e2⟩
        exact ⟨hs.wr k _ os'.ao hh hG (hat.mono (fun b hlt hu => ⟨rfl, fun h => hu (.inl (h.imp (hO b).1 id))⟩) (fun _ _ => rfl)).ok, hO⟩
    obtain ⟨h1, hO⟩ := h1
    have hkU : Keeps w' w' (fun b => Own L ι b ∨ B.X b) (fun b => Own (putB L bk os') ι b ∨ B.X b) := fun b _ hu => ⟨rfl, fun h => hu (h.imp (hO b).1 id)⟩
    cases r with
    | p x => exact hR v w' _ _ ι hk ⟨h1.1, h1.2.1.setD d (r := .p x) (PRep.mono hkU _ _ hr), by rw [Act.put_defers']; exact h1.2.2⟩
    | fr es e z =>
      cases d with
      | none => exact hR v w' _ _ ι hk h1
      | some d =>
        obtain ⟨vs', r1, r2, r3, r4, r5⟩ := hr
        have hsl : ∃ A n c, v = .slice A n c := by
          rcases r1.2 with ⟨q1, _⟩ | ⟨g, cap, cur, fz, q1, _⟩
          · exact ⟨none, 0, 0, q1⟩
          · exact ⟨_, _, _, q1⟩
        have fin : StF E B w' (Zak (putB L bk os') (.l d) (.row es e z true)) (updI ι (.l d) v) (fr.map (·.kill (.l d))) a := by
          cases bk with
          | none =>
            have hG : Grow w w' (Old L ι (.l d)) := grow_any hb
            have hbv : ∀ b, blk v = some b → w.heap.size ≤ b ∨ Old L ι (.l d) b := fun b hb' => .inl (r5 b hb')
            refine hs.upd d v (.row es e z true) hG hbv ⟨vs', by simpa [updI] using r1, r2, ?_, r4⟩
            refine PRepL.mono (fun b hlt hu => ⟨rfl, ?_⟩) _ _ r3
            rintro (h' | h')
            · rcases own_updL h' with h'' | ⟨j, q, _, h2, h3⟩
              · exact hu (.inr h'')
              · exact hu (.inl (.inl ⟨j, q, h2, h3⟩))
            · exact hu (.inl (.inr h'))
          | some q =>
            obtain ⟨k, os⟩ := q
            obtain ⟨hG, hat⟩ := hb
            have hU : ∀ b, Own (Zak (Zai L k os'.ao) (.l d) (.row es e z true)) (updI ι (.l d) v) b → blk v = some b ∨ Own L ι b := by
              intro b hb'
              rcases own_updL hb' with h'' | ⟨j, q, _, h2, h3⟩
              · exact .inl h''
              · exact .inr ((hO b).1 ⟨j, q, h2, h3⟩)
            have hki : k ≠ .l d := hsep
            have hik : updI ι (.l d) v k = ι k := by simp [updI, hki]
            have hkill : os'.ao.kill (.l d) = os'.ao := by cases os' <;> simp [OS.ao, AO.kill, AV.kill, Function.comp_def]
            refine hs.wrupd d k hki _ os'.ao (.row es e z true) hh v hG r5 ?_ ⟨vs', by simpa [updI] using r1, r2, ?_, r4⟩
            · rw [hkill]
              refine ObjAt.ok ?_
              rw [hik]
              refine hat.mono (fun b hlt hu => ⟨rfl, ?_⟩) (fun _ _ => rfl)
              rintro (h' | h')
              · rcases hU b h' with h'' | h''
                · exact hu (.inr h'')
                · exact hu (.inl (.inl h''))
              · exact hu (.inl (.inr h'))
            · refine PRepL.mono (fun b hlt hu => ⟨rfl, ?_⟩) _ _ r3
              rintro (h' | h')
              · rcases hU b h' with h'' | h''
                · exact hu (.inr h'')
                · exact hu (.inl (.inl h''))
              · exact hu (.inl (.inr h'))
        exact hR v w' _ _ _ hk ⟨fin.1, fin.2.1.put d ⟨by simp [updI], hsl⟩, by rw [Act.put_defers']; exact fin.2.2⟩
  · refine (hg w B.X ι vs hs.1.sim (fun b hb => hs.1.x_own hb) hs.1.env (fun b hb => hs.1.e_own hb) hA).mono ?_
    rintro e w' ⟨v, r, L', ι', rfl, hk, hr, hB⟩
    have h1 := hs.back hB
    exact hR v w' _ _ ι' hk ⟨h1.1, h1.2.1.setD d hr, by rw [Act.put_defers']; exact h1.2.2⟩

def yieldV : Option Value → Option Bool
  | some (.bool b) => some b
  | _ => none
theorem gvalA_ok {U : Nat → Prop} {want : Bool} : ∀ {x : AV} {v : Value} {c0 : Bool}, ARep w U ι x v → Zh want x = some c0 → (yieldV (some v) == some want) = c0 := by
  intro x
  induction x with
  | p y =>
    intro v c0 hr h
    cases y <;> simp only [Zh, reduceCtorEq, Option.some.injEq] at h
    rename_i b
    have := PRep.bool_eq hr
    subst this
    subst h
    cases b <;> cases want <;> rfl
  | g c a ih =>
    intro v c0 hr h
    simp only [Zh, Option.map_eq_some_iff] at h
    obtain ⟨q, h1, h2⟩ := h
    cases c with
    | true => rw [ih (hr.1 rfl) h1, ← h2]; simp
    | false =>
      have := hr.2 rfl
      subst this
      simp at h2
      subst h2
      simp [yieldV]
  | _ => intro v c0 hr h; simp [Zh] at h
theorem gval_ok {U : Nat → Prop} (hf : FRep w U ι fr a) {ops : Array Oper} {j s : Nat} {want c0 : Bool} (hj : (ops[j]?).bind (·.dst) = some s) (h : Zg fr s want = some c0) : (yielded ops a.tmps j == some want) = c0 := by
  have hy : yielded ops a.tmps j = yieldV (a.tmps[s]?) := by
    unfold yielded yieldV
    rw [hj]
    simp only [Option.bind_some]
    cases a.tmps[s]? with
    | none => rfl
    | some v => cases v <;> rfl
  rw [hy]
  unfold Zg at h
  cases hq : fr[s]? with
  | none => rw [List.getD, hq] at h; simp [Zh] at h
  | some y =>
    rw [List.getD, hq] at h
    obtain ⟨v, hv, hr⟩ := hf.2 s y hq
    rw [hv]
    exact gvalA_ok hr h

theorem fz_ok (hs : StF E B w L ι fr a) {x : Opd} {k : Key} {z : Nat} {es : List (List PV)} (h : Zaf fr L x = some (k, z, es)) : StF E B w (Zal k z es L) ι (fr.map (·.thaw k z es)) a := by
  unfold Zaf at h
  split at h
  · split at h
    · rename_i hl
      simp only [Option.some.injEq, Prod.mk.injEq] at h
      obtain ⟨rfl, rfl, rfl⟩ := h
      exact hs.thaw hl
    · cases h
  · cases h

theorem adr_keys {U : Nat → Prop} {f : FuncId} {ks : List Key} (hk : ∀ k ∈ ks, ∃ b, ι k = .pointer (some ⟨b, 0, none⟩)) : ARepL w U ι (ks.map fun k => .adr k 0) (ks.map ι) := by
  induction ks with
  | nil => simp [ARepL]
  | cons k ks ih =>
    simp only [List.map_cons, ARepL]
    obtain ⟨b, hb⟩ := hk k (by simp)
    exact ⟨_, _, rfl, ⟨b, hb, hb⟩, ih (fun j hj => hk j (by simp [hj]))⟩

theorem chk_call {op : Op} {f : FuncId} {args : List Opd} (h : chkOp P op (.call f args) = true) : ∃ args0 ts, op = .call { callee := .value (.func f), args := args0, argTypes := ts } ∧ fnB P f = true ∧ okOpds args0.toList args = true := by
  cases op with
  | call c =>
    obtain ⟨callee, as, ts⟩ := c
    cases callee with
    | value x => cases x with
      | func g =>
        simp only [chkOp, Bool.and_eq_true, beq_iff_eq] at h
        obtain ⟨⟨rfl, h1⟩, h2⟩ := h
        exact ⟨as, ts, rfl, h1, h2⟩
      | _ => simp [chkOp] at h
    | invoke r m => simp [chkOp] at h
    | builtin b => cases b <;> simp [chkOp] at h
  | _ => simp [chkOp] at h
theorem chk_pcall {op : Op} {n : Nat} {f : FuncId} {args : List Opd} (h : chkOp P op (.pcall n f args) = true) : chkOp P op (.call f args) = true := by
  cases op with
  | call c =>
    obtain ⟨callee, as, ts⟩ := c
    cases callee with
    | value x => cases x with
      | func g => simpa only [chkOp] using h
      | _ => simp [chkOp] at h
    | invoke r m => simp [chkOp] at h
    | builtin b => cases b <;> simp [chkOp] at h
  | _ => simp [chkOp] at h
theorem chk_callv {op : Op} {g : Opd} {args : List Opd} (h : chkOp P op (.callv g args) = true) : ∃ t args0 ts, op = .call { callee := .value (.tmp t), args := args0, argTypes := ts } ∧ g = .t t ∧ okOpds args0.toList args = true := by
  cases op with
  | call c =>
    obtain ⟨callee, as, ts⟩ := c
    cases callee with
    | value x => cases x with
      | tmp t =>
        cases g with
        | t t' =>
          simp only [chkOp, Bool.and_eq_true, beq_iff_eq] at h
          obtain ⟨rfl, h2⟩ := h
          exact ⟨_, as, ts, rfl, rfl, h2⟩
        | _ => simp [chkOp] at h
      | _ => simp [chkOp] at h
    | invoke r m => simp [chkOp] at h
    | builtin b => cases b <;> simp [chkOp] at h
  | _ => simp [chkOp] at h
theorem chk_fz {op : Op} {x : Opd} (h : chkOp P op (.fz x) = true) : False := by
  cases op with
  | call c =>
    obtain ⟨callee, as, ts⟩ := c
    cases callee with
    | value x => cases x <;> simp [chkOp] at h
    | invoke r m => simp [chkOp] at h
    | builtin b => cases b <;> simp [chkOp] at h
  | _ => simp [chkOp] at h

theorem eff_wp {c : Prop} {fr' : List AV} {L' : Objs} (h : Eff1 P o fr L c fr' L') (hc : c) (hs : StF E B w L ι fr a) {next : Act → World → Prop} {Q : Exit → Act → World → Prop} (hn : ∀ ι' a' w', StF E B w' L' ι' fr' a' → next a' w') : o.wp P a w next Q := by
  obtain ⟨v, nx, w', ι', hr, hx, hs'⟩ := h E B w ι a hs hc
  unfold Oper.wp
  rw [hr]
  rcases hx with rfl | ⟨rfl, rfl⟩
  · exact hn ι' _ w' hs'
  · exact hn ι' _ w' hs'

theorem boxK_ok (h : Sim w X L ι) {ks : List Key} (hk : Zk L (ks.map fun k => .adr k 0) = true) : ∀ k ∈ ks, ∃ b, ι k = .pointer (some ⟨b, 0, none⟩) := by
  induction ks with
  | nil => simp
  | cons k ks ih =>
    simp only [List.map_cons, Zk, Bool.and_eq_true] at hk
    intro j hj
    simp only [List.mem_cons] at hj
    rcases hj with rfl | hj
    · have := hk.1
      split at this
      · rename_i cs t hl
        obtain ⟨b, vs, e1, _⟩ := h.obj j _ hl
        exact ⟨b, e1⟩
      · cases this
    · exact ih hk.2 j hj
theorem arepL_p {w : World} {U : Nat → Prop} {ι : Key → Value} {ps : List PV} {vs : List Value} (h : PRepL w U ps vs) : ARepL w U ι (ps.map .p) vs := by
  induction ps generalizing vs with
  | nil => exact h
  | cons x r ih =>
    simp only [PRepL] at h
    obtain ⟨v, s, rfl, h1, h2⟩ := h
    exact ⟨v, s, rfl, h1, ih h2⟩
/-- A function's value: what it is, and what it brings along. -/
theorem fn_rep (h : Sim w X L ι) {U : Nat → Prop} {fr : List AV} {g : Opd} {f : FuncId} {as : List AV} (hf : Zag fr g = some (f, as)) (hk : Zk L as = true) {v : Value} (hv : ARep w U ι (rd fr g).un.2 v) : ∃ us : List Value, v = .func (.func f) #[] us.toArray ∧ ARepL w U ι as us := by
  unfold Zag at hf
  split at hf
  · rename_i c f' ks e
    simp only [Option.some.injEq, Prod.mk.injEq] at hf
    obtain ⟨rfl, rfl⟩ := hf
    rw [e] at hv
    exact ⟨ks.map ι, hv, adr_keys (f := f') (boxK_ok h hk)⟩
  · rename_i c f' ps e
    simp only [Option.some.injEq, Prod.mk.injEq] at hf
    obtain ⟨rfl, rfl⟩ := hf
    rw [e] at hv
    obtain ⟨vs, e2, h2⟩ := hv
    exact ⟨vs, e2, arepL_p h2⟩
  · cases hf

/-- One operation in front of others. -/
theorem oper_sound0 {Y : List PV} {ops : Array Oper} {i : IOper} {is : List IOper} {K : List AV → Objs → Prop} (hchk : chkOper0 P ops o i = true) (hfz : isFz i = false) (h : awpOps P E Y (i :: is) fr L K) (hs : StF E B w L ι fr a)
    {next : Act → World → Prop} {Q : Exit → Act → World → Prop} (hn : ∀ fr' L' ι' a' w', awpOps P E Y is fr' L' K → StF E B w' L' ι' fr' a' → next a' w') :
    if Region.wanted o (yielded ops a.tmps) then o.wp P a w next Q else next (a.put o.dst undef) w := by
  obtain ⟨d, op, gd⟩ := i
  simp only [chkOper0, Bool.and_eq_true, beq_iff_eq, Bool.or_eq_true, Bool.not_eq_true'] at hchk
  obtain ⟨⟨⟨hd, hop⟩, hst⟩, hgd⟩ := hchk
  have hst' : isSt op = true → d = none := fun e => by rcases hst with h | h; rw [e] at h; cases h; exact h
  have callCase : ∀ (f : FuncId) (args : List Opd), chkOp P o.op (.call f args) = true → Zl fr args → CallOp P E f (Zm fr args) L d fr (fun fr L => awpOps P E Y is fr L K) → o.wp P a w next Q := by
    intro f args hop hc h
    obtain ⟨args0, ts, ho, h1, h2⟩ := chk_call hop
    have hrun : (execOp a.eval o).run P w = .ok (.enter f (args0.map a.eval)) w := by
      simp only [execOp, ho, resolve, Act.eval, Deferred.ofValue, Sem.run_bind, Sem.run_pure, Result.andThen_ok, invoke, run_enter h1]
      simp
    unfold Oper.wp
    rw [hrun, Oper.upon_enter]
    have hA := argsRep hs.2.1 h2 hc
    have e3 : args0.map a.eval = (args0.toList.map a.eval).toArray := by apply Array.ext'; simp
    rw [e3]
    exact call_ok hs hA h (fun v w' fr' L' ι' hk hs' => hn fr' L' ι' _ w' hk (by rw [hd]; exact hs'))
  have pureCase : ∀ (f : FuncId) (args : List Opd) (x : PV) (r : AV), chkOp P o.op (.call f args) = true → Zl fr args → PureC P E f (Zm fr args) L (· = x) → (∀ w' v, StF E B w' L ι fr a → PRep w' (fun b => Own L ι b ∨ B.X b) x v → ARep w' (fun b => Own L ι b ∨ B.X b) ι r v) → awpOps P E Y is (Zf fr d r) L K → o.wp P a w next Q := by
    intro f args x r hop hc hp hrr hk
    obtain ⟨args0, ts, ho, h1, h2⟩ := chk_call hop
    have hrun : (execOp a.eval o).run P w = .ok (.enter f (args0.map a.eval)) w := by
      simp only [execOp, ho, resolve, Act.eval, Deferred.ofValue, Sem.run_bind, Sem.run_pure, Result.andThen_ok, invoke, run_enter h1]
      simp
    unfold Oper.wp
    rw [hrun, Oper.upon_enter]
    have hA := argsRep hs.2.1 h2 hc
    have e3 : args0.map a.eval = (args0.toList.map a.eval).toArray := by apply Array.ext'; simp
    rw [e3]
    refine (hp w B.X ι _ hs.1.sim (fun b hb => hs.1.x_own hb) hs.1.env (fun b hb => hs.1.e_own hb) hA).mono ?_
    rintro e w' ⟨v, y, rfl, rfl, hr, hG⟩
    have h1 := hs.grown hG
    exact hn _ _ ι _ w' hk ⟨h1.1, by rw [hd]; exact h1.2.1.setD d (hrr w' v h1 hr), by rw [Act.put_defers']; exact h1.2.2⟩
  cases gd with
  | none =>
    have hgn : o.guard = none := by cases hq : o.guard <;> simp_all
    have hw : Region.wanted o (yielded ops a.tmps) = true := by simp [Region.wanted, hgn]
    rw [if_pos hw]
    cases op with
    | call f args =>
      simp only [awpOps] at h
      exact callCase f args hop h.1 h.2
    | pcall n f args =>
      simp only [awpOps] at h
      exact pureCase f args _ (.p _) (chk_pcall hop) h.1.1 h.1.2 (fun w' v _ hr => hr) h.2
    | callv g args =>
      simp only [awpOps] at h
      split at h
      · rename_i f ks hfn
        obtain ⟨t, args0, ts, ho, rfl, h2⟩ := chk_callv hop
        obtain ⟨h0, hfb, hbk, hc, h⟩ := h
        obtain ⟨us, hg', hus⟩ := fn_rep hs.1.sim hfn hbk ((rdOk hs.2.1 (show okOpd (.tmp t) (.t t) = true by simp [okOpd])).un h0)
        have hrun : (execOp a.eval o).run P w = .ok (.enter f (args0.map a.eval ++ us.toArray)) w := by
          simp only [execOp, ho, resolve, hg', Deferred.ofValue, Sem.run_bind, Sem.run_pure, Result.andThen_ok, invoke]
          simp [run_enter hfb]
        unfold Oper.wp
        rw [hrun, Oper.upon_enter]
        have hA := (argsRep hs.2.1 h2 hc).append hus
        have e3 : args0.map a.eval ++ us.toArray = (args0.toList.map a.eval ++ us).toArray := by apply Array.ext'; simp
        rw [e3]
        exact call_ok hs hA h (fun v w' fr' L' ι' hk hs' => hn fr' L' ι' _ w' hk (by rw [hd]; exact hs'))
      · exact h.elim
    | fz x => exact (chk_fz hop).elim
    | dcall b f args => exact absurd hop (by unfold chkOp; split <;> simp_all)
    | _ =>
      simp only [awpOps] at h
      split at h
      · rename_i c fr' L' he
        exact eff_wp (estep_sound hop hd hst' he) h.1 hs (fun ι' a' w' hs' => hn _ _ ι' a' w' h.2 hs')
      · exact h.elim
  | some sw =>
    obtain ⟨s, want⟩ := sw
    obtain ⟨j, hj, hjs⟩ : ∃ j, o.guard = some (j, want) ∧ (ops[j]?).bind (·.dst) = some s := by
      cases hq : o.guard with
      | none => rw [hq] at hgd; simp at hgd
      | some q => obtain ⟨j, w1⟩ := q; rw [hq] at hgd; simp only [Bool.and_eq_true, beq_iff_eq] at hgd; exact ⟨j, by rw [hgd.1], hgd.2⟩
    have hskip : ∀ c0 x, c0 = false → StF E B w L ι (Zf fr d (.g c0 x)) (a.put o.dst undef) := by
      intro c0 x e
      subst e
      exact ⟨hs.1, by rw [hd]; exact hs.2.1.setD d ⟨(fun h => by cases h), fun _ => rfl⟩, by rw [Act.put_defers']; exact hs.2.2⟩
    simp only [awpOps] at h
    split at h
    · rename_i c0 hc0
      have hy := gval_ok hs.2.1 hjs hc0
      have hw : Region.wanted o (yielded ops a.tmps) = c0 := by simp only [Region.wanted, hj]; exact hy
      rw [hw]
      cases op with
      | call f args =>
        simp only at h
        rcases h with ⟨hc, ⟨x, hx, hk⟩ | ⟨ht, hf⟩⟩
        · cases c0 with
          | true =>
            rw [if_pos rfl]
            exact pureCase f args x (.g true (.p x)) hop (hc rfl) (hx rfl) (fun w' v _ hr => ⟨fun _ => hr, fun h => by cases h⟩) hk
          | false =>
            rw [if_neg (by simp)]
            exact hn _ _ ι _ w hk (hskip _ _ rfl)
        · cases c0 with
          | true =>
            rw [if_pos rfl]
            exact callCase f args hop (hc rfl) (ht rfl)
          | false =>
            rw [if_neg (by simp)]
            exact hn _ _ ι _ w (hf rfl) (hskip _ _ rfl)
      | pcall n f args =>
        simp only at h
        cases c0 with
        | true =>
          rw [if_pos rfl]
          exact pureCase f args _ (.g true (.p _)) (chk_pcall hop) (h.1 rfl).1 (h.1 rfl).2 (fun w' v _ hr => ⟨fun _ => hr, fun h => by cases h⟩) h.2
        | false =>
          rw [if_neg (by simp)]
          exact hn _ _ ι _ w h.2 (hskip _ _ rfl)
      | _ =>
        simp only at h
        split at h
        · rename_i c r he
          cases c0 with
          | true =>
            rw [if_pos rfl]
            have hv := step_sound hop he
            obtain ⟨v, w', e, hG, hr⟩ := hv E B w ι a hs (h.1 rfl)
            have h1 := hs.grown hG
            unfold Oper.wp
            rw [e, Oper.upon_value]
            exact hn _ _ ι _ w' h.2 ⟨h1.1, by rw [hd]; exact h1.2.1.setD d (r := .g true r) ⟨fun _ => hr, fun h => by cases h⟩, by rw [Act.put_defers']; exact h1.2.2⟩
          | false =>
            rw [if_neg (by simp)]
            exact hn _ _ ι _ w h.2 (hskip _ _ rfl)
        · obtain ⟨_, rfl, h⟩ := h
          rw [if_neg (by simp)]
          exact hn _ _ ι _ w h (hskip _ _ rfl)
    · exact h.elim

theorem ldl_ld {sz : Nat} {ag : Bool} {x : Opd} {q : Prop × AV} (h : Ze fr L (.ldl sz ag x) = some q) : Ze fr L (.ld sz ag x) = some q := by
  simp only [Ze] at h ⊢
  split at h
  · rename_i e; rw [e]; exact h
  · rename_i e; rw [e]; exact h
  · cases h

theorem DCallOp.call {b : Bool} {f : FuncId} {as : List AV} {d : Option Nat} {K : List AV → Objs → Prop} (h : DCallOp b P E f as L d fr K) : CallOp P E f as L d fr K := by
  obtain ⟨k, t, cs, post, h1, h2, h3, h4, h5, h6⟩ := h
  refine .inr (.inl ⟨some (k, .box t cs), _, h1, h2, ?_, ?_⟩)
  · cases d with
    | none => trivial
    | some e => exact h3 e rfl
  · rintro r os' ⟨x, cs', rfl, rfl, hp⟩
    exact h6 x cs' hp

theorem awpOps_norm {Y : List PV} {i : IOper} {is : List IOper} {K : List AV → Objs → Prop} (h : awpOps P E Y (i :: is) fr L K) : awpOps P E Y ({ i with op := i.op.norm } :: is) fr L K := by
  obtain ⟨d, op, gd⟩ := i
  cases op
  case ldl sz ag x =>
    simp only [IOp.norm]
    cases gd with
    | none =>
      simp only [awpOps, Zd] at h ⊢
      split at h
      · rename_i c fr' L' e
        obtain ⟨q, e1, e2⟩ := Option.map_eq_some_iff.1 e
        rw [ldl_ld e1]
        simp only [Option.map_some, e2]
        exact h
      · exact h.elim
    | some sw =>
      obtain ⟨s, want⟩ := sw
      simp only [awpOps] at h ⊢
      split at h
      · split at h
        · rename_i c r e
          rw [ldl_ld e]
          exact h
        · simp [plainOp] at h
      · exact h.elim
  case dcall b f args =>
    simp only [IOp.norm]
    cases gd with
    | none =>
      simp only [awpOps] at h ⊢
      exact ⟨h.1, h.2.call⟩
    | some sw =>
      obtain ⟨s, want⟩ := sw
      simp only [awpOps, Ze] at h
      split at h
      · simp [plainOp] at h
      · exact h.elim
  all_goals exact h

theorem oper_sound {Y : List PV} {ops : Array Oper} {i : IOper} {is : List IOper} {K : List AV → Objs → Prop} (hchk : chkOper P ops o i = true) (hfz : isFz i = false) (h : awpOps P E Y (i :: is) fr L K) (hs : StF E B w L ι fr a)
    {next : Act → World → Prop} {Q : Exit → Act → World → Prop} (hn : ∀ fr' L' ι' a' w', awpOps P E Y is fr' L' K → StF E B w' L' ι' fr' a' → next a' w') :
    if Region.wanted o (yielded ops a.tmps) then o.wp P a w next Q else next (a.put o.dst undef) w := by
  simp only [chkOper, Bool.or_eq_true] at hchk
  rcases hchk with hd | hchk
  · obtain ⟨d, op, gd⟩ := i
    cases op <;> simp only [isDead, Bool.false_eq_true] at hd
    cases gd with
    | none => simp only [awpOps, Zd, Ze, Option.map_none] at h
    | some sw =>
      obtain ⟨s, want⟩ := sw
      simp only [awpOps, Ze] at h
      split at h
      · simp [plainOp] at h
      · exact h.elim
  · refine oper_sound0 hchk ?_ (awpOps_norm h) hs hn
    obtain ⟨d, op, gd⟩ := i
    cases op <;> first | exact hfz | (simp only [IOp.norm]; cases d <;> cases gd <;> rfl)


theorem Zc.look {L L' : Objs} (h : Zc L' L) : ∀ (k : Key) (a : AO), Zah L' k = some a → Zah L k = some a := by
  induction L' with
  | nil => intro k a h; simp [Go.Proofs.YtpddiepfolfnoaaDoor.Zah] at h
  | cons q r ih =>
    intro k a hk
    obtain ⟨k', a'⟩ := q
    simp only [Zc] at h
    simp only [Go.Proofs.YtpddiepfolfnoaaDoor.Zah] at hk
    split at hk
    · rename_i e; cases hk; rw [← e]; exact h.1
    · exact ih h.2 k a hk
theorem Za.get : ∀ {as bs : List AV}, Za as bs → as.length = bs.length ∧ ∀ (i : Nat) (b : AV), bs[i]? = some b → ∃ a, as[i]? = some a ∧ Zb a b := by
  intro as
  induction as with
  | nil => intro bs h; cases bs with
    | nil => simp
    | cons b bs => exact h.elim
  | cons a as ih => intro bs h; cases bs with
    | nil => exact h.elim
    | cons b bs =>
      simp only [Za] at h
      obtain ⟨h1, h2⟩ := ih h.2
      refine ⟨by simp [h1], fun i x hx => ?_⟩
      cases i with
      | zero => simp at hx; subst hx; exact ⟨a, rfl, h.1⟩
      | succ i => simp at hx; simpa using h2 i x hx
theorem Zb.rep {U : Nat → Prop} {x y : AV} {v : Value} (h : Zb x y) (hr : ARep w U ι x v) : ARep w U ι y v := by
  unfold Zb at h
  split at h
  · trivial
  · subst h; exact hr

theorem StF.weak {fr' : List AV} (hs : StF E B w L ι fr a) (h1 : Za fr fr') (h2 : Zc L' L) : StF E B w L' ι fr' a := by
  obtain ⟨h, hf, hd⟩ := hs
  have hl := Zc.look h2
  have hO : ∀ b, Own L' ι b → Own L ι b := fun b ⟨k, q, e1, e2⟩ => ⟨k, q, hl k q e1, e2⟩
  have hk : Keeps w w (fun b => Own L ι b ∨ B.X b) (fun b => Own L' ι b ∨ B.X b) := fun b _ hu => ⟨rfl, fun h => hu (h.imp (hO b) id)⟩
  obtain ⟨g1, g2⟩ := h1.get
  refine ⟨⟨h.grow, ⟨fun j q hj => ?_, fun j j' q q' b hj hj' => h.sim.inj j j' q q' b (hl j q hj) (hl j' q' hj')⟩, fun b hb => h.own b (hO b hb), h.xlt, fun k h0 h1 => ?_, h.env, h.envb, h.loc, h.xdis⟩, ⟨by rw [hf.1, g1], fun i y hy => ?_⟩, hd⟩
  · have ho := h.sim.obj j q (hl j q hj)
    cases q with
    | box cs t =>
      obtain ⟨b, vs, e1, e2, e3, e4, e5⟩ := ho
      refine ⟨b, vs, e1, e2, e3, e4, fun i x hx => ?_⟩
      obtain ⟨u, hu, hr⟩ := e5 i x hx
      exact ⟨u, hu, hr.mono hk⟩
    | row es e z ap =>
      obtain ⟨vs, hown', e4, e5, e6⟩ := ho
      exact ⟨vs, hown', e4, PRepL.mono hk _ _ e5, e6⟩
    | map kv x y =>
      obtain ⟨r, ents, cl, e1, e2, e3⟩ := ho
      exact ⟨r, ents, cl, e1, e2, e3.1, PRepL.mono hk _ _ e3.2⟩
  · obtain ⟨q, hq⟩ := Option.isSome_iff_exists.1 h1
    exact h.keep k h0 (by rw [hl k q hq]; rfl)
  · obtain ⟨x, hx, hxy⟩ := g2 i y hy
    obtain ⟨v, hv, hr⟩ := hf.2 i x hx
    exact ⟨v, hv, (hxy.rep hr).mono hk⟩
end
end Go.Proofs.YtpddiepfolfnoaaDoor
