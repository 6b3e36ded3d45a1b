/- Regions that draw their order: what the text's order gives, every order gives. -/
import Derived.Test.YtpddiepfolfnoaaDoorA19
import Derived.Orders
namespace Go.Proofs.YtpddiepfolfnoaaDoor
set_option linter.unusedVariables false
set_option linter.unusedSimpArgs false
set_option linter.defProp false

def slots : Opd → List Nat
  | .t i => [i]
  | _ => []
def optS : Option Opd → List Nat
  | none => []
  | some x => slots x
def slotsL : List Opd → List Nat
  | [] => []
  | x :: r => slots x ++ slotsL r
def slotsP : List (Nat × Nat × Opd) → List Nat
  | [] => []
  | (_, _, x) :: r => slots x ++ slotsP r

/-- The slots that an operation without effects reads; none: it has effects. -/
def readsA : IOp → Option (List Nat)
  | .mov x | .not x | .neg x | .len x | .sln x | .fla _ x | .fld _ _ _ x | .ld _ _ x | .ldl _ _ x | .ext _ x | .cvi _ x | .cvs x | .b2s x | .nck x | .mpn x => some (slots x)
  | .pick c a b => some (slots c ++ slots a ++ slots b)
  | .bin _ x y | .bnb _ x y | .eqa _ _ x y | .mx x y | .mn x y | .idx x y | .ixa _ x y | .mpl _ _ x y => some (slots x ++ slots y)
  | .ssl x lo hi | .vsl _ x lo hi => some (slots x ++ optS lo ++ optS hi)
  | .bld _ parts => some (slotsP parts)
  | .bsl _ parts => some (slotsL parts)
  | .pcall _ _ args => some (slotsL args)
  | _ => none
def readsI (i : IOper) : Option (List Nat) :=
  (readsA i.op).map fun l => l ++ (match i.guard with | some (s, _) => [s] | none => [])

/-- A call that turns one variable: the slots that it reads. -/
def isD : IOper → Option (Bool × List Nat)
  | ⟨_, .dcall b _ args, none⟩ => some (b, slotsL args)
  | _ => none
/-- What an operation without effects does is the same before and behind such a call. -/
def lfree (b : Bool) : IOp → Bool
  | .ld .. => false
  | .pcall .. => false
  | .mpl .. => false
  | .mpn .. => false
  | .ldl .. => b
  | _ => true
def sepI (x i : IOper) (rx ri : List Nat) : Bool :=
  (match x.dst with | some d => !ri.contains d | none => true) && (match i.dst with | some d => !rx.contains d | none => true) && (match x.dst, i.dst with | some d, some e => d != e | _, _ => true)
def apartI (x i : IOper) : Bool :=
  match readsI x, readsI i with
  | some rx, some ri => sepI x i rx ri
  | some rx, none => match isD i with
    | some (b, ri) => lfree b x.op && sepI x i rx ri
    | none => false
  | none, some ri => match isD x with
    | some (b, rx) => lfree b i.op && sepI x i rx ri
    | none => false
  | none, none => false

section
variable {P : Program} {E : Envt} {Y : List PV} {fr : List AV} {L : Objs}

theorem rd_set {d : Nat} {r : AV} {x : Opd} (h : d ∉ slots x) : rd (fr.set d r) x = rd fr x := by
  cases x with
  | t i =>
    simp only [slots, List.mem_singleton] at h
    simp only [rd, List.getD]
    rw [List.getElem?_set_ne h]
  | _ => rfl
theorem rdo_set {d : Nat} {r : AV} {x : Option Opd} (h : d ∉ optS x) : x.map (rd (fr.set d r)) = x.map (rd fr) := by
  cases x with
  | none => rfl
  | some y => simp only [Option.map_some]; rw [rd_set h]
theorem bldP_set {d : Nat} {r : AV} : ∀ {ps : List (Nat × Nat × Opd)} {cs : List PV}, d ∉ slotsP ps → Zac (fr.set d r) cs ps = Zac fr cs ps := by
  intro ps
  induction ps with
  | nil => intros; rfl
  | cons p ps ih =>
    intro cs h
    obtain ⟨o, s, x⟩ := p
    simp only [slotsP, List.mem_append, not_or] at h
    simp only [Zac]
    rw [rd_set h.1]
    split
    · rw [ih h.2]
    · rfl
theorem bslP_set {d z : Nat} {r : AV} : ∀ {ps : List Opd}, d ∉ slotsL ps → Zad (fr.set d r) z ps = Zad fr z ps := by
  intro ps
  induction ps with
  | nil => intros; rfl
  | cons x ps ih =>
    intro h
    simp only [slotsL, List.mem_append, not_or] at h
    simp only [Zad]
    rw [rd_set h.1]
    split
    · rw [ih h.2]
    · rfl
theorem argC_set {d : Nat} {r : AV} : ∀ {ps : List Opd}, d ∉ slotsL ps → Zl (fr.set d r) ps = Zl fr ps := by
  intro ps
  induction ps with
  | nil => intros; rfl
  | cons x ps ih =>
    intro h
    simp only [slotsL, List.mem_append, not_or] at h
    simp only [Zl]
    rw [rd_set h.1, ih h.2]
theorem argV_set {d : Nat} {r : AV} : ∀ {ps : List Opd}, d ∉ slotsL ps → Zm (fr.set d r) ps = Zm fr ps := by
  intro ps
  induction ps with
  | nil => intros; rfl
  | cons x ps ih =>
    intro h
    simp only [slotsL, List.mem_append, not_or] at h
    have := ih h.2
    simp only [Zm, List.map_cons] at this ⊢
    rw [rd_set h.1, this]

/-- What an operation without effects does: its condition, its result. -/
def core (P : Program) (E : Envt) (Y : List PV) (fr : List AV) (L : Objs) : IOp → Option (Prop × AV)
  | .pcall n f args => some (Zl fr args ∧ PureC P E f (Zm fr args) L (· = Y.getD n (.bool false)), .p (Y.getD n (.bool false)))
  | op => Ze fr L op

theorem core_set {d : Nat} {r : AV} {op : IOp} {l : List Nat} (h : readsA op = some l) (hd : d ∉ l) : core P E Y (fr.set d r) L op = core P E Y fr L op := by
  cases op <;> simp only [readsA, Option.some.injEq, reduceCtorEq] at h <;> subst h <;> (try simp only [List.mem_append, not_or] at hd)
  case mov x => simp only [core, Ze, rd_set hd]
  case pick c a b => simp only [core, Ze, rd_set hd.1.1, rd_set hd.1.2, rd_set hd.2]
  case bin op x y => simp only [core, Ze, rd_set hd.1, rd_set hd.2]
  case bnb op x y => simp only [core, Ze, rd_set hd.1, rd_set hd.2]
  case eqa n k x y => simp only [core, Ze, rd_set hd.1, rd_set hd.2]
  case not x => simp only [core, Ze, rd_set hd]
  case neg x => simp only [core, Ze, rd_set hd]
  case len x => simp only [core, Ze, rd_set hd]
  case sln x => simp only [core, Ze, rd_set hd]
  case mx x y => simp only [core, Ze, rd_set hd.1, rd_set hd.2]
  case mn x y => simp only [core, Ze, rd_set hd.1, rd_set hd.2]
  case idx x y => simp only [core, Ze, rd_set hd.1, rd_set hd.2]
  case ssl x lo hi => simp only [core, Ze, rd_set hd.1.1, rdo_set hd.1.2, rdo_set hd.2]
  case vsl z x lo hi => simp only [core, Ze, rd_set hd.1.1, rdo_set hd.1.2, rdo_set hd.2]
  case ixa z x y => simp only [core, Ze, rd_set hd.1, rd_set hd.2]
  case fla o x => simp only [core, Ze, rd_set hd]
  case fld o s a x => simp only [core, Ze, rd_set hd]
  case ld s a x => simp only [core, Ze, rd_set hd]
  case ldl s a x => simp only [core, Ze, rd_set hd]
  case ext i x => simp only [core, Ze, rd_set hd]
  case bld z ps => simp only [core, Ze, bldP_set hd]
  case cvi k x => simp only [core, Ze, rd_set hd]
  case cvs x => simp only [core, Ze, rd_set hd]
  case b2s x => simp only [core, Ze, rd_set hd]
  case bsl z ps => simp only [core, Ze, bslP_set hd]
  case nck x => simp only [core, Ze, rd_set hd]
  case mpn x => simp only [core, Ze, rd_set hd]
  case mpl o z x y => simp only [core, Ze, rd_set hd.1, rd_set hd.2]
  case pcall n f args => simp only [core, argC_set hd, argV_set hd]

def sx (P : Program) (E : Envt) (Y : List PV) (fr : List AV) (L : Objs) (i : IOper) : Option (Prop × AV) :=
  match i.guard with
  | none => core P E Y fr L i.op
  | some (s, w) => match Zg fr s w with
    | some c0 => (match core P E Y fr L i.op with | some q => some (c0 = true → q.1, .g c0 q.2) | none => if plainOp i.op = true then some (c0 = false, .g c0 .any) else none)
    | none => none

theorem sx_setD {d : Option Nat} {r : AV} {i : IOper} {l : List Nat} (h : readsI i = some l) (hd : ∀ e, d = some e → e ∉ l) : sx P E Y (Zf fr d r) L i = sx P E Y fr L i := by
  cases d with
  | none => rfl
  | some d =>
    have hd := hd d rfl
    obtain ⟨l0, h1, rfl⟩ := Option.map_eq_some_iff.1 h
    simp only [List.mem_append, not_or] at hd
    unfold sx
    simp only [Zf]
    cases hg : i.guard with
    | none => simp only; exact core_set h1 hd.1
    | some q =>
      obtain ⟨s, w⟩ := q
      rw [hg] at hd
      simp only
      have : Zg (fr.set d r) s w = Zg fr s w := by
        unfold Zg
        rw [show (fr.set d r).getD s .any = fr.getD s .any from by simp only [List.getD]; rw [List.getElem?_set_ne (by simpa using hd.2)]]
      rw [this, core_set h1 hd.1]

theorem awpOps_sx {i : IOper} {is : List IOper} {K : List AV → Objs → Prop} (hr : (readsI i).isSome = true) : awpOps P E Y (i :: is) fr L K ↔ ∃ c r, sx P E Y fr L i = some (c, r) ∧ c ∧ awpOps P E Y is (Zf fr i.dst r) L K := by
  obtain ⟨d, op, gd⟩ := i
  have hA : (readsA op).isSome = true := by simpa [readsI] using hr
  cases gd with
  | none =>
    have key : ∀ q : Option (Prop × AV), (∃ c r, q = some (c, r) ∧ c ∧ awpOps P E Y is (Zf fr d r) L K) ↔ (match q with | some (c, r) => c ∧ awpOps P E Y is (Zf fr d r) L K | none => False) := by
      intro q
      cases q with
      | none => simp
      | some q =>
        obtain ⟨c, r⟩ := q
        simp only [Option.some.injEq, Prod.mk.injEq]
        exact ⟨fun ⟨_, _, ⟨rfl, rfl⟩, h1, h2⟩ => ⟨h1, h2⟩, fun ⟨h1, h2⟩ => ⟨_, _, ⟨rfl, rfl⟩, h1, h2⟩⟩
    have gen : ∀ op : IOp, awpOps P E Y (⟨d, op, none⟩ :: is) fr L K = (match Zd d fr L op with | some (c, fr', L') => c ∧ awpOps P E Y is fr' L' K | none => False) → Zd d fr L op = (Ze fr L op).map (fun q => (q.1, Zf fr d q.2, L)) → core P E Y fr L op = Ze fr L op → (awpOps P E Y (⟨d, op, none⟩ :: is) fr L K ↔ ∃ c r, sx P E Y fr L ⟨d, op, none⟩ = some (c, r) ∧ c ∧ awpOps P E Y is (Zf fr d r) L K) := by
      intro op h1 h2 h3
      rw [h1, h2]
      simp only [sx, h3]
      rw [key]
      cases Ze fr L op with
      | none => rfl
      | some q => rfl
    cases op <;> simp only [readsA, Option.isSome_some, Option.isSome_none, Bool.false_eq_true] at hA
    case pcall n f args =>
      simp only [awpOps, sx, core]
      rw [key]
    all_goals exact gen _ rfl rfl rfl
  | some sw =>
    obtain ⟨s, want⟩ := sw
    have gen : ∀ op : IOp, awpOps P E Y (⟨d, op, some (s, want)⟩ :: is) fr L K = (match Zg fr s want with | some c0 => (match Ze fr L op with | some (c, r) => (c0 = true → c) ∧ awpOps P E Y is (Zf fr d (.g c0 r)) L K | none => plainOp op = true ∧ c0 = false ∧ awpOps P E Y is (Zf fr d (.g c0 .any)) L K) | none => False) → core P E Y fr L op = Ze fr L op → (awpOps P E Y (⟨d, op, some (s, want)⟩ :: is) fr L K ↔ ∃ c r, sx P E Y fr L ⟨d, op, some (s, want)⟩ = some (c, r) ∧ c ∧ awpOps P E Y is (Zf fr d r) L K) := by
      intro op h1 h3
      rw [h1]
      simp only [sx, h3]
      cases Zg fr s want with
      | none => simp
      | some c0 =>
        cases Ze fr L op with
        | none =>
          cases hp : plainOp op with
          | false => simp
          | true =>
            simp only [if_true, Option.some.injEq, Prod.mk.injEq, true_and]
            exact ⟨fun ⟨h1, h2⟩ => ⟨_, _, ⟨rfl, rfl⟩, h1, h2⟩, fun ⟨_, _, ⟨rfl, rfl⟩, h1, h2⟩ => ⟨h1, h2⟩⟩
        | some q =>
          obtain ⟨c, r⟩ := q
          simp only [Option.some.injEq, Prod.mk.injEq]
          exact ⟨fun ⟨h1, h2⟩ => ⟨_, _, ⟨rfl, rfl⟩, h1, h2⟩, fun ⟨_, _, ⟨rfl, rfl⟩, h1, h2⟩ => ⟨h1, h2⟩⟩
    cases op <;> simp only [readsA, Option.isSome_some, Option.isSome_none, Bool.false_eq_true] at hA
    case pcall n f args =>
      simp only [awpOps, sx, core]
      cases Zg fr s want with
      | none => simp
      | some c0 =>
        simp only [Option.map_some, Option.some.injEq, Prod.mk.injEq]
        exact ⟨fun ⟨h1, h2⟩ => ⟨_, _, ⟨rfl, rfl⟩, h1, h2⟩, fun ⟨_, _, ⟨rfl, rfl⟩, h1, h2⟩ => ⟨h1, h2⟩⟩
    all_goals exact gen _ rfl rfl

theorem sepI_spec {x i : IOper} {rx ri : List Nat} (h : sepI x i rx ri = true) : (∀ d, x.dst = some d → d ∉ ri) ∧ (∀ d, i.dst = some d → d ∉ rx) ∧ (∀ d e, x.dst = some d → i.dst = some e → d ≠ e) := by
  simp only [sepI, Bool.and_eq_true] at h
  refine ⟨fun d hd => ?_, fun d hd => ?_, fun d e hd he => ?_⟩
  · have := h.1.1; rw [hd] at this; simpa using this
  · have := h.1.2; rw [hd] at this; simpa using this
  · have := h.2; rw [hd, he] at this; simpa using this
theorem isD_eq {i : IOper} {b : Bool} {l : List Nat} (h : isD i = some (b, l)) : ∃ d f args, i = ⟨d, .dcall b f args, none⟩ ∧ l = slotsL args := by
  unfold isD at h
  split at h
  · simp only [Option.some.injEq, Prod.mk.injEq] at h
    obtain ⟨rfl, rfl⟩ := h
    exact ⟨_, _, _, rfl, rfl⟩
  · cases h
theorem apartI_spec {x i : IOper} (h : apartI x i = true) :
    (∃ rx ri, readsI x = some rx ∧ readsI i = some ri ∧ sepI x i rx ri = true) ∨
    (∃ rx b d f args, readsI x = some rx ∧ i = ⟨d, .dcall b f args, none⟩ ∧ lfree b x.op = true ∧ sepI x i rx (slotsL args) = true) ∨
    (∃ ri b d f args, readsI i = some ri ∧ x = ⟨d, .dcall b f args, none⟩ ∧ lfree b i.op = true ∧ sepI x i (slotsL args) ri = true) := by
  unfold apartI at h
  split at h
  · rename_i rx ri h1 h2; exact .inl ⟨rx, ri, h1, h2, h⟩
  · rename_i rx h1 h2
    split at h
    · rename_i b l e
      obtain ⟨d, f, args, rfl, rfl⟩ := isD_eq e
      simp only [Bool.and_eq_true] at h
      exact .inr (.inl ⟨rx, b, d, f, args, h1, rfl, h.1, h.2⟩)
    · cases h
  · rename_i ri h1 h2
    split at h
    · rename_i b l e
      obtain ⟨d, f, args, rfl, rfl⟩ := isD_eq e
      simp only [Bool.and_eq_true] at h
      exact .inr (.inr ⟨ri, b, d, f, args, h2, rfl, h.1, h.2⟩)
    · cases h
  · cases h

theorem slOf_put {k : Key} {cs cs' : List AV} {t : TypeId} (hl : Zah L k = some (.box cs t)) (v : AV) : Zv (Zai L k (.box cs' t)) v = Zv L v := by
  cases v with
  | row k' =>
    simp only [Zv, look_putO]
    by_cases h : k' = k
    · subst h; simp [hl]
    · simp [h]
  | p x => cases x <;> rfl
  | _ => rfl
theorem core_put {b : Bool} {op : IOp} {k : Key} {cs cs' : List AV} {t : TypeId} (hf : lfree b op = true) (hr : (readsA op).isSome = true) (hl : Zah L k = some (.box cs t)) (hb : b = true → ∃ j, k = .b j) : core P E Y fr (Zai L k (.box cs' t)) op = core P E Y fr L op := by
  cases op <;> simp only [readsA, Option.isSome_some, Option.isSome_none, Bool.false_eq_true] at hr
  case ld => simp [lfree] at hf
  case pcall => simp [lfree] at hf
  case mpl => simp [lfree] at hf
  case mpn => simp [lfree] at hf
  case len x => simp only [core, Ze, slOf_put hl]
  case b2s x => simp only [core, Ze, slOf_put hl]
  case ixa z x y =>
    simp only [core, Ze]
    split
    · rfl
    · rename_i k' _ _ _ _ _
      rw [look_putO]
      by_cases h : k' = k
      · subst h; simp [hl]
      · simp [h]
    · rfl
  case ldl s a x =>
    simp only [lfree] at hf
    obtain ⟨j, rfl⟩ := hb hf
    simp only [core, Ze]
    split
    · rfl
    · rw [look_putO, if_neg (by simp)]
    · rfl
  all_goals rfl
theorem sx_put {b : Bool} {i : IOper} {k : Key} {cs cs' : List AV} {t : TypeId} (hf : lfree b i.op = true) (hr : (readsI i).isSome = true) (hl : Zah L k = some (.box cs t)) (hb : b = true → ∃ j, k = .b j) : sx P E Y fr (Zai L k (.box cs' t)) i = sx P E Y fr L i := by
  have hA : (readsA i.op).isSome = true := by simpa [readsI] using hr
  unfold sx
  split
  · exact core_put hf hA hl hb
  · rw [core_put hf hA hl hb]
theorem argC_setD {d : Option Nat} {r : AV} {ps : List Opd} (h : ∀ e, d = some e → e ∉ slotsL ps) : Zl (Zf fr d r) ps = Zl fr ps := by
  cases d with
  | none => rfl
  | some e => exact argC_set (h e rfl)
theorem argV_setD {d : Option Nat} {r : AV} {ps : List Opd} (h : ∀ e, d = some e → e ∉ slotsL ps) : Zm (Zf fr d r) ps = Zm fr ps := by
  cases d with
  | none => rfl
  | some e => exact argV_set (h e rfl)

theorem setD_comm {d e : Option Nat} {r q : AV} (h : ∀ a b, d = some a → e = some b → a ≠ b) : Zf (Zf fr d r) e q = Zf (Zf fr e q) d r := by
  cases d with
  | none => rfl
  | some d => cases e with
    | none => rfl
    | some e => simp only [Zf]; rw [List.set_comm _ _ (h d e rfl rfl)]

theorem commute1 {x i : IOper} {is : List IOper} {K : List AV → Objs → Prop} (ha : apartI x i = true) (h : awpOps P E Y (x :: i :: is) fr L K) : awpOps P E Y (i :: x :: is) fr L K := by
  rcases apartI_spec ha with ⟨rx, ri, h1, h2, hs⟩ | ⟨rx, b, d, f, args, h1, rfl, hf, hs⟩ | ⟨ri, b, d, f, args, h2, rfl, hf, hs⟩
  · obtain ⟨h3, h4, h5⟩ := sepI_spec hs
    rw [awpOps_sx (by rw [h1]; rfl)] at h
    obtain ⟨c, r, e1, hc, h⟩ := h
    rw [awpOps_sx (by rw [h2]; rfl)] at h
    obtain ⟨c2, r2, e2, hc2, h⟩ := h
    rw [sx_setD h2 h3] at e2
    rw [awpOps_sx (by rw [h2]; rfl)]
    refine ⟨c2, r2, e2, hc2, ?_⟩
    rw [awpOps_sx (by rw [h1]; rfl)]
    refine ⟨c, r, by rw [sx_setD h1 h4]; exact e1, hc, ?_⟩
    rwa [setD_comm (fun a b ha hb => Ne.symm (h5 b a hb ha))]
  · obtain ⟨h3, h4, h5⟩ := sepI_spec hs
    rw [awpOps_sx (by rw [h1]; rfl)] at h
    obtain ⟨c, r, e1, hc, h⟩ := h
    simp only [awpOps] at h
    obtain ⟨hA, k, t, cs, post, g1, g2, g3, g4, g5, g6⟩ := h
    rw [argC_setD h3] at hA
    rw [argV_setD h3] at g1
    simp only [awpOps]
    refine ⟨hA, k, t, cs, post, g1, g2, g3, g4, g5, fun y cs' hp => ?_⟩
    show awpOps P E Y (x :: is) _ _ K
    rw [awpOps_sx (by rw [h1]; rfl)]
    refine ⟨c, r, ?_, hc, ?_⟩
    · rw [sx_put hf (by rw [h1]; rfl) g2 g4, sx_setD h1 h4]; exact e1
    · rw [setD_comm (fun a b ha hb => Ne.symm (h5 b a hb ha))]
      exact g6 y cs' hp
  · obtain ⟨h3, h4, h5⟩ := sepI_spec hs
    simp only [awpOps] at h
    obtain ⟨hA, k, t, cs, post, g1, g2, g3, g4, ⟨y0, cs0, hp0⟩, g6⟩ := h
    have hn := g6 y0 cs0 hp0
    change awpOps P E Y (i :: is) _ _ K at hn
    rw [awpOps_sx (by rw [h2]; rfl)] at hn
    obtain ⟨c, r, e1, hc, _⟩ := hn
    rw [sx_put hf (by rw [h2]; rfl) g2 g4, sx_setD h2 h3] at e1
    rw [awpOps_sx (by rw [h2]; rfl)]
    refine ⟨c, r, e1, hc, ?_⟩
    simp only [awpOps]
    refine ⟨by rw [argC_setD h4]; exact hA, k, t, cs, post, by rw [argV_setD h4]; exact g1, g2, g3, g4, ⟨y0, cs0, hp0⟩, fun y cs' hp => ?_⟩
    have hn := g6 y cs' hp
    change awpOps P E Y (i :: is) _ _ K at hn
    rw [awpOps_sx (by rw [h2]; rfl)] at hn
    obtain ⟨c', r', e', _, hk⟩ := hn
    rw [sx_put hf (by rw [h2]; rfl) g2 g4, sx_setD h2 h3, e1] at e'
    cases e'
    rw [setD_comm (fun a b ha hb => Ne.symm (h5 b a hb ha))]
    exact hk

theorem awpOps_cons {i : IOper} {is js : List IOper} {K : List AV → Objs → Prop} (hr : (readsI i).isSome = true ∨ ∃ b d f args, i = ⟨d, .dcall b f args, none⟩) (h : awpOps P E Y (i :: is) fr L K) (hk : ∀ fr L, awpOps P E Y is fr L K → awpOps P E Y js fr L K) : awpOps P E Y (i :: js) fr L K := by
  rcases hr with hr | ⟨b, d, f, args, rfl⟩
  · rw [awpOps_sx hr] at h ⊢
    obtain ⟨c, r, e1, hc, h⟩ := h
    exact ⟨c, r, e1, hc, hk _ _ h⟩
  · simp only [awpOps] at h ⊢
    obtain ⟨hA, k, t, cs, post, g1, g2, g3, g4, g5, g6⟩ := h
    exact ⟨hA, k, t, cs, post, g1, g2, g3, g4, g5, fun y cs' hp => hk _ _ (g6 y cs' hp)⟩

theorem moveFront {i : IOper} {post : List IOper} {K : List AV → Objs → Prop} : ∀ (pre : List IOper) (fr : List AV) (L : Objs), (∀ x ∈ pre, apartI x i = true) → awpOps P E Y (pre ++ i :: post) fr L K → awpOps P E Y (i :: (pre ++ post)) fr L K := by
  intro pre
  induction pre with
  | nil => intro fr L _ h; exact h
  | cons x pre ih =>
    intro fr L ha h
    have hx := ha x (by simp)
    have hr : (readsI x).isSome = true ∨ ∃ b d f args, x = ⟨d, .dcall b f args, none⟩ := by
      rcases apartI_spec hx with ⟨rx, ri, h1, _⟩ | ⟨rx, b, d, f, args, h1, _⟩ | ⟨ri, b, d, f, args, _, h1, _⟩
      · exact .inl (by rw [h1]; rfl)
      · exact .inl (by rw [h1]; rfl)
      · exact .inr ⟨b, d, f, args, h1⟩
    have h' : awpOps P E Y (x :: i :: (pre ++ post)) fr L K := awpOps_cons hr h (fun fr L h => ih fr L (fun y hy => ha y (by simp [hy])) h)
    exact commute1 hx h'

/-- The edges that bind in any order. -/
def edgesB (o : Oper) : List Nat := (o.after.toList.filter fun e => Region.binds .any e).map (·.on)

/-- j must come before i: by edges. -/
def ancB (ops : Array Oper) : Nat → Nat → Nat → Bool
  | 0, _, _ => false
  | n + 1, i, j => match ops[i]? with
    | some o => (edgesB o).any fun e => e == j || ancB ops n e j
    | none => false

def pairsOk (ops : Array Oper) (n : Nat) (i : Nat) (ii : IOper) : List (Nat × IOper) → Bool
  | [] => true
  | (j, jj) :: r => (apartI jj ii || ancB ops n i j) && pairsOk ops n i ii r

def allOk (ops : Array Oper) (n : Nat) : List (Nat × IOper) → List (Nat × IOper) → Bool
  | _, [] => true
  | seen, (i, ii) :: r => pairsOk ops n i ii seen && allOk ops n (seen ++ [(i, ii)]) r

def dropFz : List IOper → List IOper
  | [] => []
  | i :: is => if isFz i then dropFz is else i :: is

/-- The check for a region that draws its order. -/
def okDraw (ops : Array Oper) (is : List IOper) : Bool :=
  let js := dropFz is
  js.all (fun i => !isFz i) && js.length == ops.size && allOk ops ops.size [] ((List.range js.length).zip js) &&
  (List.range ops.size).all fun i => match ops[i]? with | some o => (edgesB o).all fun e => decide (e < i) | none => true
end
end Go.Proofs.YtpddiepfolfnoaaDoor
