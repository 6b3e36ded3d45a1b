/- Sorting a row in place: the library's slices.SortFunc as a contract of the layer. -/
import Derived.Test.YtpddiepfolfnoaaDoorA23
import Derived.Shelf.SlSortCmp.NoneTotal
namespace Go.Proofs.YtpddiepfolfnoaaDoor
open Go.Shelf Go.RowKit Go.Lib Go.Sort
set_option linter.unusedVariables false
set_option linter.unusedSimpArgs false
set_option linter.defProp false

/-- Values that need no memory. -/
def flatD : PV → Bool
  | .int .. | .bool _ | .str _ => true
  | _ => false
def valD : PV → Value
  | .int k n => .int k n
  | .bool b => .bool b
  | .str s => .string ⟨s.toArray⟩
  | _ => undef
theorem PRep.valD {w : World} {U : Nat → Prop} {x : PV} {v : Value} (hf : flatD x = true) : PRep w U x v ↔ v = valD x := by
  cases x <;> simp_all [flatD, PRep, Go.Proofs.YtpddiepfolfnoaaDoor.valD]
theorem PRepL.valD {w : World} {U : Nat → Prop} : ∀ {xs : List PV} {vs : List Value}, (xs.all flatD) = true → (PRepL w U xs vs ↔ vs = xs.map Go.Proofs.YtpddiepfolfnoaaDoor.valD) := by
  intro xs
  induction xs with
  | nil => intro vs _; simp [PRepL]
  | cons x r ih =>
    intro vs h
    simp only [List.all_cons, Bool.and_eq_true] at h
    simp only [PRepL, List.map_cons]
    constructor
    · rintro ⟨v, s, rfl, h1, h2⟩
      rw [PRep.valD h.1] at h1
      rw [ih h.2] at h2
      rw [h1, h2]
    · rintro rfl
      exact ⟨_, _, rfl, (PRep.valD h.1).2 rfl, (ih h.2).2 rfl⟩
theorem valD_one {x : PV} (hf : flatD x = true) : (valD x).oneCell' = true := by
  cases x <;> first | rfl | cases hf

section
variable {P : Program} {ρ : Ren} {E : Envt} {α : Type} [Inhabited α]

def encD (encP : α → List PV) (x : α) : List Value := (encP x).map valD

theorem flatK_list (enc : α → List Value) (k : Nat) (hk : ∀ x, (enc x).length = k) (l : List α) : (flatK enc k l.toArray).toList = (l.map enc).flatten := by
  have hlen : ∀ l : List α, ((l.map enc).flatten).length = l.length * k := by
    intro l
    induction l with
    | nil => simp
    | cons x r ih => rw [List.map_cons, List.flatten_cons, List.length_append, ih, hk, List.length_cons, Nat.add_mul]; omega
  have hget : ∀ (l : List α) (t : Nat), t < l.length * k → ((l.map enc).flatten)[t]? = some (enc (l.toArray)[t / k]!)[t % k]! := by
    intro l
    induction l with
    | nil => intro t h; simp at h
    | cons x r ih =>
      intro t h
      have k0 : 0 < k := by rcases Nat.eq_zero_or_pos k with h' | h'; · subst h'; simp at h
                            · exact h'
      rw [List.map_cons, List.flatten_cons]
      by_cases ht : t < k
      · rw [List.getElem?_append_left (by rw [hk]; exact ht), Nat.div_eq_of_lt ht, Nat.mod_eq_of_lt ht]
        have : ((x :: r).toArray)[0]! = x := rfl
        rw [this, List.getElem?_eq_getElem (by rw [hk]; exact ht), getElem!_pos (enc x) t (by rw [hk]; exact ht)]
      · rw [List.getElem?_append_right (by rw [hk]; omega), hk, ih (t - k) (by rw [List.length_cons, Nat.add_mul] at h; omega)]
        obtain ⟨u, rfl⟩ : ∃ u, t = u + k := ⟨t - k, by omega⟩
        rw [Nat.add_sub_cancel, Nat.add_mod_right, Nat.add_div_right _ k0]
        congr 2
        simp
  apply List.ext_getElem?
  intro t
  by_cases ht : t < l.length * k
  · rw [hget l t ht, Array.getElem?_toList, Array.getElem?_eq_getElem (by rw [size_flatK]; simpa using ht)]
    have := get_flatK enc k l.toArray t (by simpa using ht)
    rw [getElem!_pos _ t (by rw [size_flatK]; simpa using ht)] at this
    rw [this]
  · rw [List.getElem?_eq_none (by rw [Array.length_toList, size_flatK]; simpa using ht), List.getElem?_eq_none (by rw [hlen]; omega)]

theorem sorted_pairwise (lt : α → α → Bool) (d : Array α) (n : Nat) (hn : d.size = n) (h : SortedIn lt 0 n d) : d.toList.Pairwise (fun u v => lt v u = false) := by
  rw [List.pairwise_iff_getElem]
  intro i j hi hj hij
  have := h i j (Nat.zero_le _) hij (by simpa [hn] using hj)
  rw [getElem!_pos d i (by simpa using hi), getElem!_pos d j (by simpa using hj)] at this
  simpa using this
theorem perm_list (d d' : Array α) (h : PermIn 0 d.size d d') : d'.toList.Perm d.toList ∧ d'.size = d.size := by
  refine ⟨?_, h.1⟩
  have := h.2.2
  rw [Array.extract_eq_self_of_le (Nat.le_refl _), Array.extract_eq_self_of_le (by rw [h.1]; exact Nat.le_refl _)] at this
  exact this

theorem sortFunc_row (L : SlLaysF0.n6 P ρ) (k : Nat) (aE : ∀ w, (isAgg (ρ.t 24)).run P w = .ok true w) (zE : ∀ w, (Go.sizeOf (ρ.t 24)).run P w = .ok k w) (et : TypeId) (encP : α → List PV) (hk : ∀ x, (encP x).length = k) (hf : ∀ x, (encP x).all flatD = true) (cf : α → α → Int) (hO : SWO (ltOf cf)) (g : Nat) (eg : ∀ args w, (callFunc g args).run P w = .ok (.enter g args) w)
    (hcmp : ∀ (w : World) (x y : α), Calls P g #[.agg (encD encP x).toArray, .agg (encD encP y).toArray] w fun e w' => e = .returned (.int .i64 (cf x y)) ∧ ∃ q os', w' = grow (w.drewN q) os') (l : List α) (hl : l.length ≤ 1000000000000) :
    RCall P E (ρ.f 6) et k (l.map encP) [.clo g []] (fun x es' => x = .tup [] ∧ ∃ l' : List α, es' = l'.map encP ∧ l'.Perm l ∧ l'.Pairwise (fun u v => ltOf cf v u = false)) := by
  intro w U vs v0 hU hE hEb hA hB
  obtain ⟨hB1, us, hrow, h1, hrep, hz⟩ := hB
  have hvs : vs = [.func (.func g) #[] #[]] := by
    simp only [PRepL, PRep] at hA
    obtain ⟨v, r, rfl, ⟨us, h1, rfl⟩, rfl⟩ := hA
    rw [h1]
  subst hvs
  have hall : ∀ l : List α, ((l.map encP).flatten).all flatD = true := by
    intro l
    induction l with
    | nil => rfl
    | cons x r ih => rw [List.map_cons, List.flatten_cons, List.all_append, hf, ih]; rfl
  have hmapf : ∀ l : List α, ((l.map encP).flatten).map valD = (l.map (encD encP)).flatten := by
    intro l
    induction l with
    | nil => rfl
    | cons x r ih => rw [List.map_cons, List.flatten_cons, List.map_append, ih]; rfl
  rw [PRepL.valD (hall l), hmapf] at hrep
  subst hrep
  have hke : ∀ x, (encD encP x).length = k := fun x => by simp [encD, hk]
  rw [List.length_map] at hrow
  rcases hrow.2 with ⟨rfl, hn⟩ | ⟨b, cap, cur, fz, rfl, hg, hn, hcap, hcs, htk, hfz⟩
  · have hl0 : l = [] := List.eq_nil_of_length_eq_zero hn
    subst hl0
    refine (AnyF.slices_SortFunc_none L none 0 (.func (.func g) #[] #[]) w).mono ?_
    rintro e w' ⟨rfl, rfl⟩
    exact ⟨_, .p (.tup []), .row et k [], rfl, ⟨_, _, rfl, rfl, rfl, [], rfl, .refl _, .nil⟩, ⟨[], rfl, by simp [PRepL]⟩, Grow.refl _ _, ⟨[], ⟨by simp, .inl ⟨rfl, rfl⟩⟩, by simp, by simp [PRepL], by simp⟩⟩
  · have hf0 : fz = (0, 0) := by rcases hfz with h | h; exact h; exact absurd h.1 (by simp)
    subst hf0
    have hb : b < w.heap.size := by
      rcases Nat.lt_or_ge b w.heap.size with h | h
      · exact h
      · rw [Array.getElem?_eq_none h] at hg; cases hg
    have hlk := flatK_list (encD encP) k hke l
    have hsz : (flatK (encD encP) k l.toArray).size = l.length * k := by rw [size_flatK]; simp
    have hH : HoldsK (encD encP) k w b 0 l.toArray := by
      intro j hj
      rw [hsz] at hj
      have e1 : cur[j]? = some ((flatK (encD encP) k l.toArray)[j]!) := by
        rw [getElem!_pos _ j (by rw [hsz]; exact hj), ← Array.getElem_toList, ← List.getElem?_eq_getElem, hlk, ← htk, List.getElem?_take_of_lt hj, Array.getElem?_toList]
      refine ⟨?_, ?_⟩
      · simp only [World.cell?, hg]
        simpa using e1
      · simp [World.frozen?, hg]
    have hcmp' : CmpLays P g #[] (encD encP) k cf b 0 l.toArray.size w := fun m os dk hs x y => by simpa using hcmp _ x y
    refine (AnyQ.slices_SortFunc L k aE zE (encD encP) hke (fun x v hv => by
      simp only [encD, List.mem_map] at hv
      obtain ⟨q, hq, rfl⟩ := hv
      exact valD_one (List.all_eq_true.1 (hf x) q hq)) cf hO g #[] b 0 cap l.toArray w eg hcmp' hH hb (by simp; omega)).mono ?_
    rintro e w' ⟨rfl, d', n, os, hperm, hsort, rfl⟩
    obtain ⟨hp1, hp2⟩ := perm_list _ _ hperm
    have hp2' : d'.size = l.length := by simpa using hp2
    have hds := sorted_pairwise (ltOf cf) d' l.toArray.size hp2 hsort
    have hblk : ∀ c, c ≠ b → c < w.heap.size → (sortWorldK (encD encP) k w b 0 n d' os).heap[c]? = w.heap[c]? := by
      intro c hc hlt
      simp only [sortWorldK, grow, putRowK, putRow, mapBlock]
      rw [Array.getElem?_append_left (by simpa using hlt), Array.getElem?_modify, if_neg (fun e => hc e.symm)]
      rfl
    have hnew : (sortWorldK (encD encP) k w b 0 n d' os).heap[b]? = some (.cells (putCells id 0 (flatK (encD encP) k d') cur) et (0, 0)) := by
      simp only [sortWorldK, grow, putRowK, putRow, mapBlock]
      rw [Array.getElem?_append_left (by simpa using hb), Array.getElem?_modify, if_pos rfl]
      show Option.map _ w.heap[b]? = _
      rw [hg]
      rfl
    have hGr : Grow w (sortWorldK (encD encP) k w b 0 n d' os) (fun c => blk (.slice (some ⟨b, 0, none⟩) l.length cap) = some c) := by
      refine ⟨rfl, rfl, rfl, ?_, fun c hc hne => hblk c (fun e => hne (by rw [e]; rfl)) hc⟩
      simp [sortWorldK, grow, putRowK, putRow, mapBlock]
    refine ⟨_, .p (.tup []), .row et k (d'.toList.map encP), rfl, ⟨_, _, rfl, rfl, rfl, d'.toList, rfl, by simpa using hp1, hds⟩, ⟨[], rfl, by simp [PRepL]⟩, hGr, ?_⟩
    have hlen' : ((d'.toList.map (encD encP)).flatten).length = l.length * k := by
      rw [← flatK_list (encD encP) k hke d'.toList, Array.length_toList, size_flatK]
      simp [hp2']
    have hdl : (d'.toList.map encP).length = l.length := by simp [hp2']
    refine ⟨(d'.toList.map (encD encP)).flatten, ⟨by rw [hlen', hdl], .inr ⟨b, cap, _, (0, 0), by rw [hdl], hnew, by rw [hdl]; exact hn, hcap, by simp [putCells, hcs], ?_, .inl rfl⟩⟩, ?_, ?_, ?_⟩
    · rw [hdl]
      have hle : l.length * k ≤ cur.size := by rw [hcs]; exact Nat.mul_le_mul_right _ hn
      have hfk := flatK_list (encD encP) k hke d'.toList
      apply List.ext_getElem?
      intro j
      by_cases hj : j < l.length * k
      · rw [List.getElem?_take_of_lt hj, Array.getElem?_toList, ← hfk, Array.getElem?_toList]
        have hsz' : (flatK (encD encP) k d').size = l.length * k := by rw [size_flatK, hp2']
        simp only [putCells, Array.getElem?_mapIdx, hsz']
        rw [Array.getElem?_eq_getElem (by omega), Option.map_some, if_pos ⟨Nat.zero_le _, by omega⟩, Nat.sub_zero, getElem!_pos _ j (by rw [hsz']; exact hj)]
        simp
      · rw [List.getElem?_eq_none (by rw [List.length_take]; omega), List.getElem?_eq_none (by rw [hlen']; omega)]
    · intro u hu
      obtain ⟨q, hq, hu⟩ := List.mem_flatten.1 hu
      obtain ⟨x, hx, rfl⟩ := List.mem_map.1 hq
      simp only [encD, List.mem_map] at hu
      obtain ⟨q, hq, rfl⟩ := hu
      exact valD_one (List.all_eq_true.1 (hf x) q hq)
    · rw [PRepL.valD (hall d'.toList), hmapf]
    · intro x hx
      obtain ⟨y, _, rfl⟩ := List.mem_map.1 hx
      exact hk y
end
end Go.Proofs.YtpddiepfolfnoaaDoor
