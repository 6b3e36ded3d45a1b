/- Own texts, put together: S1 S2 A24 A25 S3 S4 S5. -/
import Derived.Test.YtpddiepfolfnoaaM2
import Derived.Test.YtpddiepfolfnoaaProg
import Derived.KernelRfl
import Derived.Laws.Cover4
import Derived.Shelf.SlSortCmp.NoneTotal
import Derived.Test.YtpddiepfolfnoaaCompare
import Derived.Test.YtpddiepfolfnoaaResem
import Derived.Test.YtpddiepfolfnoaaComp2
import Derived.Test.YtpddiepfolfnoaaRow
/- The maker's stream. -/
namespace Go.Proofs.Ytpddiepfolfnoaa
set_option linter.unusedVariables false
set_option linter.unusedSimpArgs false
set_option linter.defProp false

theorem mixed : Try.prog.follows .mixedOrders = true := by kernel_rfl
abbrev int (n : Int) : PV := .int .i64 n
def ints (l : List Int) : PV := .sl 1 (l.map fun x => [.int .i64 x])
def strs (l : List (List UInt8)) : PV := .sl 1 (l.map fun x => [.str x])
theorem getD_map {α β : Type} {f : α → β} {l : List α} {k : Nat} {x : α} {d : β} (h : l[k]? = some x) : (l.map f).getD k d = f x := by
  simp [List.getD, h]
theorem i64_of {n : Int} (h1 : -9223372036854775808 ≤ n) (h2 : n ≤ 9223372036854775807) : I64 n := ⟨h1, h2⟩

theorem Zl0 {α : Type} {n : Nat} : ([] : List α).take n = [] := by simp
theorem Zl1 {α : Type} {n : Nat} : ([] : List α).drop n = [] := by simp
theorem Zl2 {α : Type} {l : List α} : l ++ [] = l := by simp
theorem Zl3 {p : Prop} : (True ∧ p) = p := by simp
theorem Zl4 {p : Prop} : (p ∧ True) = p := by simp
theorem Zl5 {α : Type} {h : Decidable True} {a b : α} : (if True then a else b) = a := by simp
theorem Zl6 {α : Type} {h : Decidable False} {a b : α} : (if False then a else b) = b := by simp
theorem Zl7 {b : Bool} : (b && true) = b := by simp
theorem Zl8 {b : Bool} : (true && b) = b := rfl
theorem Zl9 : (!true) = false := rfl
theorem Zl10 : (!false) = true := rfl
theorem Zl11 {α : Type} {a b : α} : (bif true then a else b) = a := rfl
theorem Zl12 {α : Type} {a b : α} : (bif false then a else b) = b := rfl
theorem Zl13 {p : Prop} : (p → p) = True := by simp
theorem Zl14 {p : Prop} : (p ∧ p) = p := by simp
theorem Zl15 {p : Prop} : (True → p) = p := by simp
theorem Zl16 {p : Prop} : (p → True) = True := by simp
theorem Zl17 {n : Nat} : 0 + n = n := by simp
theorem Zl18 {n : Nat} : n + 0 = n := rfl
theorem Zl19 {b c : Bool} : (bif b then c else false) = (b && c) := by simp
theorem Zl20 {b c : Bool} : (bif b then true else c) = (b || c) := by simp
theorem Zl21 {n : Nat} : ((n : Int)).toNat = n := rfl
theorem Zl22 : (false = true) = False := by simp
theorem Zl23 {α : Type} {a b : α} : (a ≠ b) = ¬ (a = b) := by simp
theorem Zl24 : (¬ False) = True := by simp
theorem Zl25 : (¬ True) = False := by simp
theorem Zl26 {a b : Nat} : (Key.l a = Key.l b) = (a = b) := by simp
theorem Zl27 {a b : Nat} : (Key.b a = Key.b b) = (a = b) := by simp
theorem Zl28 {α : Type} {a : α} {l : List α} {d : α} : (a :: l).getD 0 d = a := rfl
theorem Zl29 {α : Type} {a : α} {l : List α} {d : α} {n : Nat} : (a :: l).getD (n + 1) d = l.getD n d := rfl
theorem Zl30 {α : Type} {d : α} {n : Nat} : ([] : List α).getD n d = d := rfl
theorem Zl31 {α : Type} {a : α} {l : List α} : (a :: l)[0]? = some a := rfl
theorem Zl32 {α : Type} {a : α} {l : List α} {n : Nat} : (a :: l)[n + 1]? = l[n]? := rfl
theorem Zl33 {α : Type} {a b : α} {l : List α} : (a :: l).set 0 b = b :: l := rfl
theorem Zl34 {α : Type} {a b : α} {l : List α} {n : Nat} : (a :: l).set (n + 1) b = a :: l.set n b := rfl
theorem Zl35 {α β : Type} {f : α → β} {a : α} {l : List α} : (a :: l).map f = f a :: l.map f := rfl
theorem Zl36 {α β : Type} {f : α → β} : [].map f = [] := rfl
theorem Zl37 {α : Type} {a : α} {l : List α} : (a :: l).length = l.length + 1 := rfl
theorem Zl38 {α : Type} : ([] : List α).length = 0 := rfl
theorem Zl39 {α : Type} {p : α → Bool} {a : α} {l : List α} : (a :: l).all p = (p a && l.all p) := rfl
theorem Zl40 {α : Type} {p : α → Bool} : [].all p = true := rfl
theorem Zl41 {α : Type} {a : α} {l : List α} {n : Nat} : (a :: l).take (n + 1) = a :: l.take n := rfl
theorem Zl42 {α : Type} {l : List α} : l.take 0 = [] := rfl
theorem Zl43 {α : Type} {a : α} {l : List α} {n : Nat} : (a :: l).drop (n + 1) = l.drop n := rfl
theorem Zl44 {α : Type} {l : List α} : l.drop 0 = l := rfl
theorem Zl45 {α β : Type} {f : α → β} {a : α} : (some a).map f = some (f a) := rfl
theorem Zl46 {α β : Type} {f : α → β} : (none : Option α).map f = none := rfl
theorem Zl47 {α : Type} {a : α} {l m : List α} : (a :: l) ++ m = a :: (l ++ m) := rfl
theorem Zl48 {α : Type} {l : List α} : [] ++ l = l := rfl
theorem Zl49 {α : Type} {a : α} {l : List α} : (a :: l).isEmpty = false := rfl
theorem Zl50 {α : Type} : ([] : List α).isEmpty = true := rfl
def ZZ := (And.intro (And.intro (And.intro (And.intro (And.intro (And.intro (And.intro @awp_skip @awp_exit) (And.intro @awp_ret (And.intro @awp_seq @awp_block))) (And.intro (And.intro @awp_reg (And.intro @awp_drg @awp_loop)) (And.intro @awp_cond (And.intro @awp_cut @thenC_n)))) (And.intro (And.intro (And.intro @thenC_r @thenC_e) (And.intro @blockQ_n (And.intro @blockQ_r @blockQ_e))) (And.intro (And.intro @roundQ_n (And.intro @roundQ_r @roundQ_e)) (And.intro @midQ_n (And.intro @midQ_r @midQ_e))))) (And.intro (And.intro (And.intro (And.intro @retQ_r @retQ_n) (And.intro @retF_r (And.intro @retF_n @RetK_some))) (And.intro (And.intro @mkRes1 (And.intro @mkRes2 @mkRes3)) (And.intro @BrC_true (And.intro @BrC_false @OpsK_some)))) (And.intro (And.intro (And.intro @GdK_some @GdK_none) (And.intro @StepK_some (And.intro @ops_nil @o_mov))) (And.intro (And.intro @o_pick (And.intro @o_bin @o_bnb)) (And.intro @o_eqa (And.intro @o_not @o_neg)))))) (And.intro (And.intro (And.intro (And.intro (And.intro @o_len @o_sln) (And.intro @o_mx (And.intro @o_mn @o_idx))) (And.intro (And.intro @o_ssl (And.intro @o_vsl @o_ixa)) (And.intro @o_fla (And.intro @o_fld @o_ld)))) (And.intro (And.intro (And.intro @o_ldl @o_ext) (And.intro @o_bld (And.intro @o_cvi @o_cvs))) (And.intro (And.intro @o_b2s (And.intro @o_bsl @o_nck)) (And.intro @o_mkf (And.intro @o_cap0 @o_vsn))))) (And.intro (And.intro (And.intro (And.intro @o_mpl @o_mpn) (And.intro @o_nilr (And.intro @o_alc @o_box))) (And.intro (And.intro @o_st (And.intro @o_app @o_bsr)) (And.intro @o_s2b (And.intro @o_mks @o_apz)))) (And.intro (And.intro (And.intro @o_trn @o_mkm) (And.intro @o_mpu (And.intro @g_mov @g_pick))) (And.intro (And.intro @g_bin (And.intro @g_bnb @g_eqa)) (And.intro @g_not (And.intro @g_neg @g_len))))))) (And.intro (And.intro (And.intro (And.intro (And.intro (And.intro @g_sln @g_mx) (And.intro @g_mn (And.intro @g_idx @g_ssl))) (And.intro (And.intro @g_vsl (And.intro @g_ixa @g_fla)) (And.intro @g_fld (And.intro @g_ld @g_ldl)))) (And.intro (And.intro (And.intro @g_ext @g_bld) (And.intro @g_cvi (And.intro @g_cvs @g_b2s))) (And.intro (And.intro @g_bsl (And.intro @g_nck @g_mkf)) (And.intro @g_cap0 (And.intro @g_vsn @g_mpl))))) (And.intro (And.intro (And.intro (And.intro @g_mpn @ops_call) (And.intro @ops_dcall (And.intro @ops_pcall @ops_pcallg))) (And.intro (And.intro @ops_callg (And.intro @ops_callv @FnK_some)) (And.intro @ops_fz (And.intro @FzK_some @FzK_none)))) (And.intro (And.intro (And.intro @Zl13 @Zl28) (And.intro @Zl29 (And.intro @Zl30 @Zl31))) (And.intro (And.intro @Zl32 (And.intro @Zl33 @Zl34)) (And.intro @Zl35 (And.intro @Zl36 @Zl37)))))) (And.intro (And.intro (And.intro (And.intro (And.intro @Zl38 @Zl39) (And.intro @Zl40 (And.intro @Zl41 @Zl42))) (And.intro (And.intro @Zl43 (And.intro @Zl44 @Zl0)) (And.intro @Zl1 (And.intro @Zl45 @Zl46)))) (And.intro (And.intro (And.intro @Zl3 @Zl4) (And.intro @Zl5 (And.intro @Zl6 @Zl7))) (And.intro (And.intro @Zl8 (And.intro @Zl9 @Zl10)) (And.intro @Zl11 (And.intro @Zl12 @Zl26))))) (And.intro (And.intro (And.intro (And.intro @Zl27 @Zl14) (And.intro @Zl15 (And.intro @Zl16 @Zl17))) (And.intro (And.intro @Zl18 (And.intro @Zl2 @Zl48)) (And.intro @Zl47 (And.intro @Zl19 @Zl20)))) (And.intro (And.intro (And.intro @bool_beq_true @bool_beq_false) (And.intro @map_kill_p (And.intro @map_thaw_p @Zl21))) (And.intro (And.intro @Zl49 (And.intro @Zl50 @Zl22)) (And.intro @Zl23 (And.intro @Zl24 @Zl25))))))))

/- paperchase/chasemake.Below -/
def ir_chasemake_Below : IC :=
  (.seq (.reg [⟨some 4, .mov (.c (.int .i64 0)), none⟩])
    (.seq (.seq (.reg [⟨some 5, .mov (.t 1), none⟩,
      ⟨some 6, .bin .lss (.t 5) (.c (.int .i64 1)), none⟩])
    (.cond (.t 6) (.seq (.reg [⟨some 4, .mov (.c (.int .i64 0)), none⟩])
    .ret) .skip))
    (.seq (.reg [⟨some 7, .mov (.t 0), none⟩,
      ⟨some 8, .mov (.t 1), none⟩,
      ⟨some 9, .bin .rem (.t 7) (.t 8), none⟩,
      ⟨some 0, .mov (.t 9), none⟩])
    (.seq (.seq (.reg [⟨some 10, .mov (.t 0), none⟩,
      ⟨some 11, .bin .lss (.t 10) (.c (.int .i64 0)), none⟩])
    (.cond (.t 11) (.reg [⟨some 12, .mov (.t 0), none⟩,
      ⟨some 13, .mov (.t 1), none⟩,
      ⟨some 14, .bin .add (.t 12) (.t 13), none⟩,
      ⟨some 0, .mov (.t 14), none⟩]) .skip))
    (.cut (.seq (.reg [⟨some 15, .mov (.t 0), none⟩,
      ⟨some 4, .mov (.t 15), none⟩])
    .ret))))))
def rs_chasemake_Below : List IRes := [.t 4]
theorem ck_chasemake_Below : chkF Try.prog Try.f53 ir_chasemake_Below rs_chasemake_Below 16 = true := by kernel_rfl
/- (*paperchase/chasemake.Stream).Next -/
def ir_chasemake_Stream_Next : IC :=
  (.seq (.reg [⟨some 4, .mov (.c (.int .i64 0)), none⟩])
    (.seq (.reg [⟨some 7, .mov (.t 0), none⟩,
      ⟨some 8, .nck (.t 7), none⟩,
      ⟨some 9, .fla 1 (.t 8), none⟩,
      ⟨some 10, .ld 1 false (.t 9), none⟩,
      ⟨some 11, .bin .add (.t 10) (.c (.int .i64 1)), none⟩,
      ⟨some 12, .nck (.t 7), none⟩,
      ⟨some 13, .fla 1 (.t 12), none⟩,
      ⟨none, .st 1 (.t 13) (.t 11), none⟩])
    (.seq (.seq (.reg [⟨some 14, .mov (.t 0), none⟩,
      ⟨some 15, .nck (.t 14), none⟩,
      ⟨some 16, .fla 0 (.t 15), none⟩,
      ⟨some 17, .ld 1 false (.t 16), none⟩,
      ⟨some 18, .len (.t 17), none⟩,
      ⟨some 19, .bin .eql (.t 18) (.c (.int .i64 0)), none⟩])
    (.cond (.t 19) (.seq (.reg [⟨some 20, .mov (.t 0), none⟩,
      ⟨some 21, .nck (.t 20), none⟩,
      ⟨some 22, .fla 1 (.t 21), none⟩,
      ⟨some 23, .ld 1 false (.t 22), none⟩,
      ⟨some 24, .bin .mul (.t 23) (.c (.int .i64 7919)), none⟩,
      ⟨some 25, .mov (.t 1), none⟩,
      ⟨some 26, .call 53 [.t 24, .t 25], none⟩,
      ⟨some 4, .mov (.t 26), none⟩])
    .ret) .skip))
    (.seq (.drg [⟨some 27, .mov (.t 0), none⟩,
      ⟨some 28, .nck (.t 27), none⟩,
      ⟨some 29, .fla 1 (.t 28), none⟩,
      ⟨some 30, .ld 1 false (.t 29), none⟩,
      ⟨some 31, .bin .sub (.t 30) (.c (.int .i64 1)), none⟩,
      ⟨some 32, .mov (.t 0), none⟩,
      ⟨some 33, .nck (.t 32), none⟩,
      ⟨some 34, .fla 0 (.t 33), none⟩,
      ⟨some 35, .ld 1 false (.t 34), none⟩,
      ⟨some 36, .len (.t 35), none⟩,
      ⟨some 37, .bin .rem (.t 31) (.t 36), none⟩,
      ⟨some 5, .mov (.t 37), none⟩])
    (.seq (.drg [⟨some 38, .mov (.t 0), none⟩,
      ⟨some 39, .nck (.t 38), none⟩,
      ⟨some 40, .fla 1 (.t 39), none⟩,
      ⟨some 41, .ld 1 false (.t 40), none⟩,
      ⟨some 42, .bin .sub (.t 41) (.c (.int .i64 1)), none⟩,
      ⟨some 43, .mov (.t 0), none⟩,
      ⟨some 44, .nck (.t 43), none⟩,
      ⟨some 45, .fla 0 (.t 44), none⟩,
      ⟨some 46, .ld 1 false (.t 45), none⟩,
      ⟨some 47, .len (.t 46), none⟩,
      ⟨some 48, .bin .quo (.t 42) (.t 47), none⟩,
      ⟨some 6, .mov (.t 48), none⟩])
    (.seq (.reg [⟨some 49, .mov (.t 0), none⟩,
      ⟨some 50, .nck (.t 49), none⟩,
      ⟨some 51, .fla 0 (.t 50), none⟩,
      ⟨some 52, .ld 1 false (.t 51), none⟩,
      ⟨some 53, .mov (.t 5), none⟩,
      ⟨some 54, .ixa 1 (.t 52) (.t 53), none⟩,
      ⟨some 55, .ld 1 false (.t 54), none⟩,
      ⟨some 56, .call 53 [.t 55, .c (.int .i64 1073741824)], none⟩,
      ⟨some 57, .mov (.t 6), none⟩,
      ⟨some 58, .mov (.t 5), none⟩,
      ⟨some 59, .bin .add (.c (.int .i64 7919)) (.t 58), none⟩,
      ⟨some 60, .bin .mul (.t 57) (.t 59), none⟩,
      ⟨some 61, .bin .add (.t 56) (.t 60), none⟩,
      ⟨some 62, .mov (.t 1), none⟩,
      ⟨some 63, .call 53 [.t 61, .t 62], none⟩,
      ⟨some 4, .mov (.t 63), none⟩])
    .ret))))))
def rs_chasemake_Stream_Next : List IRes := [.t 4]
theorem ck_chasemake_Stream_Next : chkF Try.prog Try.f24 ir_chasemake_Stream_Next rs_chasemake_Stream_Next 64 = true := by kernel_rfl
/- (*paperchase/chasemake.Stream).Flip -/
def ir_chasemake_Stream_Flip : IC :=
  (.seq (.reg [⟨some 4, .mov (.c (.bool false)), none⟩])
    (.seq (.reg [⟨some 5, .mov (.t 0), none⟩,
      ⟨some 6, .mov (.t 1), none⟩,
      ⟨some 7, .call 24 [.t 5, .t 6], none⟩,
      ⟨some 8, .bin .eql (.t 7) (.c (.int .i64 0)), none⟩,
      ⟨some 4, .mov (.t 8), none⟩])
    .ret))
def rs_chasemake_Stream_Flip : List IRes := [.t 4]
theorem ck_chasemake_Stream_Flip : chkF Try.prog Try.f38 ir_chasemake_Stream_Flip rs_chasemake_Stream_Flip 9 = true := by kernel_rfl
/- (*paperchase/chasemake.Stream).Range -/
def ir_chasemake_Stream_Range : IC :=
  (.seq (.reg [⟨some 6, .mov (.c (.int .i64 0)), none⟩])
    (.seq (.seq (.reg [⟨some 7, .mov (.t 2), none⟩,
      ⟨some 8, .mov (.t 1), none⟩,
      ⟨some 9, .bin .lss (.t 7) (.t 8), none⟩])
    (.cond (.t 9) (.seq (.reg [⟨some 10, .mov (.t 1), none⟩,
      ⟨some 6, .mov (.t 10), none⟩])
    .ret) .skip))
    (.seq (.reg [⟨some 11, .mov (.t 1), none⟩,
      ⟨some 12, .mov (.t 0), none⟩,
      ⟨some 13, .mov (.t 2), none⟩,
      ⟨some 14, .mov (.t 1), none⟩,
      ⟨some 15, .bin .sub (.t 13) (.t 14), none⟩,
      ⟨some 16, .bin .add (.t 15) (.c (.int .i64 1)), none⟩,
      ⟨some 17, .call 24 [.t 12, .t 16], none⟩,
      ⟨some 18, .bin .add (.t 11) (.t 17), none⟩,
      ⟨some 6, .mov (.t 18), none⟩])
    .ret)))
def rs_chasemake_Stream_Range : List IRes := [.t 6]
theorem ck_chasemake_Stream_Range : chkF Try.prog Try.f25 ir_chasemake_Stream_Range rs_chasemake_Stream_Range 19 = true := by kernel_rfl
/- (*paperchase/chasemake.Stream).Pick -/
def ir_chasemake_Stream_Pick : IC :=
  (.seq (.reg [⟨some 4, .mov (.c (.int .i64 0)), none⟩])
    (.seq (.reg [⟨some 5, .mov (.t 1), none⟩,
      ⟨some 6, .mov (.t 0), none⟩,
      ⟨some 7, .mov (.t 1), none⟩,
      ⟨some 8, .len (.t 7), none⟩,
      ⟨some 9, .call 24 [.t 6, .t 8], none⟩,
      ⟨some 10, .ixa 1 (.t 5) (.t 9), none⟩,
      ⟨some 11, .ld 1 false (.t 10), none⟩,
      ⟨some 4, .mov (.t 11), none⟩])
    .ret))
def rs_chasemake_Stream_Pick : List IRes := [.t 4]
theorem ck_chasemake_Stream_Pick : chkF Try.prog Try.f7 ir_chasemake_Stream_Pick rs_chasemake_Stream_Pick 12 = true := by kernel_rfl
/- (*paperchase/chasemake.Stream).h06one -/
def ir_chasemake_Stream_h06one : IC :=
  (.seq (.reg [⟨some 4, .mov (.c (.str [])), none⟩])
    (.seq (.reg [⟨some 5, .mov (.t 1), none⟩,
      ⟨some 6, .mov (.t 0), none⟩,
      ⟨some 7, .mov (.t 1), none⟩,
      ⟨some 8, .len (.t 7), none⟩,
      ⟨some 9, .call 24 [.t 6, .t 8], none⟩,
      ⟨some 10, .ixa 1 (.t 5) (.t 9), none⟩,
      ⟨some 11, .ld 1 false (.t 10), none⟩,
      ⟨some 4, .mov (.t 11), none⟩])
    .ret))
def rs_chasemake_Stream_h06one : List IRes := [.t 4]
theorem ck_chasemake_Stream_h06one : chkF Try.prog Try.f29 ir_chasemake_Stream_h06one rs_chasemake_Stream_h06one 12 = true := by kernel_rfl


section
variable {E : Envt}

/-- chasemake.Below. -/
def belowZ (x n : Int) : Int := if n < 1 then 0 else x % n
theorem below_loZ (x n : Int) : 0 ≤ belowZ x n := by
  unfold belowZ
  split
  · omega
  · exact Int.emod_nonneg x (by omega)
theorem below_hiZ (x n : Int) (h : 1 ≤ n) : belowZ x n < n := by
  unfold belowZ
  rw [if_neg (by omega)]
  exact Int.emod_lt_of_pos x (by omega)
theorem tmod_casesZ (x n : Int) (hn : 1 ≤ n) : x % n = if x.tmod n < 0 then x.tmod n + n else x.tmod n := by
  have h2 := Int.emod_nonneg x (show n ≠ 0 by omega)
  have h3 := Int.emod_lt_of_pos x (show 0 < n by omega)
  rw [Int.tmod_eq_emod]
  split <;> split at * <;> omega
theorem tmod_bdZ (x n : Int) (hn : 1 ≤ n) : -n < x.tmod n ∧ x.tmod n < n := by
  have h2 := Int.emod_nonneg x (show n ≠ 0 by omega)
  have h3 := Int.emod_lt_of_pos x (show 0 < n by omega)
  rw [Int.tmod_eq_emod]
  split <;> omega
theorem Below_ok (x n : Int) (h2 : n ≤ 9223372036854775807) : PCall Try.prog E 53 [int x, int n] (· = int (belowZ x n)) := by
  refine pcallF mixed Try.func53 ck_chasemake_Below ?_
  simp only [a0, l0, OS.ao, List.map_cons, List.map_nil, List.length_cons, List.length_nil, List.cons_append, List.nil_append, Nat.reduceSub, Nat.reduceAdd, List.replicate_succ, List.replicate_zero, ir_chasemake_Below, rs_chasemake_Below, ZZ, Za, Zb, Zc, Zd, Ze, Zf, Zg, Zh, rd, AV.un, AV.unA, AV.ad, Zi, Zj, Zk, Zl, Zm, Zn, Zo, Zp, Zq, Zr, Zs, Zt, Zu, Zv, Zw, Zx, Zy, Zz, Zaa, Zab, Zac, Zad, wk1, wk, Zae, Zaf, Zag, Zah, Zai, Zaj, Zak, Zal, AV.kill, AO.kill, AV.thaw, AO.thaw, Zam, Zan, Zao, Zap, Zaq, Zar, Zas, Zat, Zau, ite_true, ite_false, reduceCtorEq, Nat.reduceAdd, Nat.reduceMul, Nat.reduceLeDiff, Nat.reduceLT, Nat.reduceEqDiff, forall_const]
  refine br ?_ ?_
  · intro h
    simp only [ZZ, Za, Zb, Zc, Zd, Ze, Zf, Zg, Zh, rd, AV.un, AV.unA, AV.ad, Zi, Zj, Zk, Zl, Zm, Zn, Zo, Zp, Zq, Zr, Zs, Zt, Zu, Zv, Zw, Zx, Zy, Zz, Zaa, Zab, Zac, Zad, wk1, wk, Zae, Zaf, Zag, Zah, Zai, Zaj, Zak, Zal, AV.kill, AO.kill, AV.thaw, AO.thaw, Zam, Zan, Zao, Zap, Zaq, Zar, Zas, Zat, Zau, ite_true, ite_false, reduceCtorEq, Nat.reduceAdd, Nat.reduceMul, Nat.reduceLeDiff, Nat.reduceLT, Nat.reduceEqDiff, forall_const]
    have : n < 1 := of_decide_eq_true h
    simp [belowZ, this]
  · intro h
    have hn : ¬ n < 1 := of_decide_eq_false h
    have hb := tmod_bdZ x n (by omega)
    have hc := tmod_casesZ x n (by omega)
    simp only [ZZ, Za, Zb, Zc, Zd, Ze, Zf, Zg, Zh, rd, AV.un, AV.unA, AV.ad, Zi, Zj, Zk, Zl, Zm, Zn, Zo, Zp, Zq, Zr, Zs, Zt, Zu, Zv, Zw, Zx, Zy, Zz, Zaa, Zab, Zac, Zad, wk1, wk, Zae, Zaf, Zag, Zah, Zai, Zaj, Zak, Zal, AV.kill, AO.kill, AV.thaw, AO.thaw, Zam, Zan, Zao, Zap, Zaq, Zar, Zas, Zat, Zau, ite_true, ite_false, reduceCtorEq, Nat.reduceAdd, Nat.reduceMul, Nat.reduceLeDiff, Nat.reduceLT, Nat.reduceEqDiff, forall_const]
    refine ⟨by omega, ?_⟩
    refine br_join (fun fr L => ∃ y, y = x % n ∧ fr = [.p (int y), .any, .any, .any, .any, .any, .any, .any, .any, .any, .any, .any, .any, .any, .any, .any] ∧ L = []) ?_ ?_ ?_
    · intro h1
      have h1 := of_decide_eq_true h1
      simp only [ZZ, Za, Zb, Zc, Zd, Ze, Zf, Zg, Zh, rd, AV.un, AV.unA, AV.ad, Zi, Zj, Zk, Zl, Zm, Zn, Zo, Zp, Zq, Zr, Zs, Zt, Zu, Zv, Zw, Zx, Zy, Zz, Zaa, Zab, Zac, Zad, wk1, wk, Zae, Zaf, Zag, Zah, Zai, Zaj, Zak, Zal, AV.kill, AO.kill, AV.thaw, AO.thaw, Zam, Zan, Zao, Zap, Zaq, Zar, Zas, Zat, Zau, ite_true, ite_false, reduceCtorEq, Nat.reduceAdd, Nat.reduceMul, Nat.reduceLeDiff, Nat.reduceLT, Nat.reduceEqDiff, forall_const]
      refine ⟨i64_of (by omega) (by omega), to_mid [.p (int (x.tmod n + n)), .any, .any, .any, .any, .any, .any, .any, .any, .any, .any, .any, .any, .any, .any, .any] [] ?_ ?_ ⟨_, by rw [hc, if_pos h1], rfl, rfl⟩⟩
      · (simp only [ZZ, Za, Zb, Zc, Zd, Ze, Zf, Zg, Zh, rd, AV.un, AV.unA, AV.ad, Zi, Zj, Zk, Zl, Zm, Zn, Zo, Zp, Zq, Zr, Zs, Zt, Zu, Zv, Zw, Zx, Zy, Zz, Zaa, Zab, Zac, Zad, wk1, wk, Zae, Zaf, Zag, Zah, Zai, Zaj, Zak, Zal, AV.kill, AO.kill, AV.thaw, AO.thaw, Zam, Zan, Zao, Zap, Zaq, Zar, Zas, Zat, Zau, ite_true, ite_false, reduceCtorEq, Nat.reduceAdd, Nat.reduceMul, Nat.reduceLeDiff, Nat.reduceLT, Nat.reduceEqDiff, forall_const]; try trivial)
      · simp only [ZZ, Za, Zb, Zc, Zd, Ze, Zf, Zg, Zh, rd, AV.un, AV.unA, AV.ad, Zi, Zj, Zk, Zl, Zm, Zn, Zo, Zp, Zq, Zr, Zs, Zt, Zu, Zv, Zw, Zx, Zy, Zz, Zaa, Zab, Zac, Zad, wk1, wk, Zae, Zaf, Zag, Zah, Zai, Zaj, Zak, Zal, AV.kill, AO.kill, AV.thaw, AO.thaw, Zam, Zan, Zao, Zap, Zaq, Zar, Zas, Zat, Zau, ite_true, ite_false, reduceCtorEq, Nat.reduceAdd, Nat.reduceMul, Nat.reduceLeDiff, Nat.reduceLT, Nat.reduceEqDiff, forall_const]
    · intro h1
      have h1 := of_decide_eq_false h1
      simp only [ZZ, Za, Zb, Zc, Zd, Ze, Zf, Zg, Zh, rd, AV.un, AV.unA, AV.ad, Zi, Zj, Zk, Zl, Zm, Zn, Zo, Zp, Zq, Zr, Zs, Zt, Zu, Zv, Zw, Zx, Zy, Zz, Zaa, Zab, Zac, Zad, wk1, wk, Zae, Zaf, Zag, Zah, Zai, Zaj, Zak, Zal, AV.kill, AO.kill, AV.thaw, AO.thaw, Zam, Zan, Zao, Zap, Zaq, Zar, Zas, Zat, Zau, ite_true, ite_false, reduceCtorEq, Nat.reduceAdd, Nat.reduceMul, Nat.reduceLeDiff, Nat.reduceLT, Nat.reduceEqDiff, forall_const]
      refine to_mid [.p (int (x.tmod n)), .any, .any, .any, .any, .any, .any, .any, .any, .any, .any, .any, .any, .any, .any, .any] [] ?_ ?_ ⟨_, by rw [hc, if_neg h1], rfl, rfl⟩
      · (simp only [ZZ, Za, Zb, Zc, Zd, Ze, Zf, Zg, Zh, rd, AV.un, AV.unA, AV.ad, Zi, Zj, Zk, Zl, Zm, Zn, Zo, Zp, Zq, Zr, Zs, Zt, Zu, Zv, Zw, Zx, Zy, Zz, Zaa, Zab, Zac, Zad, wk1, wk, Zae, Zaf, Zag, Zah, Zai, Zaj, Zak, Zal, AV.kill, AO.kill, AV.thaw, AO.thaw, Zam, Zan, Zao, Zap, Zaq, Zar, Zas, Zat, Zau, ite_true, ite_false, reduceCtorEq, Nat.reduceAdd, Nat.reduceMul, Nat.reduceLeDiff, Nat.reduceLT, Nat.reduceEqDiff, forall_const]; try trivial)
      · simp only [ZZ, Za, Zb, Zc, Zd, Ze, Zf, Zg, Zh, rd, AV.un, AV.unA, AV.ad, Zi, Zj, Zk, Zl, Zm, Zn, Zo, Zp, Zq, Zr, Zs, Zt, Zu, Zv, Zw, Zx, Zy, Zz, Zaa, Zab, Zac, Zad, wk1, wk, Zae, Zaf, Zag, Zah, Zai, Zaj, Zak, Zal, AV.kill, AO.kill, AV.thaw, AO.thaw, Zam, Zan, Zao, Zap, Zaq, Zar, Zas, Zat, Zau, ite_true, ite_false, reduceCtorEq, Nat.reduceAdd, Nat.reduceMul, Nat.reduceLeDiff, Nat.reduceLT, Nat.reduceEqDiff, forall_const]
    · rintro fr L ⟨y, rfl, rfl, rfl⟩
      simp only [ZZ, Za, Zb, Zc, Zd, Ze, Zf, Zg, Zh, rd, AV.un, AV.unA, AV.ad, Zi, Zj, Zk, Zl, Zm, Zn, Zo, Zp, Zq, Zr, Zs, Zt, Zu, Zv, Zw, Zx, Zy, Zz, Zaa, Zab, Zac, Zad, wk1, wk, Zae, Zaf, Zag, Zah, Zai, Zaj, Zak, Zal, AV.kill, AO.kill, AV.thaw, AO.thaw, Zam, Zan, Zao, Zap, Zaq, Zar, Zas, Zat, Zau, ite_true, ite_false, reduceCtorEq, Nat.reduceAdd, Nat.reduceMul, Nat.reduceLeDiff, Nat.reduceLT, Nat.reduceEqDiff, forall_const]
      simp [belowZ, hn]

/-- The stream's cells. -/
def stm (l : List Int) (k : Nat) : List PV := [ints l, int k]
abbrev T : TypeId := 25
theorem Next_ok (l : List Int) (k : Nat) (n : Int) (hk : k ≤ 1000000) (hl : l.length ≤ 9223372036854775807) (h2 : n ≤ 9223372036854775807) :
    SCall Try.prog E 24 T (stm l k) [int n] (fun x cs' => ∃ y, x = int (belowZ y n) ∧ cs' = stm l (k + 1)) := by
  unfold SCall
  refine gcallP mixed Try.func24 ck_chasemake_Stream_Next ?_
  simp only [a0, l0, OS.ao, List.map_cons, List.map_nil, List.length_cons, List.length_nil, List.cons_append, List.nil_append, Nat.reduceSub, Nat.reduceAdd, List.replicate_succ, List.replicate_zero, stm, ir_chasemake_Stream_Next, rs_chasemake_Stream_Next, ZZ, Za, Zb, Zc, Zd, Ze, Zf, Zg, Zh, rd, AV.un, AV.unA, AV.ad, Zi, Zj, Zk, Zl, Zm, Zn, Zo, Zp, Zq, Zr, Zs, Zt, Zu, Zv, Zw, Zx, Zy, Zz, Zaa, Zab, Zac, Zad, wk1, wk, Zae, Zaf, Zag, Zah, Zai, Zaj, Zak, Zal, AV.kill, AO.kill, AV.thaw, AO.thaw, Zam, Zan, Zao, Zap, Zaq, Zar, Zas, Zat, Zau, ite_true, ite_false, reduceCtorEq, Nat.reduceAdd, Nat.reduceMul, Nat.reduceLeDiff, Nat.reduceLT, Nat.reduceEqDiff, forall_const]
  refine ⟨i64_of (by omega) (by omega), ?_⟩
  simp only [ints, ZZ, Za, Zb, Zc, Zd, Ze, Zf, Zg, Zh, rd, AV.un, AV.unA, AV.ad, Zi, Zj, Zk, Zl, Zm, Zn, Zo, Zp, Zq, Zr, Zs, Zt, Zu, Zv, Zw, Zx, Zy, Zz, Zaa, Zab, Zac, Zad, wk1, wk, Zae, Zaf, Zag, Zah, Zai, Zaj, Zak, Zal, AV.kill, AO.kill, AV.thaw, AO.thaw, Zam, Zan, Zao, Zap, Zaq, Zar, Zas, Zat, Zau, ite_true, ite_false, reduceCtorEq, Nat.reduceAdd, Nat.reduceMul, Nat.reduceLeDiff, Nat.reduceLT, Nat.reduceEqDiff, forall_const]
  generalize hes : l.map (fun x => [PV.int IntKind.i64 x]) = es
  have hln : es.length = l.length := by rw [← hes]; simp
  have hc : [PV.sl 1 es, int ((k : Int) + 1)] = [PV.sl 1 es, int ((k + 1 : Nat) : Int)] := by simp
  refine br ?_ ?_
  · intro h
    simp only [ZZ, Za, Zb, Zc, Zd, Ze, Zf, Zg, Zh, rd, AV.un, AV.unA, AV.ad, Zi, Zj, Zk, Zl, Zm, Zn, Zo, Zp, Zq, Zr, Zs, Zt, Zu, Zv, Zw, Zx, Zy, Zz, Zaa, Zab, Zac, Zad, wk1, wk, Zae, Zaf, Zag, Zah, Zai, Zaj, Zak, Zal, AV.kill, AO.kill, AV.thaw, AO.thaw, Zam, Zan, Zao, Zap, Zaq, Zar, Zas, Zat, Zau, ite_true, ite_false, reduceCtorEq, Nat.reduceAdd, Nat.reduceMul, Nat.reduceLeDiff, Nat.reduceLT, Nat.reduceEqDiff, forall_const]
    refine ⟨i64_of (by omega) (by omega), ?_⟩
    refine use1 (Below_ok _ _ h2) rfl (.inl rfl) ?_
    simp only [ZZ, Za, Zb, Zc, Zd, Ze, Zf, Zg, Zh, rd, AV.un, AV.unA, AV.ad, Zi, Zj, Zk, Zl, Zm, Zn, Zo, Zp, Zq, Zr, Zs, Zt, Zu, Zv, Zw, Zx, Zy, Zz, Zaa, Zab, Zac, Zad, wk1, wk, Zae, Zaf, Zag, Zah, Zai, Zaj, Zak, Zal, AV.kill, AO.kill, AV.thaw, AO.thaw, Zam, Zan, Zao, Zap, Zaq, Zar, Zas, Zat, Zau, ite_true, ite_false, reduceCtorEq, Nat.reduceAdd, Nat.reduceMul, Nat.reduceLeDiff, Nat.reduceLT, Nat.reduceEqDiff, forall_const]
    exact fin_S [PV.sl 1 es, int ((k : Int) + 1)] rfl ⟨_, rfl, hc⟩
  · intro h
    have hne : ¬ ((es.length : Int) = 0) := of_decide_eq_false h
    simp only [ZZ, Za, Zb, Zc, Zd, Ze, Zf, Zg, Zh, rd, AV.un, AV.unA, AV.ad, Zi, Zj, Zk, Zl, Zm, Zn, Zo, Zp, Zq, Zr, Zs, Zt, Zu, Zv, Zw, Zx, Zy, Zz, Zaa, Zab, Zac, Zad, wk1, wk, Zae, Zaf, Zag, Zah, Zai, Zaj, Zak, Zal, AV.kill, AO.kill, AV.thaw, AO.thaw, Zam, Zan, Zao, Zap, Zaq, Zar, Zas, Zat, Zau, ite_true, ite_false, reduceCtorEq, Nat.reduceAdd, Nat.reduceMul, Nat.reduceLeDiff, Nat.reduceLT, Nat.reduceEqDiff, forall_const]
    refine drg0 ?_
    simp only [ZZ, Za, Zb, Zc, Zd, Ze, Zf, Zg, Zh, rd, AV.un, AV.unA, AV.ad, Zi, Zj, Zk, Zl, Zm, Zn, Zo, Zp, Zq, Zr, Zs, Zt, Zu, Zv, Zw, Zx, Zy, Zz, Zaa, Zab, Zac, Zad, wk1, wk, Zae, Zaf, Zag, Zah, Zai, Zaj, Zak, Zal, AV.kill, AO.kill, AV.thaw, AO.thaw, Zam, Zan, Zao, Zap, Zaq, Zar, Zas, Zat, Zau, ite_true, ite_false, reduceCtorEq, Nat.reduceAdd, Nat.reduceMul, Nat.reduceLeDiff, Nat.reduceLT, Nat.reduceEqDiff, forall_const]
    refine ⟨i64_of (by omega) (by omega), ⟨by omega, ?_⟩⟩
    refine drg0 ?_
    have hkk : (k : Int) + 1 - 1 = k := by omega
    have hrem : (k : Int).tmod (es.length : Int) = ((k % es.length : Nat) : Int) := by rw [Int.tmod_eq_emod_of_nonneg (by omega)]; rfl
    have hquo : (k : Int).tdiv (es.length : Int) = ((k / es.length : Nat) : Int) := by rw [Int.tdiv_eq_ediv_of_nonneg (by omega)]; rfl
    have hq1 : k / es.length ≤ k := Nat.div_le_self _ _
    have hr1 : k % es.length ≤ k := Nat.mod_le _ _
    have hr2 : k % es.length < es.length := Nat.mod_lt _ (by omega)
    obtain ⟨x, hx⟩ : ∃ x, l[k % es.length]? = some x := ⟨_, List.getElem?_eq_getElem (by omega)⟩
    have hg : es.getD (k % es.length) [] = [PV.int .i64 x] := by rw [← hes]; exact getD_map (by rw [hes]; exact hx)
    simp only [ZZ, Za, Zb, Zc, Zd, Ze, Zf, Zg, Zh, rd, AV.un, AV.unA, AV.ad, Zi, Zj, Zk, Zl, Zm, Zn, Zo, Zp, Zq, Zr, Zs, Zt, Zu, Zv, Zw, Zx, Zy, Zz, Zaa, Zab, Zac, Zad, wk1, wk, Zae, Zaf, Zag, Zah, Zai, Zaj, Zak, Zal, AV.kill, AO.kill, AV.thaw, AO.thaw, Zam, Zan, Zao, Zap, Zaq, Zar, Zas, Zat, Zau, ite_true, ite_false, reduceCtorEq, Nat.reduceAdd, Nat.reduceMul, Nat.reduceLeDiff, Nat.reduceLT, Nat.reduceEqDiff, forall_const, hkk, hrem, hquo, hg]
    generalize k / es.length = q at *
    generalize k % es.length = r at *
    refine ⟨i64_of (by omega) (by omega), ⟨hne, i64_of (by omega) (by omega)⟩, ⟨by omega, by omega⟩, by omega, ?_⟩
    refine use1 (Below_ok _ _ (by decide)) rfl (.inl rfl) ?_
    have hb1 := below_loZ x 1073741824
    have hb2 := below_hiZ x 1073741824 (by omega)
    have hm : (q : Int) * (7919 + (r : Int)) ≤ 1000000 * 1007919 := Int.mul_le_mul (by omega) (by omega) (by omega) (by omega)
    have hm0 : 0 ≤ (q : Int) * (7919 + (r : Int)) := Int.mul_nonneg (by omega) (by omega)
    simp only [ZZ, Za, Zb, Zc, Zd, Ze, Zf, Zg, Zh, rd, AV.un, AV.unA, AV.ad, Zi, Zj, Zk, Zl, Zm, Zn, Zo, Zp, Zq, Zr, Zs, Zt, Zu, Zv, Zw, Zx, Zy, Zz, Zaa, Zab, Zac, Zad, wk1, wk, Zae, Zaf, Zag, Zah, Zai, Zaj, Zak, Zal, AV.kill, AO.kill, AV.thaw, AO.thaw, Zam, Zan, Zao, Zap, Zaq, Zar, Zas, Zat, Zau, ite_true, ite_false, reduceCtorEq, Nat.reduceAdd, Nat.reduceMul, Nat.reduceLeDiff, Nat.reduceLT, Nat.reduceEqDiff, forall_const]
    refine ⟨i64_of (by omega) (by omega), i64_of (by omega) (by omega), i64_of (by omega) (by omega), ?_⟩
    refine use1 (Below_ok _ _ h2) rfl (.inl rfl) ?_
    simp only [ZZ, Za, Zb, Zc, Zd, Ze, Zf, Zg, Zh, rd, AV.un, AV.unA, AV.ad, Zi, Zj, Zk, Zl, Zm, Zn, Zo, Zp, Zq, Zr, Zs, Zt, Zu, Zv, Zw, Zx, Zy, Zz, Zaa, Zab, Zac, Zad, wk1, wk, Zae, Zaf, Zag, Zah, Zai, Zaj, Zak, Zal, AV.kill, AO.kill, AV.thaw, AO.thaw, Zam, Zan, Zao, Zap, Zaq, Zar, Zas, Zat, Zau, ite_true, ite_false, reduceCtorEq, Nat.reduceAdd, Nat.reduceMul, Nat.reduceLeDiff, Nat.reduceLT, Nat.reduceEqDiff, forall_const]
    exact fin_S [PV.sl 1 es, int ((k : Int) + 1)] rfl ⟨_, rfl, hc⟩

theorem below_idxZ (x : Int) (n : Nat) (hn : 0 < n) : ∃ i : Nat, i < n ∧ belowZ x n = i := by
  have h0 := below_loZ x n
  have h1 := below_hiZ x n (by omega)
  exact ⟨(belowZ x n).toNat, by omega, by omega⟩

theorem Flip_ok (l : List Int) (k : Nat) (n : Int) (hk : k ≤ 1000000) (hl : l.length ≤ 9223372036854775807) (h2 : n ≤ 9223372036854775807) :
    SCall Try.prog E 38 T (stm l k) [int n] (fun x cs' => ∃ b, x = .bool b ∧ cs' = stm l (k + 1)) := by
  unfold SCall
  refine gcallP mixed Try.func38 ck_chasemake_Stream_Flip ?_
  simp only [a0, l0, OS.ao, List.map_cons, List.map_nil, List.length_cons, List.length_nil, List.cons_append, List.nil_append, Nat.reduceSub, Nat.reduceAdd, List.replicate_succ, List.replicate_zero, ir_chasemake_Stream_Flip, rs_chasemake_Stream_Flip, ZZ, Za, Zb, Zc, Zd, Ze, Zf, Zg, Zh, rd, AV.un, AV.unA, AV.ad, Zi, Zj, Zk, Zl, Zm, Zn, Zo, Zp, Zq, Zr, Zs, Zt, Zu, Zv, Zw, Zx, Zy, Zz, Zaa, Zab, Zac, Zad, wk1, wk, Zae, Zaf, Zag, Zah, Zai, Zaj, Zak, Zal, AV.kill, AO.kill, AV.thaw, AO.thaw, Zam, Zan, Zao, Zap, Zaq, Zar, Zas, Zat, Zau, ite_true, ite_false, reduceCtorEq, Nat.reduceAdd, Nat.reduceMul, Nat.reduceLeDiff, Nat.reduceLT, Nat.reduceEqDiff, forall_const]
  refine useS (Next_ok l k n hk hl h2) rfl rfl rfl (by simp only [ZZ, Za, Zb, Zc, Zd, Ze, Zf, Zg, Zh, rd, AV.un, AV.unA, AV.ad, Zi, Zj, Zk, Zl, Zm, Zn, Zo, Zp, Zq, Zr, Zs, Zt, Zu, Zv, Zw, Zx, Zy, Zz, Zaa, Zab, Zac, Zad, wk1, wk, Zae, Zaf, Zag, Zah, Zai, Zaj, Zak, Zal, AV.kill, AO.kill, AV.thaw, AO.thaw, Zam, Zan, Zao, Zap, Zaq, Zar, Zas, Zat, Zau, ite_true, ite_false, reduceCtorEq, Nat.reduceAdd, Nat.reduceMul, Nat.reduceLeDiff, Nat.reduceLT, Nat.reduceEqDiff, forall_const]) ?_
  rintro x cs' ⟨y, rfl, rfl⟩
  simp only [ZZ, Za, Zb, Zc, Zd, Ze, Zf, Zg, Zh, rd, AV.un, AV.unA, AV.ad, Zi, Zj, Zk, Zl, Zm, Zn, Zo, Zp, Zq, Zr, Zs, Zt, Zu, Zv, Zw, Zx, Zy, Zz, Zaa, Zab, Zac, Zad, wk1, wk, Zae, Zaf, Zag, Zah, Zai, Zaj, Zak, Zal, AV.kill, AO.kill, AV.thaw, AO.thaw, Zam, Zan, Zao, Zap, Zaq, Zar, Zas, Zat, Zau, ite_true, ite_false, reduceCtorEq, Nat.reduceAdd, Nat.reduceMul, Nat.reduceLeDiff, Nat.reduceLT, Nat.reduceEqDiff, forall_const]
  exact fin_S (stm l (k + 1)) rfl ⟨_, rfl, rfl⟩

theorem Range_ok (l : List Int) (k : Nat) (lo hi : Int) (hk : k ≤ 1000000) (hl : l.length ≤ 9223372036854775807) (h1 : -1000000000 ≤ lo) (h2 : lo ≤ hi) (h3 : hi ≤ 1000000000) :
    SCall Try.prog E 25 T (stm l k) [int lo, int hi] (fun x cs' => ∃ y, x = int y ∧ lo ≤ y ∧ y ≤ hi ∧ cs' = stm l (k + 1)) := by
  unfold SCall
  refine gcallP mixed Try.func25 ck_chasemake_Stream_Range ?_
  simp only [a0, l0, OS.ao, List.map_cons, List.map_nil, List.length_cons, List.length_nil, List.cons_append, List.nil_append, Nat.reduceSub, Nat.reduceAdd, List.replicate_succ, List.replicate_zero, ir_chasemake_Stream_Range, rs_chasemake_Stream_Range, ZZ, Za, Zb, Zc, Zd, Ze, Zf, Zg, Zh, rd, AV.un, AV.unA, AV.ad, Zi, Zj, Zk, Zl, Zm, Zn, Zo, Zp, Zq, Zr, Zs, Zt, Zu, Zv, Zw, Zx, Zy, Zz, Zaa, Zab, Zac, Zad, wk1, wk, Zae, Zaf, Zag, Zah, Zai, Zaj, Zak, Zal, AV.kill, AO.kill, AV.thaw, AO.thaw, Zam, Zan, Zao, Zap, Zaq, Zar, Zas, Zat, Zau, ite_true, ite_false, reduceCtorEq, Nat.reduceAdd, Nat.reduceMul, Nat.reduceLeDiff, Nat.reduceLT, Nat.reduceEqDiff, forall_const]
  refine br (fun h => absurd (of_decide_eq_true h) (by omega)) ?_
  intro _
  simp only [ZZ, Za, Zb, Zc, Zd, Ze, Zf, Zg, Zh, rd, AV.un, AV.unA, AV.ad, Zi, Zj, Zk, Zl, Zm, Zn, Zo, Zp, Zq, Zr, Zs, Zt, Zu, Zv, Zw, Zx, Zy, Zz, Zaa, Zab, Zac, Zad, wk1, wk, Zae, Zaf, Zag, Zah, Zai, Zaj, Zak, Zal, AV.kill, AO.kill, AV.thaw, AO.thaw, Zam, Zan, Zao, Zap, Zaq, Zar, Zas, Zat, Zau, ite_true, ite_false, reduceCtorEq, Nat.reduceAdd, Nat.reduceMul, Nat.reduceLeDiff, Nat.reduceLT, Nat.reduceEqDiff, forall_const]
  refine ⟨i64_of (by omega) (by omega), i64_of (by omega) (by omega), ?_⟩
  refine useS (Next_ok l k _ hk hl (by omega)) rfl rfl rfl (by simp only [ZZ, Za, Zb, Zc, Zd, Ze, Zf, Zg, Zh, rd, AV.un, AV.unA, AV.ad, Zi, Zj, Zk, Zl, Zm, Zn, Zo, Zp, Zq, Zr, Zs, Zt, Zu, Zv, Zw, Zx, Zy, Zz, Zaa, Zab, Zac, Zad, wk1, wk, Zae, Zaf, Zag, Zah, Zai, Zaj, Zak, Zal, AV.kill, AO.kill, AV.thaw, AO.thaw, Zam, Zan, Zao, Zap, Zaq, Zar, Zas, Zat, Zau, ite_true, ite_false, reduceCtorEq, Nat.reduceAdd, Nat.reduceMul, Nat.reduceLeDiff, Nat.reduceLT, Nat.reduceEqDiff, forall_const]) ?_
  rintro x cs' ⟨y, rfl, rfl⟩
  have b1 := below_loZ y (hi - lo + 1)
  have b2 := below_hiZ y (hi - lo + 1) (by omega)
  simp only [ZZ, Za, Zb, Zc, Zd, Ze, Zf, Zg, Zh, rd, AV.un, AV.unA, AV.ad, Zi, Zj, Zk, Zl, Zm, Zn, Zo, Zp, Zq, Zr, Zs, Zt, Zu, Zv, Zw, Zx, Zy, Zz, Zaa, Zab, Zac, Zad, wk1, wk, Zae, Zaf, Zag, Zah, Zai, Zaj, Zak, Zal, AV.kill, AO.kill, AV.thaw, AO.thaw, Zam, Zan, Zao, Zap, Zaq, Zar, Zas, Zat, Zau, ite_true, ite_false, reduceCtorEq, Nat.reduceAdd, Nat.reduceMul, Nat.reduceLeDiff, Nat.reduceLT, Nat.reduceEqDiff, forall_const]
  exact ⟨i64_of (by omega) (by omega), fin_S (stm l (k + 1)) rfl ⟨_, rfl, by omega, by omega, rfl⟩⟩

/-- One of some elements. -/
theorem Pick_ok (l : List Int) (k : Nat) (c : List Int) (hk : k ≤ 1000000) (hl : l.length ≤ 9223372036854775807) (h0 : 0 < c.length) (h1 : c.length ≤ 1000000) :
    SCall Try.prog E 7 T (stm l k) [ints c] (fun x cs' => ∃ y, x = int y ∧ y ∈ c ∧ cs' = stm l (k + 1)) := by
  unfold SCall
  refine gcallP mixed Try.func7 ck_chasemake_Stream_Pick ?_
  simp only [a0, l0, OS.ao, List.map_cons, List.map_nil, List.length_cons, List.length_nil, List.cons_append, List.nil_append, Nat.reduceSub, Nat.reduceAdd, List.replicate_succ, List.replicate_zero, ir_chasemake_Stream_Pick, rs_chasemake_Stream_Pick, ZZ, Za, Zb, Zc, Zd, Ze, Zf, Zg, Zh, rd, AV.un, AV.unA, AV.ad, Zi, Zj, Zk, Zl, Zm, Zn, Zo, Zp, Zq, Zr, Zs, Zt, Zu, Zv, Zw, Zx, Zy, Zz, Zaa, Zab, Zac, Zad, wk1, wk, Zae, Zaf, Zag, Zah, Zai, Zaj, Zak, Zal, AV.kill, AO.kill, AV.thaw, AO.thaw, Zam, Zan, Zao, Zap, Zaq, Zar, Zas, Zat, Zau, ite_true, ite_false, reduceCtorEq, Nat.reduceAdd, Nat.reduceMul, Nat.reduceLeDiff, Nat.reduceLT, Nat.reduceEqDiff, forall_const]
  simp only [ints, ZZ, Za, Zb, Zc, Zd, Ze, Zf, Zg, Zh, rd, AV.un, AV.unA, AV.ad, Zi, Zj, Zk, Zl, Zm, Zn, Zo, Zp, Zq, Zr, Zs, Zt, Zu, Zv, Zw, Zx, Zy, Zz, Zaa, Zab, Zac, Zad, wk1, wk, Zae, Zaf, Zag, Zah, Zai, Zaj, Zak, Zal, AV.kill, AO.kill, AV.thaw, AO.thaw, Zam, Zan, Zao, Zap, Zaq, Zar, Zas, Zat, Zau, ite_true, ite_false, reduceCtorEq, Nat.reduceAdd, Nat.reduceMul, Nat.reduceLeDiff, Nat.reduceLT, Nat.reduceEqDiff, forall_const]
  generalize hes : c.map (fun x => [PV.int IntKind.i64 x]) = es
  have hln : es.length = c.length := by rw [← hes]; simp
  refine useS (Next_ok l k _ hk hl (by omega)) rfl rfl rfl (by simp only [ZZ, Za, Zb, Zc, Zd, Ze, Zf, Zg, Zh, rd, AV.un, AV.unA, AV.ad, Zi, Zj, Zk, Zl, Zm, Zn, Zo, Zp, Zq, Zr, Zs, Zt, Zu, Zv, Zw, Zx, Zy, Zz, Zaa, Zab, Zac, Zad, wk1, wk, Zae, Zaf, Zag, Zah, Zai, Zaj, Zak, Zal, AV.kill, AO.kill, AV.thaw, AO.thaw, Zam, Zan, Zao, Zap, Zaq, Zar, Zas, Zat, Zau, ite_true, ite_false, reduceCtorEq, Nat.reduceAdd, Nat.reduceMul, Nat.reduceLeDiff, Nat.reduceLT, Nat.reduceEqDiff, forall_const]) ?_
  rintro x cs' ⟨y, rfl, rfl⟩
  obtain ⟨i, hi, hy⟩ := below_idxZ y es.length (by omega)
  rw [hy]
  obtain ⟨z, hz⟩ : ∃ z, c[i]? = some z := ⟨_, List.getElem?_eq_getElem (by omega)⟩
  have hg : es.getD i [] = [PV.int .i64 z] := by rw [← hes]; exact getD_map hz
  simp only [ZZ, Za, Zb, Zc, Zd, Ze, Zf, Zg, Zh, rd, AV.un, AV.unA, AV.ad, Zi, Zj, Zk, Zl, Zm, Zn, Zo, Zp, Zq, Zr, Zs, Zt, Zu, Zv, Zw, Zx, Zy, Zz, Zaa, Zab, Zac, Zad, wk1, wk, Zae, Zaf, Zag, Zah, Zai, Zaj, Zak, Zal, AV.kill, AO.kill, AV.thaw, AO.thaw, Zam, Zan, Zao, Zap, Zaq, Zar, Zas, Zat, Zau, ite_true, ite_false, reduceCtorEq, Nat.reduceAdd, Nat.reduceMul, Nat.reduceLeDiff, Nat.reduceLT, Nat.reduceEqDiff, forall_const, hg]
  exact ⟨⟨by omega, by omega⟩, by omega, fin_S (stm l (k + 1)) rfl ⟨_, rfl, List.mem_of_getElem? hz, rfl⟩⟩
theorem one_ok (l : List Int) (k : Nat) (c : List (List UInt8)) (hk : k ≤ 1000000) (hl : l.length ≤ 9223372036854775807) (h0 : 0 < c.length) (h1 : c.length ≤ 1000000) :
    SCall Try.prog E 29 T (stm l k) [strs c] (fun x cs' => ∃ y, x = .str y ∧ y ∈ c ∧ cs' = stm l (k + 1)) := by
  unfold SCall
  refine gcallP mixed Try.func29 ck_chasemake_Stream_h06one ?_
  simp only [a0, l0, OS.ao, List.map_cons, List.map_nil, List.length_cons, List.length_nil, List.cons_append, List.nil_append, Nat.reduceSub, Nat.reduceAdd, List.replicate_succ, List.replicate_zero, ir_chasemake_Stream_h06one, rs_chasemake_Stream_h06one, ZZ, Za, Zb, Zc, Zd, Ze, Zf, Zg, Zh, rd, AV.un, AV.unA, AV.ad, Zi, Zj, Zk, Zl, Zm, Zn, Zo, Zp, Zq, Zr, Zs, Zt, Zu, Zv, Zw, Zx, Zy, Zz, Zaa, Zab, Zac, Zad, wk1, wk, Zae, Zaf, Zag, Zah, Zai, Zaj, Zak, Zal, AV.kill, AO.kill, AV.thaw, AO.thaw, Zam, Zan, Zao, Zap, Zaq, Zar, Zas, Zat, Zau, ite_true, ite_false, reduceCtorEq, Nat.reduceAdd, Nat.reduceMul, Nat.reduceLeDiff, Nat.reduceLT, Nat.reduceEqDiff, forall_const]
  simp only [strs, ZZ, Za, Zb, Zc, Zd, Ze, Zf, Zg, Zh, rd, AV.un, AV.unA, AV.ad, Zi, Zj, Zk, Zl, Zm, Zn, Zo, Zp, Zq, Zr, Zs, Zt, Zu, Zv, Zw, Zx, Zy, Zz, Zaa, Zab, Zac, Zad, wk1, wk, Zae, Zaf, Zag, Zah, Zai, Zaj, Zak, Zal, AV.kill, AO.kill, AV.thaw, AO.thaw, Zam, Zan, Zao, Zap, Zaq, Zar, Zas, Zat, Zau, ite_true, ite_false, reduceCtorEq, Nat.reduceAdd, Nat.reduceMul, Nat.reduceLeDiff, Nat.reduceLT, Nat.reduceEqDiff, forall_const]
  generalize hes : c.map (fun x => [PV.str x]) = es
  have hln : es.length = c.length := by rw [← hes]; simp
  refine useS (Next_ok l k _ hk hl (by omega)) rfl rfl rfl (by simp only [ZZ, Za, Zb, Zc, Zd, Ze, Zf, Zg, Zh, rd, AV.un, AV.unA, AV.ad, Zi, Zj, Zk, Zl, Zm, Zn, Zo, Zp, Zq, Zr, Zs, Zt, Zu, Zv, Zw, Zx, Zy, Zz, Zaa, Zab, Zac, Zad, wk1, wk, Zae, Zaf, Zag, Zah, Zai, Zaj, Zak, Zal, AV.kill, AO.kill, AV.thaw, AO.thaw, Zam, Zan, Zao, Zap, Zaq, Zar, Zas, Zat, Zau, ite_true, ite_false, reduceCtorEq, Nat.reduceAdd, Nat.reduceMul, Nat.reduceLeDiff, Nat.reduceLT, Nat.reduceEqDiff, forall_const]) ?_
  rintro x cs' ⟨y, rfl, rfl⟩
  obtain ⟨i, hi, hy⟩ := below_idxZ y es.length (by omega)
  rw [hy]
  obtain ⟨z, hz⟩ : ∃ z, c[i]? = some z := ⟨_, List.getElem?_eq_getElem (by omega)⟩
  have hg : es.getD i [] = [PV.str z] := by rw [← hes]; exact getD_map hz
  simp only [ZZ, Za, Zb, Zc, Zd, Ze, Zf, Zg, Zh, rd, AV.un, AV.unA, AV.ad, Zi, Zj, Zk, Zl, Zm, Zn, Zo, Zp, Zq, Zr, Zs, Zt, Zu, Zv, Zw, Zx, Zy, Zz, Zaa, Zab, Zac, Zad, wk1, wk, Zae, Zaf, Zag, Zah, Zai, Zaj, Zak, Zal, AV.kill, AO.kill, AV.thaw, AO.thaw, Zam, Zan, Zao, Zap, Zaq, Zar, Zas, Zat, Zau, ite_true, ite_false, reduceCtorEq, Nat.reduceAdd, Nat.reduceMul, Nat.reduceLeDiff, Nat.reduceLT, Nat.reduceEqDiff, forall_const, hg]
  exact ⟨⟨by omega, by omega⟩, by omega, fin_S (stm l (k + 1)) rfl ⟨_, rfl, List.mem_of_getElem? hz, rfl⟩⟩
end
end Go.Proofs.Ytpddiepfolfnoaa

/- Makers: Prose, Size and Changed, in the layer: only sizes are told. -/
namespace Go.Proofs.Ytpddiepfolfnoaa
set_option linter.unusedVariables false
set_option linter.unusedSimpArgs false
set_option linter.defProp false

/- (*paperchase/chasemake.Stream).Prose -/
def ir_chasemake_Stream_Prose_L0 : IC :=
  (.seq (.reg [⟨some 11, .bin .lss (.t 10) (.t 9), none⟩])
    (.seq (.cond (.t 11) .skip (.exit 0))
    (.seq (.block 1 (.reg [⟨some 12, .mov (.t 5), none⟩,
      ⟨some 13, .mov (.t 0), none⟩,
      ⟨some 14, .bsl 1 [.c (.str [97]), .c (.str [98]), .c (.str [99]), .c (.str [100]), .c (.str [101]), .c (.str [65]), .c (.str [66]), .c (.str [105, 116, 39, 115]), .c (.str [195, 169]), .c (.str [120, 44]), .c (.str [57])], none⟩,
      ⟨some 15, .call 29 [.t 13, .t 14], none⟩,
      ⟨some 16, .mov (.t 0), none⟩,
      ⟨some 17, .bsl 1 [.c (.str [32]), .c (.str [32]), .c (.str [32]), .c (.str [32, 32]), .c (.str [10]), .c (.str [10, 10]), .c (.str [44, 32]), .c (.str [])], none⟩,
      ⟨some 18, .call 29 [.t 16, .t 17], none⟩,
      ⟨some 19, .bin .add (.t 15) (.t 18), none⟩,
      ⟨some 20, .bin .add (.t 12) (.t 19), none⟩,
      ⟨some 5, .mov (.t 20), none⟩]))
    (.reg [⟨some 21, .bin .add (.t 10) (.c (.int .i64 1)), none⟩,
      ⟨some 10, .mov (.t 21), none⟩]))))
def ir_chasemake_Stream_Prose : IC :=
  (.seq (.reg [⟨some 4, .mov (.c (.str [])), none⟩])
    (.seq (.reg [⟨some 5, .mov (.c (.str [])), none⟩])
    (.seq (.seq (.reg [⟨some 6, .mov (.t 0), none⟩,
      ⟨some 7, .mov (.t 1), none⟩,
      ⟨some 8, .bin .add (.t 7) (.c (.int .i64 1)), none⟩,
      ⟨some 9, .call 24 [.t 6, .t 8], none⟩,
      ⟨some 10, .mov (.c (.int .i64 0)), none⟩])
    (.block 0 (.loop ir_chasemake_Stream_Prose_L0)))
    (.seq (.reg [⟨some 22, .mov (.t 5), none⟩,
      ⟨some 4, .mov (.t 22), none⟩])
    .ret))))
def rs_chasemake_Stream_Prose : List IRes := [.t 4]
theorem ck_chasemake_Stream_Prose : chkF Try.prog Try.f5 ir_chasemake_Stream_Prose rs_chasemake_Stream_Prose 23 = true := by kernel_rfl
/- (*paperchase/chasemake.Stream).Size -/
def ir_chasemake_Stream_Size : IC :=
  (.seq (.reg [⟨some 2, .mov (.c (.int .i64 0)), none⟩])
    (.seq (.reg [⟨some 3, .mov (.t 0), none⟩,
      ⟨some 4, .mov (.t 0), none⟩,
      ⟨some 5, .bsl 1 [.c (.int .i64 2), .c (.int .i64 0), .c (.int .i64 11)], none⟩,
      ⟨some 6, .call 7 [.t 4, .t 5], none⟩,
      ⟨none, .fz (.t 6), none⟩,
      ⟨some 7, .bsl 1 [.c (.int .i64 1), .c (.int .i64 2), .c (.int .i64 2), .c (.int .i64 3), .c (.int .i64 5), .c (.int .i64 10), .t 6], none⟩,
      ⟨some 8, .call 7 [.t 3, .t 7], none⟩,
      ⟨some 2, .mov (.t 8), none⟩])
    .ret))
def rs_chasemake_Stream_Size : List IRes := [.t 2]
theorem ck_chasemake_Stream_Size : chkF Try.prog Try.f6 ir_chasemake_Stream_Size rs_chasemake_Stream_Size 9 = true := by kernel_rfl
/- (*paperchase/chasemake.Stream).Changed -/
def ir_chasemake_Stream_Changed : IC :=
  (.seq (.reg [⟨some 6, .mov (.c (.str [])), none⟩])
    (.seq (.seq (.reg [⟨some 9, .mov (.t 1), none⟩,
      ⟨some 10, .bin .eql (.t 9) (.c (.str [])), none⟩,
      ⟨some 11, .mov (.t 10), none⟩,
      ⟨some 12, .mov (.t 2), (some (11, false))⟩,
      ⟨some 13, .bin .eql (.t 12) (.c (.str [])), (some (11, false))⟩,
      ⟨some 14, .pick (.t 11) (.c (.bool true)) (.t 13), none⟩])
    (.cond (.t 14) (.seq (.reg [⟨some 15, .mov (.t 2), none⟩,
      ⟨some 6, .mov (.t 15), none⟩])
    .ret) .skip))
    (.seq (.reg [⟨some 16, .mov (.t 0), none⟩,
      ⟨some 17, .mov (.t 1), none⟩,
      ⟨some 18, .sln (.t 17), none⟩,
      ⟨some 19, .call 24 [.t 16, .t 18], none⟩,
      ⟨some 7, .mov (.t 19), none⟩])
    (.seq (.reg [⟨some 20, .mov (.t 2), none⟩,
      ⟨some 21, .mov (.t 0), none⟩,
      ⟨some 22, .mov (.t 2), none⟩,
      ⟨some 23, .sln (.t 22), none⟩,
      ⟨some 24, .call 24 [.t 21, .t 23], none⟩,
      ⟨some 25, .idx (.t 20) (.t 24), none⟩,
      ⟨some 8, .mov (.t 25), none⟩])
    (.seq (.seq (.reg [⟨some 26, .mov (.t 0), none⟩,
      ⟨some 27, .call 24 [.t 26, .c (.int .i64 3)], none⟩])
    (.block 0 (.seq (.reg [⟨some 29, .bin .eql (.t 27) (.c (.int .i64 0)), none⟩,
      ⟨some 28, .mov (.t 29), none⟩])
    (.cond (.t 28) (.seq (.drg [⟨some 30, .mov (.t 1), none⟩,
      ⟨some 31, .mov (.t 7), none⟩,
      ⟨some 32, .ssl (.t 30) none (some (.t 31)), none⟩,
      ⟨some 33, .mov (.t 8), none⟩,
      ⟨some 34, .cvi .i32 (.t 33), none⟩,
      ⟨some 35, .cvs (.t 34), none⟩,
      ⟨some 36, .bin .add (.t 32) (.t 35), none⟩,
      ⟨some 37, .mov (.t 1), none⟩,
      ⟨some 38, .mov (.t 7), none⟩,
      ⟨some 39, .bin .add (.t 38) (.c (.int .i64 1)), none⟩,
      ⟨some 40, .ssl (.t 37) (some (.t 39)) none, none⟩,
      ⟨some 41, .bin .add (.t 36) (.t 40), none⟩,
      ⟨some 6, .mov (.t 41), none⟩])
    .ret) (.seq (.reg [⟨some 43, .bin .eql (.t 27) (.c (.int .i64 1)), none⟩,
      ⟨some 42, .mov (.t 43), none⟩])
    (.cond (.t 42) (.seq (.drg [⟨some 44, .mov (.t 1), none⟩,
      ⟨some 45, .mov (.t 7), none⟩,
      ⟨some 46, .ssl (.t 44) none (some (.t 45)), none⟩,
      ⟨some 47, .mov (.t 8), none⟩,
      ⟨some 48, .cvi .i32 (.t 47), none⟩,
      ⟨some 49, .cvs (.t 48), none⟩,
      ⟨some 50, .bin .add (.t 46) (.t 49), none⟩,
      ⟨some 51, .mov (.t 1), none⟩,
      ⟨some 52, .mov (.t 7), none⟩,
      ⟨some 53, .ssl (.t 51) (some (.t 52)) none, none⟩,
      ⟨some 54, .bin .add (.t 50) (.t 53), none⟩,
      ⟨some 6, .mov (.t 54), none⟩])
    .ret) .skip))))))
    (.seq (.drg [⟨some 55, .mov (.t 1), none⟩,
      ⟨some 56, .mov (.t 7), none⟩,
      ⟨some 57, .ssl (.t 55) none (some (.t 56)), none⟩,
      ⟨some 58, .mov (.t 1), none⟩,
      ⟨some 59, .mov (.t 7), none⟩,
      ⟨some 60, .bin .add (.t 59) (.c (.int .i64 1)), none⟩,
      ⟨some 61, .ssl (.t 58) (some (.t 60)) none, none⟩,
      ⟨some 62, .bin .add (.t 57) (.t 61), none⟩,
      ⟨some 6, .mov (.t 62), none⟩])
    .ret))))))
def rs_chasemake_Stream_Changed : List IRes := [.t 6]
theorem ck_chasemake_Stream_Changed : chkF Try.prog Try.f15 ir_chasemake_Stream_Changed rs_chasemake_Stream_Changed 63 = true := by kernel_rfl

section
variable {E : Envt}
theorem Size_ok (l : List Int) (k : Nat) (hk : k ≤ 900000) (hl : l.length ≤ 9223372036854775807) :
    SCall Try.prog E 6 T (stm l k) [] (fun x cs' => ∃ y k', x = int y ∧ 0 ≤ y ∧ y ≤ 11 ∧ cs' = stm l k' ∧ k' ≤ k + 2) := by
  unfold SCall
  refine gcallP mixed Try.func6 ck_chasemake_Stream_Size ?_
  simp only [a0, l0, OS.ao, List.map_cons, List.map_nil, List.length_cons, List.length_nil, List.cons_append, List.nil_append, Nat.reduceSub, Nat.reduceAdd, List.replicate_succ, List.replicate_zero, ir_chasemake_Stream_Size, rs_chasemake_Stream_Size, ZZ, Za, Zb, Zc, Zd, Ze, Zf, Zg, Zh, rd, AV.un, AV.unA, AV.ad, Zi, Zj, Zk, Zl, Zm, Zn, Zo, Zp, Zq, Zr, Zs, Zt, Zu, Zv, Zw, Zx, Zy, Zz, Zaa, Zab, Zac, Zad, wk1, wk, Zae, Zaf, Zag, Zah, Zai, Zaj, Zak, Zal, AV.kill, AO.kill, AV.thaw, AO.thaw, Zam, Zan, Zao, Zap, Zaq, Zar, Zas, Zat, Zau, ite_true, ite_false, reduceCtorEq, Nat.reduceAdd, Nat.reduceMul, Nat.reduceLeDiff, Nat.reduceLT, Nat.reduceEqDiff, forall_const]
  refine useS (Pick_ok l k [2, 0, 11] (by omega) hl (by simp) (by simp)) rfl rfl rfl (by simp only [ZZ, Za, Zb, Zc, Zd, Ze, Zf, Zg, Zh, rd, AV.un, AV.unA, AV.ad, Zi, Zj, Zk, Zl, Zm, Zn, Zo, Zp, Zq, Zr, Zs, Zt, Zu, Zv, Zw, Zx, Zy, Zz, Zaa, Zab, Zac, Zad, wk1, wk, Zae, Zaf, Zag, Zah, Zai, Zaj, Zak, Zal, AV.kill, AO.kill, AV.thaw, AO.thaw, Zam, Zan, Zao, Zap, Zaq, Zar, Zas, Zat, Zau, ite_true, ite_false, reduceCtorEq, Nat.reduceAdd, Nat.reduceMul, Nat.reduceLeDiff, Nat.reduceLT, Nat.reduceEqDiff, forall_const]) ?_
  rintro x cs' ⟨p, rfl, hp, rfl⟩
  have hp' : 0 ≤ p ∧ p ≤ 11 := by simp at hp; omega
  simp only [ZZ, Za, Zb, Zc, Zd, Ze, Zf, Zg, Zh, rd, AV.un, AV.unA, AV.ad, Zi, Zj, Zk, Zl, Zm, Zn, Zo, Zp, Zq, Zr, Zs, Zt, Zu, Zv, Zw, Zx, Zy, Zz, Zaa, Zab, Zac, Zad, wk1, wk, Zae, Zaf, Zag, Zah, Zai, Zaj, Zak, Zal, AV.kill, AO.kill, AV.thaw, AO.thaw, Zam, Zan, Zao, Zap, Zaq, Zar, Zas, Zat, Zau, ite_true, ite_false, reduceCtorEq, Nat.reduceAdd, Nat.reduceMul, Nat.reduceLeDiff, Nat.reduceLT, Nat.reduceEqDiff, forall_const]
  refine useS (Pick_ok l (k + 1) [1, 2, 2, 3, 5, 10, p] (by omega) hl (by simp) (by simp)) rfl rfl rfl (by simp only [ZZ, Za, Zb, Zc, Zd, Ze, Zf, Zg, Zh, rd, AV.un, AV.unA, AV.ad, Zi, Zj, Zk, Zl, Zm, Zn, Zo, Zp, Zq, Zr, Zs, Zt, Zu, Zv, Zw, Zx, Zy, Zz, Zaa, Zab, Zac, Zad, wk1, wk, Zae, Zaf, Zag, Zah, Zai, Zaj, Zak, Zal, AV.kill, AO.kill, AV.thaw, AO.thaw, Zam, Zan, Zao, Zap, Zaq, Zar, Zas, Zat, Zau, ite_true, ite_false, reduceCtorEq, Nat.reduceAdd, Nat.reduceMul, Nat.reduceLeDiff, Nat.reduceLT, Nat.reduceEqDiff, forall_const]) ?_
  rintro x cs' ⟨q, rfl, hq, rfl⟩
  have hq' : 0 ≤ q ∧ q ≤ 11 := by simp at hq; omega
  simp only [ZZ, Za, Zb, Zc, Zd, Ze, Zf, Zg, Zh, rd, AV.un, AV.unA, AV.ad, Zi, Zj, Zk, Zl, Zm, Zn, Zo, Zp, Zq, Zr, Zs, Zt, Zu, Zv, Zw, Zx, Zy, Zz, Zaa, Zab, Zac, Zad, wk1, wk, Zae, Zaf, Zag, Zah, Zai, Zaj, Zak, Zal, AV.kill, AO.kill, AV.thaw, AO.thaw, Zam, Zan, Zao, Zap, Zaq, Zar, Zas, Zat, Zau, ite_true, ite_false, reduceCtorEq, Nat.reduceAdd, Nat.reduceMul, Nat.reduceLeDiff, Nat.reduceLT, Nat.reduceEqDiff, forall_const]
  exact fin_S (stm l (k + 1 + 1)) rfl ⟨q, _, rfl, by omega, by omega, rfl, by omega⟩
theorem Prose_ok (l : List Int) (k : Nat) (n : Int) (hk : k ≤ 900000) (hl : l.length ≤ 9223372036854775807) (hn0 : 0 ≤ n) (hn : n ≤ 1000) :
    SCall Try.prog E 5 T (stm l k) [int n] (fun x cs' => ∃ t k', x = .str t ∧ t.length ≤ 6000 ∧ cs' = stm l k' ∧ k' ≤ k + 3000) := by
  unfold SCall
  refine gcallP mixed Try.func5 ck_chasemake_Stream_Prose ?_
  simp only [a0, l0, OS.ao, List.map_cons, List.map_nil, List.length_cons, List.length_nil, List.cons_append, List.nil_append, Nat.reduceSub, Nat.reduceAdd, List.replicate_succ, List.replicate_zero, ir_chasemake_Stream_Prose, rs_chasemake_Stream_Prose, ZZ, Za, Zb, Zc, Zd, Ze, Zf, Zg, Zh, rd, AV.un, AV.unA, AV.ad, Zi, Zj, Zk, Zl, Zm, Zn, Zo, Zp, Zq, Zr, Zs, Zt, Zu, Zv, Zw, Zx, Zy, Zz, Zaa, Zab, Zac, Zad, wk1, wk, Zae, Zaf, Zag, Zah, Zai, Zaj, Zak, Zal, AV.kill, AO.kill, AV.thaw, AO.thaw, Zam, Zan, Zao, Zap, Zaq, Zar, Zas, Zat, Zau, ite_true, ite_false, reduceCtorEq, Nat.reduceAdd, Nat.reduceMul, Nat.reduceLeDiff, Nat.reduceLT, Nat.reduceEqDiff, forall_const]
  refine ⟨i64_of (by omega) (by omega), ?_⟩
  refine useS (Next_ok l k _ (by omega) hl (by omega)) rfl rfl rfl (by simp only [ZZ, Za, Zb, Zc, Zd, Ze, Zf, Zg, Zh, rd, AV.un, AV.unA, AV.ad, Zi, Zj, Zk, Zl, Zm, Zn, Zo, Zp, Zq, Zr, Zs, Zt, Zu, Zv, Zw, Zx, Zy, Zz, Zaa, Zab, Zac, Zad, wk1, wk, Zae, Zaf, Zag, Zah, Zai, Zaj, Zak, Zal, AV.kill, AO.kill, AV.thaw, AO.thaw, Zam, Zan, Zao, Zap, Zaq, Zar, Zas, Zat, Zau, ite_true, ite_false, reduceCtorEq, Nat.reduceAdd, Nat.reduceMul, Nat.reduceLeDiff, Nat.reduceLT, Nat.reduceEqDiff, forall_const]) ?_
  rintro x cs' ⟨y, rfl, rfl⟩
  have b1 := below_loZ y (n + 1)
  have b2 := below_hiZ y (n + 1) (by omega)
  generalize belowZ y (n + 1) = m at *
  simp only [ZZ, Za, Zb, Zc, Zd, Ze, Zf, Zg, Zh, rd, AV.un, AV.unA, AV.ad, Zi, Zj, Zk, Zl, Zm, Zn, Zo, Zp, Zq, Zr, Zs, Zt, Zu, Zv, Zw, Zx, Zy, Zz, Zaa, Zab, Zac, Zad, wk1, wk, Zae, Zaf, Zag, Zah, Zai, Zaj, Zak, Zal, AV.kill, AO.kill, AV.thaw, AO.thaw, Zam, Zan, Zao, Zap, Zaq, Zar, Zas, Zat, Zau, ite_true, ite_false, reduceCtorEq, Nat.reduceAdd, Nat.reduceMul, Nat.reduceLeDiff, Nat.reduceLT, Nat.reduceEqDiff, forall_const]
  refine loop_intro (fun n fr L => ∃ (i : Nat) (k' : Nat) (t : List UInt8), m.toNat - i = n ∧ ((i : Int) ≤ m) ∧ (k' ≤ k + 1 + 2 * i) ∧ (t.length ≤ 6 * i) ∧ fr = [.adr (.b 0) 0, .any, .any, .any, .any, .p (.str t), .any, .any, .any, .p (int m), .p (int (i : Nat)), .any, .any, .any, .any, .any, .any, .any, .any, .any, .any, .any, .any] ∧ L = [(.b 0, .box ((stm l k').map .p) T)]) (m.toNat - 0) [.adr (.b 0) 0, .any, .any, .any, .any, .p (.str []), .any, .any, .any, .p (int m), .p (int (0 : Nat)), .any, .any, .any, .any, .any, .any, .any, .any, .any, .any, .any, .any] [(.b 0, .box ((stm l (k + 1)).map .p) T)] (by (simp only [ZZ, Za, Zb, Zc, Zd, Ze, Zf, Zg, Zh, rd, AV.un, AV.unA, AV.ad, Zi, Zj, Zk, Zl, Zm, Zn, Zo, Zp, Zq, Zr, Zs, Zt, Zu, Zv, Zw, Zx, Zy, Zz, Zaa, Zab, Zac, Zad, wk1, wk, Zae, Zaf, Zag, Zah, Zai, Zaj, Zak, Zal, AV.kill, AO.kill, AV.thaw, AO.thaw, Zam, Zan, Zao, Zap, Zaq, Zar, Zas, Zat, Zau, ite_true, ite_false, reduceCtorEq, Nat.reduceAdd, Nat.reduceMul, Nat.reduceLeDiff, Nat.reduceLT, Nat.reduceEqDiff, forall_const]; try trivial)) (by (simp only [ZZ, Za, Zb, Zc, Zd, Ze, Zf, Zg, Zh, rd, AV.un, AV.unA, AV.ad, Zi, Zj, Zk, Zl, Zm, Zn, Zo, Zp, Zq, Zr, Zs, Zt, Zu, Zv, Zw, Zx, Zy, Zz, Zaa, Zab, Zac, Zad, wk1, wk, Zae, Zaf, Zag, Zah, Zai, Zaj, Zak, Zal, AV.kill, AO.kill, AV.thaw, AO.thaw, Zam, Zan, Zao, Zap, Zaq, Zar, Zas, Zat, Zau, ite_true, ite_false, reduceCtorEq, Nat.reduceAdd, Nat.reduceMul, Nat.reduceLeDiff, Nat.reduceLT, Nat.reduceEqDiff, forall_const]; try trivial)) ⟨0, k + 1, [], rfl, by omega, by omega, by simp, rfl, rfl⟩ ?_
  rintro n fr L ⟨i, k', t, rfl, him, hk', ht, rfl, rfl⟩
  simp only [ir_chasemake_Stream_Prose_L0, ZZ, Za, Zb, Zc, Zd, Ze, Zf, Zg, Zh, rd, AV.un, AV.unA, AV.ad, Zi, Zj, Zk, Zl, Zm, Zn, Zo, Zp, Zq, Zr, Zs, Zt, Zu, Zv, Zw, Zx, Zy, Zz, Zaa, Zab, Zac, Zad, wk1, wk, Zae, Zaf, Zag, Zah, Zai, Zaj, Zak, Zal, AV.kill, AO.kill, AV.thaw, AO.thaw, Zam, Zan, Zao, Zap, Zaq, Zar, Zas, Zat, Zau, ite_true, ite_false, reduceCtorEq, Nat.reduceAdd, Nat.reduceMul, Nat.reduceLeDiff, Nat.reduceLT, Nat.reduceEqDiff, forall_const]
  refine br ?_ ?_
  · intro h
    have hlt : (i : Int) < m := of_decide_eq_true h
    simp only [ZZ, Za, Zb, Zc, Zd, Ze, Zf, Zg, Zh, rd, AV.un, AV.unA, AV.ad, Zi, Zj, Zk, Zl, Zm, Zn, Zo, Zp, Zq, Zr, Zs, Zt, Zu, Zv, Zw, Zx, Zy, Zz, Zaa, Zab, Zac, Zad, wk1, wk, Zae, Zaf, Zag, Zah, Zai, Zaj, Zak, Zal, AV.kill, AO.kill, AV.thaw, AO.thaw, Zam, Zan, Zao, Zap, Zaq, Zar, Zas, Zat, Zau, ite_true, ite_false, reduceCtorEq, Nat.reduceAdd, Nat.reduceMul, Nat.reduceLeDiff, Nat.reduceLT, Nat.reduceEqDiff, forall_const]
    refine useS (one_ok l k' [[97], [98], [99], [100], [101], [65], [66], [105, 116, 39, 115], [195, 169], [120, 44], [57]] (by omega) hl (by simp) (by simp)) rfl rfl rfl (by simp only [ZZ, Za, Zb, Zc, Zd, Ze, Zf, Zg, Zh, rd, AV.un, AV.unA, AV.ad, Zi, Zj, Zk, Zl, Zm, Zn, Zo, Zp, Zq, Zr, Zs, Zt, Zu, Zv, Zw, Zx, Zy, Zz, Zaa, Zab, Zac, Zad, wk1, wk, Zae, Zaf, Zag, Zah, Zai, Zaj, Zak, Zal, AV.kill, AO.kill, AV.thaw, AO.thaw, Zam, Zan, Zao, Zap, Zaq, Zar, Zas, Zat, Zau, ite_true, ite_false, reduceCtorEq, Nat.reduceAdd, Nat.reduceMul, Nat.reduceLeDiff, Nat.reduceLT, Nat.reduceEqDiff, forall_const]) ?_
    rintro x cs' ⟨u, rfl, hu, rfl⟩
    have hul : u.length ≤ 4 := by simp at hu; rcases hu with rfl | rfl | rfl | rfl | rfl | rfl | rfl | rfl | rfl | rfl | rfl <;> simp
    simp only [ZZ, Za, Zb, Zc, Zd, Ze, Zf, Zg, Zh, rd, AV.un, AV.unA, AV.ad, Zi, Zj, Zk, Zl, Zm, Zn, Zo, Zp, Zq, Zr, Zs, Zt, Zu, Zv, Zw, Zx, Zy, Zz, Zaa, Zab, Zac, Zad, wk1, wk, Zae, Zaf, Zag, Zah, Zai, Zaj, Zak, Zal, AV.kill, AO.kill, AV.thaw, AO.thaw, Zam, Zan, Zao, Zap, Zaq, Zar, Zas, Zat, Zau, ite_true, ite_false, reduceCtorEq, Nat.reduceAdd, Nat.reduceMul, Nat.reduceLeDiff, Nat.reduceLT, Nat.reduceEqDiff, forall_const]
    refine useS (one_ok l (k' + 1) [[32], [32], [32], [32, 32], [10], [10, 10], [44, 32], []] (by omega) hl (by simp) (by simp)) rfl rfl rfl (by simp only [ZZ, Za, Zb, Zc, Zd, Ze, Zf, Zg, Zh, rd, AV.un, AV.unA, AV.ad, Zi, Zj, Zk, Zl, Zm, Zn, Zo, Zp, Zq, Zr, Zs, Zt, Zu, Zv, Zw, Zx, Zy, Zz, Zaa, Zab, Zac, Zad, wk1, wk, Zae, Zaf, Zag, Zah, Zai, Zaj, Zak, Zal, AV.kill, AO.kill, AV.thaw, AO.thaw, Zam, Zan, Zao, Zap, Zaq, Zar, Zas, Zat, Zau, ite_true, ite_false, reduceCtorEq, Nat.reduceAdd, Nat.reduceMul, Nat.reduceLeDiff, Nat.reduceLT, Nat.reduceEqDiff, forall_const]) ?_
    rintro x cs' ⟨v, rfl, hv, rfl⟩
    have hvl : v.length ≤ 2 := by simp at hv; rcases hv with rfl | rfl | rfl | rfl | rfl | rfl | rfl <;> simp
    simp only [ZZ, Za, Zb, Zc, Zd, Ze, Zf, Zg, Zh, rd, AV.un, AV.unA, AV.ad, Zi, Zj, Zk, Zl, Zm, Zn, Zo, Zp, Zq, Zr, Zs, Zt, Zu, Zv, Zw, Zx, Zy, Zz, Zaa, Zab, Zac, Zad, wk1, wk, Zae, Zaf, Zag, Zah, Zai, Zaj, Zak, Zal, AV.kill, AO.kill, AV.thaw, AO.thaw, Zam, Zan, Zao, Zap, Zaq, Zar, Zas, Zat, Zau, ite_true, ite_false, reduceCtorEq, Nat.reduceAdd, Nat.reduceMul, Nat.reduceLeDiff, Nat.reduceLT, Nat.reduceEqDiff, forall_const]
    have h3 : (u ++ v).length ≤ 6 := by simp; omega
    ((repeat' (with_reducible apply And.intro)) <;> try ((first | first | assumption | trivial | exact (fun hq => by rw [hq]; rfl) | exact i64_of (by omega) (by omega) | omega | (simp; done) | (simp; omega) | (intro hsc; have hs0 := hsc; (try have hsd := of_decide_eq_true hsc); (try simp only [Bool.not_eq_true', Bool.or_eq_false_iff, Bool.and_eq_true, Bool.or_eq_true, decide_eq_true_eq, decide_eq_false_iff_not] at hsc); (repeat' (with_reducible apply And.intro)) <;> (first | assumption | trivial | exact (fun hq => by rw [hq]; rfl) | exact i64_of (by omega) (by omega) | omega | (simp; done) | (simp; omega) | (intro hse; simp [hse, hs0]; done))))))
    refine end_round (m.toNat - (i + 1)) [.adr (.b 0) 0, .any, .any, .any, .any, .p (.str (t ++ (u ++ v))), .any, .any, .any, .p (int m), .p (int ((i + 1) : Nat)), .any, .any, .any, .any, .any, .any, .any, .any, .any, .any, .any, .any] [(.b 0, .box ((stm l (k' + 1 + 1)).map .p) T)] (by omega) (by (simp only [ZZ, Za, Zb, Zc, Zd, Ze, Zf, Zg, Zh, rd, AV.un, AV.unA, AV.ad, Zi, Zj, Zk, Zl, Zm, Zn, Zo, Zp, Zq, Zr, Zs, Zt, Zu, Zv, Zw, Zx, Zy, Zz, Zaa, Zab, Zac, Zad, wk1, wk, Zae, Zaf, Zag, Zah, Zai, Zaj, Zak, Zal, AV.kill, AO.kill, AV.thaw, AO.thaw, Zam, Zan, Zao, Zap, Zaq, Zar, Zas, Zat, Zau, ite_true, ite_false, reduceCtorEq, Nat.reduceAdd, Nat.reduceMul, Nat.reduceLeDiff, Nat.reduceLT, Nat.reduceEqDiff, forall_const]; try trivial)) (by (simp only [ZZ, Za, Zb, Zc, Zd, Ze, Zf, Zg, Zh, rd, AV.un, AV.unA, AV.ad, Zi, Zj, Zk, Zl, Zm, Zn, Zo, Zp, Zq, Zr, Zs, Zt, Zu, Zv, Zw, Zx, Zy, Zz, Zaa, Zab, Zac, Zad, wk1, wk, Zae, Zaf, Zag, Zah, Zai, Zaj, Zak, Zal, AV.kill, AO.kill, AV.thaw, AO.thaw, Zam, Zan, Zao, Zap, Zaq, Zar, Zas, Zat, Zau, ite_true, ite_false, reduceCtorEq, Nat.reduceAdd, Nat.reduceMul, Nat.reduceLeDiff, Nat.reduceLT, Nat.reduceEqDiff, forall_const]; try trivial)) ⟨i + 1, k' + 1 + 1, t ++ (u ++ v), rfl, by omega, by omega, by rw [List.length_append]; omega, rfl, rfl⟩
  · intro h
    simp only [ZZ, Za, Zb, Zc, Zd, Ze, Zf, Zg, Zh, rd, AV.un, AV.unA, AV.ad, Zi, Zj, Zk, Zl, Zm, Zn, Zo, Zp, Zq, Zr, Zs, Zt, Zu, Zv, Zw, Zx, Zy, Zz, Zaa, Zab, Zac, Zad, wk1, wk, Zae, Zaf, Zag, Zah, Zai, Zaj, Zak, Zal, AV.kill, AO.kill, AV.thaw, AO.thaw, Zam, Zan, Zao, Zap, Zaq, Zar, Zas, Zat, Zau, ite_true, ite_false, reduceCtorEq, Nat.reduceAdd, Nat.reduceMul, Nat.reduceLeDiff, Nat.reduceLT, Nat.reduceEqDiff, forall_const]
    exact fin_S (stm l k') rfl ⟨t, _, rfl, by omega, rfl, by omega⟩
theorem enc_le (c : Int) : (Utf8.encode c).data.toList.length ≤ 4 := by
  rw [Array.length_toList]
  exact encode_size_le c
theorem Changed_ok (l : List Int) (k : Nat) (s t : List UInt8) (hk : k ≤ 900000) (hl : l.length ≤ 9223372036854775807) (hs : s.length ≤ 1000000) (ht : t.length ≤ 1000000) :
    SCall Try.prog E 15 T (stm l k) [.str s, .str t] (fun x cs' => ∃ u k', x = .str u ∧ u.length ≤ s.length + t.length + 10 ∧ cs' = stm l k' ∧ k' ≤ k + 3) := by
  unfold SCall
  refine gcallP mixed Try.func15 ck_chasemake_Stream_Changed ?_
  simp only [a0, l0, OS.ao, List.map_cons, List.map_nil, List.length_cons, List.length_nil, List.cons_append, List.nil_append, Nat.reduceSub, Nat.reduceAdd, List.replicate_succ, List.replicate_zero, ir_chasemake_Stream_Changed, rs_chasemake_Stream_Changed, ZZ, Za, Zb, Zc, Zd, Ze, Zf, Zg, Zh, rd, AV.un, AV.unA, AV.ad, Zi, Zj, Zk, Zl, Zm, Zn, Zo, Zp, Zq, Zr, Zs, Zt, Zu, Zv, Zw, Zx, Zy, Zz, Zaa, Zab, Zac, Zad, wk1, wk, Zae, Zaf, Zag, Zah, Zai, Zaj, Zak, Zal, AV.kill, AO.kill, AV.thaw, AO.thaw, Zam, Zan, Zao, Zap, Zaq, Zar, Zas, Zat, Zau, ite_true, ite_false, reduceCtorEq, Nat.reduceAdd, Nat.reduceMul, Nat.reduceLeDiff, Nat.reduceLT, Nat.reduceEqDiff, forall_const]
  ((repeat' (with_reducible apply And.intro)) <;> try ((first | first | assumption | trivial | exact (fun hq => by rw [hq]; rfl) | exact i64_of (by omega) (by omega) | omega | (simp; done) | (simp; omega) | (intro hsc; have hs0 := hsc; (try have hsd := of_decide_eq_true hsc); (try simp only [Bool.not_eq_true', Bool.or_eq_false_iff, Bool.and_eq_true, Bool.or_eq_true, decide_eq_true_eq, decide_eq_false_iff_not] at hsc); (repeat' (with_reducible apply And.intro)) <;> (first | assumption | trivial | exact (fun hq => by rw [hq]; rfl) | exact i64_of (by omega) (by omega) | omega | (simp; done) | (simp; omega) | (intro hse; simp [hse, hs0]; done))))))
  refine br ?_ ?_
  · intro _
    simp only [ZZ, Za, Zb, Zc, Zd, Ze, Zf, Zg, Zh, rd, AV.un, AV.unA, AV.ad, Zi, Zj, Zk, Zl, Zm, Zn, Zo, Zp, Zq, Zr, Zs, Zt, Zu, Zv, Zw, Zx, Zy, Zz, Zaa, Zab, Zac, Zad, wk1, wk, Zae, Zaf, Zag, Zah, Zai, Zaj, Zak, Zal, AV.kill, AO.kill, AV.thaw, AO.thaw, Zam, Zan, Zao, Zap, Zaq, Zar, Zas, Zat, Zau, ite_true, ite_false, reduceCtorEq, Nat.reduceAdd, Nat.reduceMul, Nat.reduceLeDiff, Nat.reduceLT, Nat.reduceEqDiff, forall_const]
    exact fin_S (stm l k) rfl ⟨t, _, rfl, by omega, rfl, by omega⟩
  · intro h
    simp only [Bool.or_eq_false_iff, decide_eq_false_iff_not] at h
    have hs0 : 0 < s.length := List.length_pos_iff.2 h.1
    have ht0 : 0 < t.length := List.length_pos_iff.2 h.2
    simp only [ZZ, Za, Zb, Zc, Zd, Ze, Zf, Zg, Zh, rd, AV.un, AV.unA, AV.ad, Zi, Zj, Zk, Zl, Zm, Zn, Zo, Zp, Zq, Zr, Zs, Zt, Zu, Zv, Zw, Zx, Zy, Zz, Zaa, Zab, Zac, Zad, wk1, wk, Zae, Zaf, Zag, Zah, Zai, Zaj, Zak, Zal, AV.kill, AO.kill, AV.thaw, AO.thaw, Zam, Zan, Zao, Zap, Zaq, Zar, Zas, Zat, Zau, ite_true, ite_false, reduceCtorEq, Nat.reduceAdd, Nat.reduceMul, Nat.reduceLeDiff, Nat.reduceLT, Nat.reduceEqDiff, forall_const]
    refine useS (Next_ok l k _ (by omega) hl (by omega)) rfl rfl rfl (by simp only [ZZ, Za, Zb, Zc, Zd, Ze, Zf, Zg, Zh, rd, AV.un, AV.unA, AV.ad, Zi, Zj, Zk, Zl, Zm, Zn, Zo, Zp, Zq, Zr, Zs, Zt, Zu, Zv, Zw, Zx, Zy, Zz, Zaa, Zab, Zac, Zad, wk1, wk, Zae, Zaf, Zag, Zah, Zai, Zaj, Zak, Zal, AV.kill, AO.kill, AV.thaw, AO.thaw, Zam, Zan, Zao, Zap, Zaq, Zar, Zas, Zat, Zau, ite_true, ite_false, reduceCtorEq, Nat.reduceAdd, Nat.reduceMul, Nat.reduceLeDiff, Nat.reduceLT, Nat.reduceEqDiff, forall_const]) ?_
    rintro x cs' ⟨y, rfl, rfl⟩
    obtain ⟨i, hi, hy⟩ := below_idxZ y s.length hs0
    rw [hy]
    simp only [ZZ, Za, Zb, Zc, Zd, Ze, Zf, Zg, Zh, rd, AV.un, AV.unA, AV.ad, Zi, Zj, Zk, Zl, Zm, Zn, Zo, Zp, Zq, Zr, Zs, Zt, Zu, Zv, Zw, Zx, Zy, Zz, Zaa, Zab, Zac, Zad, wk1, wk, Zae, Zaf, Zag, Zah, Zai, Zaj, Zak, Zal, AV.kill, AO.kill, AV.thaw, AO.thaw, Zam, Zan, Zao, Zap, Zaq, Zar, Zas, Zat, Zau, ite_true, ite_false, reduceCtorEq, Nat.reduceAdd, Nat.reduceMul, Nat.reduceLeDiff, Nat.reduceLT, Nat.reduceEqDiff, forall_const]
    refine useS (Next_ok l (k + 1) _ (by omega) hl (by omega)) rfl rfl rfl (by simp only [ZZ, Za, Zb, Zc, Zd, Ze, Zf, Zg, Zh, rd, AV.un, AV.unA, AV.ad, Zi, Zj, Zk, Zl, Zm, Zn, Zo, Zp, Zq, Zr, Zs, Zt, Zu, Zv, Zw, Zx, Zy, Zz, Zaa, Zab, Zac, Zad, wk1, wk, Zae, Zaf, Zag, Zah, Zai, Zaj, Zak, Zal, AV.kill, AO.kill, AV.thaw, AO.thaw, Zam, Zan, Zao, Zap, Zaq, Zar, Zas, Zat, Zau, ite_true, ite_false, reduceCtorEq, Nat.reduceAdd, Nat.reduceMul, Nat.reduceLeDiff, Nat.reduceLT, Nat.reduceEqDiff, forall_const]) ?_
    rintro x cs' ⟨y2, rfl, rfl⟩
    obtain ⟨j, hj, hy2⟩ := below_idxZ y2 t.length ht0
    rw [hy2]
    simp only [ZZ, Za, Zb, Zc, Zd, Ze, Zf, Zg, Zh, rd, AV.un, AV.unA, AV.ad, Zi, Zj, Zk, Zl, Zm, Zn, Zo, Zp, Zq, Zr, Zs, Zt, Zu, Zv, Zw, Zx, Zy, Zz, Zaa, Zab, Zac, Zad, wk1, wk, Zae, Zaf, Zag, Zah, Zai, Zaj, Zak, Zal, AV.kill, AO.kill, AV.thaw, AO.thaw, Zam, Zan, Zao, Zap, Zaq, Zar, Zas, Zat, Zau, ite_true, ite_false, reduceCtorEq, Nat.reduceAdd, Nat.reduceMul, Nat.reduceLeDiff, Nat.reduceLT, Nat.reduceEqDiff, forall_const]
    ((repeat' (with_reducible apply And.intro)) <;> try ((first | first | assumption | trivial | exact (fun hq => by rw [hq]; rfl) | exact i64_of (by omega) (by omega) | omega | (simp; done) | (simp; omega) | (intro hsc; have hs0 := hsc; (try have hsd := of_decide_eq_true hsc); (try simp only [Bool.not_eq_true', Bool.or_eq_false_iff, Bool.and_eq_true, Bool.or_eq_true, decide_eq_true_eq, decide_eq_false_iff_not] at hsc); (repeat' (with_reducible apply And.intro)) <;> (first | assumption | trivial | exact (fun hq => by rw [hq]; rfl) | exact i64_of (by omega) (by omega) | omega | (simp; done) | (simp; omega) | (intro hse; simp [hse, hs0]; done))))))
    refine useS (Next_ok l (k + 1 + 1) _ (by omega) hl (by decide)) rfl rfl rfl (by simp only [ZZ, Za, Zb, Zc, Zd, Ze, Zf, Zg, Zh, rd, AV.un, AV.unA, AV.ad, Zi, Zj, Zk, Zl, Zm, Zn, Zo, Zp, Zq, Zr, Zs, Zt, Zu, Zv, Zw, Zx, Zy, Zz, Zaa, Zab, Zac, Zad, wk1, wk, Zae, Zaf, Zag, Zah, Zai, Zaj, Zak, Zal, AV.kill, AO.kill, AV.thaw, AO.thaw, Zam, Zan, Zao, Zap, Zaq, Zar, Zas, Zat, Zau, ite_true, ite_false, reduceCtorEq, Nat.reduceAdd, Nat.reduceMul, Nat.reduceLeDiff, Nat.reduceLT, Nat.reduceEqDiff, forall_const]) ?_
    rintro x cs' ⟨y3, rfl, rfl⟩
    have hE4 := enc_le (IntKind.i32.wrap (((t.getD j 0).toNat : Nat) : Int))
    have l1 : (s.take i).length ≤ s.length := by simp; omega
    have l2 : ∀ q, (s.drop q).length ≤ s.length := by intro q; simp
    generalize belowZ y3 3 = z at *
    simp only [ZZ, Za, Zb, Zc, Zd, Ze, Zf, Zg, Zh, rd, AV.un, AV.unA, AV.ad, Zi, Zj, Zk, Zl, Zm, Zn, Zo, Zp, Zq, Zr, Zs, Zt, Zu, Zv, Zw, Zx, Zy, Zz, Zaa, Zab, Zac, Zad, wk1, wk, Zae, Zaf, Zag, Zah, Zai, Zaj, Zak, Zal, AV.kill, AO.kill, AV.thaw, AO.thaw, Zam, Zan, Zao, Zap, Zaq, Zar, Zas, Zat, Zau, ite_true, ite_false, reduceCtorEq, Nat.reduceAdd, Nat.reduceMul, Nat.reduceLeDiff, Nat.reduceLT, Nat.reduceEqDiff, forall_const]
    refine br ?_ ?_
    · intro _
      simp only [ZZ, Za, Zb, Zc, Zd, Ze, Zf, Zg, Zh, rd, AV.un, AV.unA, AV.ad, Zi, Zj, Zk, Zl, Zm, Zn, Zo, Zp, Zq, Zr, Zs, Zt, Zu, Zv, Zw, Zx, Zy, Zz, Zaa, Zab, Zac, Zad, wk1, wk, Zae, Zaf, Zag, Zah, Zai, Zaj, Zak, Zal, AV.kill, AO.kill, AV.thaw, AO.thaw, Zam, Zan, Zao, Zap, Zaq, Zar, Zas, Zat, Zau, ite_true, ite_false, reduceCtorEq, Nat.reduceAdd, Nat.reduceMul, Nat.reduceLeDiff, Nat.reduceLT, Nat.reduceEqDiff, forall_const]
      refine drg0 ?_
      simp only [ZZ, Za, Zb, Zc, Zd, Ze, Zf, Zg, Zh, rd, AV.un, AV.unA, AV.ad, Zi, Zj, Zk, Zl, Zm, Zn, Zo, Zp, Zq, Zr, Zs, Zt, Zu, Zv, Zw, Zx, Zy, Zz, Zaa, Zab, Zac, Zad, wk1, wk, Zae, Zaf, Zag, Zah, Zai, Zaj, Zak, Zal, AV.kill, AO.kill, AV.thaw, AO.thaw, Zam, Zan, Zao, Zap, Zaq, Zar, Zas, Zat, Zau, ite_true, ite_false, reduceCtorEq, Nat.reduceAdd, Nat.reduceMul, Nat.reduceLeDiff, Nat.reduceLT, Nat.reduceEqDiff, forall_const]
      ((repeat' (with_reducible apply And.intro)) <;> try ((first | first | assumption | trivial | exact (fun hq => by rw [hq]; rfl) | exact i64_of (by omega) (by omega) | omega | (simp; done) | (simp; omega) | (intro hsc; have hs0 := hsc; (try have hsd := of_decide_eq_true hsc); (try simp only [Bool.not_eq_true', Bool.or_eq_false_iff, Bool.and_eq_true, Bool.or_eq_true, decide_eq_true_eq, decide_eq_false_iff_not] at hsc); (repeat' (with_reducible apply And.intro)) <;> (first | assumption | trivial | exact (fun hq => by rw [hq]; rfl) | exact i64_of (by omega) (by omega) | omega | (simp; done) | (simp; omega) | (intro hse; simp [hse, hs0]; done))))))
      all_goals first
        | exact fin_S (stm l (k + 1 + 1 + 1)) rfl ⟨_, _, rfl, by simp only [List.length_append, List.length_drop, List.length_take]; omega, rfl, by omega⟩
        | (simp only [List.length_append, List.length_drop, List.length_take]; omega)
    · intro _
      simp only [ZZ, Za, Zb, Zc, Zd, Ze, Zf, Zg, Zh, rd, AV.un, AV.unA, AV.ad, Zi, Zj, Zk, Zl, Zm, Zn, Zo, Zp, Zq, Zr, Zs, Zt, Zu, Zv, Zw, Zx, Zy, Zz, Zaa, Zab, Zac, Zad, wk1, wk, Zae, Zaf, Zag, Zah, Zai, Zaj, Zak, Zal, AV.kill, AO.kill, AV.thaw, AO.thaw, Zam, Zan, Zao, Zap, Zaq, Zar, Zas, Zat, Zau, ite_true, ite_false, reduceCtorEq, Nat.reduceAdd, Nat.reduceMul, Nat.reduceLeDiff, Nat.reduceLT, Nat.reduceEqDiff, forall_const]
      refine br ?_ ?_
      · intro _
        simp only [ZZ, Za, Zb, Zc, Zd, Ze, Zf, Zg, Zh, rd, AV.un, AV.unA, AV.ad, Zi, Zj, Zk, Zl, Zm, Zn, Zo, Zp, Zq, Zr, Zs, Zt, Zu, Zv, Zw, Zx, Zy, Zz, Zaa, Zab, Zac, Zad, wk1, wk, Zae, Zaf, Zag, Zah, Zai, Zaj, Zak, Zal, AV.kill, AO.kill, AV.thaw, AO.thaw, Zam, Zan, Zao, Zap, Zaq, Zar, Zas, Zat, Zau, ite_true, ite_false, reduceCtorEq, Nat.reduceAdd, Nat.reduceMul, Nat.reduceLeDiff, Nat.reduceLT, Nat.reduceEqDiff, forall_const]
        refine drg0 ?_
        simp only [ZZ, Za, Zb, Zc, Zd, Ze, Zf, Zg, Zh, rd, AV.un, AV.unA, AV.ad, Zi, Zj, Zk, Zl, Zm, Zn, Zo, Zp, Zq, Zr, Zs, Zt, Zu, Zv, Zw, Zx, Zy, Zz, Zaa, Zab, Zac, Zad, wk1, wk, Zae, Zaf, Zag, Zah, Zai, Zaj, Zak, Zal, AV.kill, AO.kill, AV.thaw, AO.thaw, Zam, Zan, Zao, Zap, Zaq, Zar, Zas, Zat, Zau, ite_true, ite_false, reduceCtorEq, Nat.reduceAdd, Nat.reduceMul, Nat.reduceLeDiff, Nat.reduceLT, Nat.reduceEqDiff, forall_const]
        ((repeat' (with_reducible apply And.intro)) <;> try ((first | first | assumption | trivial | exact (fun hq => by rw [hq]; rfl) | exact i64_of (by omega) (by omega) | omega | (simp; done) | (simp; omega) | (intro hsc; have hs0 := hsc; (try have hsd := of_decide_eq_true hsc); (try simp only [Bool.not_eq_true', Bool.or_eq_false_iff, Bool.and_eq_true, Bool.or_eq_true, decide_eq_true_eq, decide_eq_false_iff_not] at hsc); (repeat' (with_reducible apply And.intro)) <;> (first | assumption | trivial | exact (fun hq => by rw [hq]; rfl) | exact i64_of (by omega) (by omega) | omega | (simp; done) | (simp; omega) | (intro hse; simp [hse, hs0]; done))))))
        all_goals first
          | exact fin_S (stm l (k + 1 + 1 + 1)) rfl ⟨_, _, rfl, by simp only [List.length_append, List.length_drop, List.length_take]; omega, rfl, by omega⟩
          | (simp only [List.length_append, List.length_drop, List.length_take]; omega)
      · intro _
        simp only [ZZ, Za, Zb, Zc, Zd, Ze, Zf, Zg, Zh, rd, AV.un, AV.unA, AV.ad, Zi, Zj, Zk, Zl, Zm, Zn, Zo, Zp, Zq, Zr, Zs, Zt, Zu, Zv, Zw, Zx, Zy, Zz, Zaa, Zab, Zac, Zad, wk1, wk, Zae, Zaf, Zag, Zah, Zai, Zaj, Zak, Zal, AV.kill, AO.kill, AV.thaw, AO.thaw, Zam, Zan, Zao, Zap, Zaq, Zar, Zas, Zat, Zau, ite_true, ite_false, reduceCtorEq, Nat.reduceAdd, Nat.reduceMul, Nat.reduceLeDiff, Nat.reduceLT, Nat.reduceEqDiff, forall_const]
        refine drg0 ?_
        simp only [ZZ, Za, Zb, Zc, Zd, Ze, Zf, Zg, Zh, rd, AV.un, AV.unA, AV.ad, Zi, Zj, Zk, Zl, Zm, Zn, Zo, Zp, Zq, Zr, Zs, Zt, Zu, Zv, Zw, Zx, Zy, Zz, Zaa, Zab, Zac, Zad, wk1, wk, Zae, Zaf, Zag, Zah, Zai, Zaj, Zak, Zal, AV.kill, AO.kill, AV.thaw, AO.thaw, Zam, Zan, Zao, Zap, Zaq, Zar, Zas, Zat, Zau, ite_true, ite_false, reduceCtorEq, Nat.reduceAdd, Nat.reduceMul, Nat.reduceLeDiff, Nat.reduceLT, Nat.reduceEqDiff, forall_const]
        ((repeat' (with_reducible apply And.intro)) <;> try ((first | first | assumption | trivial | exact (fun hq => by rw [hq]; rfl) | exact i64_of (by omega) (by omega) | omega | (simp; done) | (simp; omega) | (intro hsc; have hs0 := hsc; (try have hsd := of_decide_eq_true hsc); (try simp only [Bool.not_eq_true', Bool.or_eq_false_iff, Bool.and_eq_true, Bool.or_eq_true, decide_eq_true_eq, decide_eq_false_iff_not] at hsc); (repeat' (with_reducible apply And.intro)) <;> (first | assumption | trivial | exact (fun hq => by rw [hq]; rfl) | exact i64_of (by omega) (by omega) | omega | (simp; done) | (simp; omega) | (intro hse; simp [hse, hs0]; done))))))
        all_goals first
          | exact fin_S (stm l (k + 1 + 1 + 1)) rfl ⟨_, _, rfl, by simp only [List.length_append, List.length_drop, List.length_take]; omega, rfl, by omega⟩
          | (simp only [List.length_append, List.length_drop, List.length_take]; omega)
end
end Go.Proofs.Ytpddiepfolfnoaa

/- Sorting a row in place: the library's slices.SortFunc as a contract of the layer. -/
namespace Go.Proofs.Ytpddiepfolfnoaa
open Go.Shelf Go.RowKit Go.Lib Go.Sort
set_option linter.unusedVariables false
set_option linter.unusedSimpArgs false
set_option linter.defProp false

/-- Values that need no memory. -/
def flatD : PV → Bool
  | .int .. | .bool _ | .str _ => true
  | _ => false
def valD : PV → Value
  | .int k n => .int k n
  | .bool b => .bool b
  | .str s => .string ⟨s.toArray⟩
  | _ => undef
theorem PRep.valD {w : World} {U : Nat → Prop} {x : PV} {v : Value} (hf : flatD x = true) : PRep w U x v ↔ v = valD x := by
  cases x <;> simp_all [flatD, PRep, Go.Proofs.Ytpddiepfolfnoaa.valD]
theorem PRepL.valD {w : World} {U : Nat → Prop} : ∀ {xs : List PV} {vs : List Value}, (xs.all flatD) = true → (PRepL w U xs vs ↔ vs = xs.map Go.Proofs.Ytpddiepfolfnoaa.valD) := by
  intro xs
  induction xs with
  | nil => intro vs _; simp [PRepL]
  | cons x r ih =>
    intro vs h
    simp only [List.all_cons, Bool.and_eq_true] at h
    simp only [PRepL, List.map_cons]
    constructor
    · rintro ⟨v, s, rfl, h1, h2⟩
      rw [PRep.valD h.1] at h1
      rw [ih h.2] at h2
      rw [h1, h2]
    · rintro rfl
      exact ⟨_, _, rfl, (PRep.valD h.1).2 rfl, (ih h.2).2 rfl⟩
theorem valD_one {x : PV} (hf : flatD x = true) : (valD x).oneCell' = true := by
  cases x <;> first | rfl | cases hf

section
variable {P : Program} {ρ : Ren} {E : Envt} {α : Type} [Inhabited α]

def encD (encP : α → List PV) (x : α) : List Value := (encP x).map valD

theorem flatK_list (enc : α → List Value) (k : Nat) (hk : ∀ x, (enc x).length = k) (l : List α) : (flatK enc k l.toArray).toList = (l.map enc).flatten := by
  have hlen : ∀ l : List α, ((l.map enc).flatten).length = l.length * k := by
    intro l
    induction l with
    | nil => simp
    | cons x r ih => rw [List.map_cons, List.flatten_cons, List.length_append, ih, hk, List.length_cons, Nat.add_mul]; omega
  have hget : ∀ (l : List α) (t : Nat), t < l.length * k → ((l.map enc).flatten)[t]? = some (enc (l.toArray)[t / k]!)[t % k]! := by
    intro l
    induction l with
    | nil => intro t h; simp at h
    | cons x r ih =>
      intro t h
      have k0 : 0 < k := by rcases Nat.eq_zero_or_pos k with h' | h'; · subst h'; simp at h
                            · exact h'
      rw [List.map_cons, List.flatten_cons]
      by_cases ht : t < k
      · rw [List.getElem?_append_left (by rw [hk]; exact ht), Nat.div_eq_of_lt ht, Nat.mod_eq_of_lt ht]
        have : ((x :: r).toArray)[0]! = x := rfl
        rw [this, List.getElem?_eq_getElem (by rw [hk]; exact ht), getElem!_pos (enc x) t (by rw [hk]; exact ht)]
      · rw [List.getElem?_append_right (by rw [hk]; omega), hk, ih (t - k) (by rw [List.length_cons, Nat.add_mul] at h; omega)]
        obtain ⟨u, rfl⟩ : ∃ u, t = u + k := ⟨t - k, by omega⟩
        rw [Nat.add_sub_cancel, Nat.add_mod_right, Nat.add_div_right _ k0]
        congr 2
        simp
  apply List.ext_getElem?
  intro t
  by_cases ht : t < l.length * k
  · rw [hget l t ht, Array.getElem?_toList, Array.getElem?_eq_getElem (by rw [size_flatK]; simpa using ht)]
    have := get_flatK enc k l.toArray t (by simpa using ht)
    rw [getElem!_pos _ t (by rw [size_flatK]; simpa using ht)] at this
    rw [this]
  · rw [List.getElem?_eq_none (by rw [Array.length_toList, size_flatK]; simpa using ht), List.getElem?_eq_none (by rw [hlen]; omega)]

theorem sorted_pairwise (lt : α → α → Bool) (d : Array α) (n : Nat) (hn : d.size = n) (h : SortedIn lt 0 n d) : d.toList.Pairwise (fun u v => lt v u = false) := by
  rw [List.pairwise_iff_getElem]
  intro i j hi hj hij
  have := h i j (Nat.zero_le _) hij (by simpa [hn] using hj)
  rw [getElem!_pos d i (by simpa using hi), getElem!_pos d j (by simpa using hj)] at this
  simpa using this
theorem perm_list (d d' : Array α) (h : PermIn 0 d.size d d') : d'.toList.Perm d.toList ∧ d'.size = d.size := by
  refine ⟨?_, h.1⟩
  have := h.2.2
  rw [Array.extract_eq_self_of_le (Nat.le_refl _), Array.extract_eq_self_of_le (by rw [h.1]; exact Nat.le_refl _)] at this
  exact this

theorem sortFunc_row (L : SlLaysF0.n6 P ρ) (k : Nat) (aE : ∀ w, (isAgg (ρ.t 24)).run P w = .ok true w) (zE : ∀ w, (Go.sizeOf (ρ.t 24)).run P w = .ok k w) (et : TypeId) (encP : α → List PV) (hk : ∀ x, (encP x).length = k) (hf : ∀ x, (encP x).all flatD = true) (cf : α → α → Int) (hO : SWO (ltOf cf)) (g : Nat) (eg : ∀ args w, (callFunc g args).run P w = .ok (.enter g args) w)
    (hcmp : ∀ (w : World) (x y : α), Calls P g #[.agg (encD encP x).toArray, .agg (encD encP y).toArray] w fun e w' => e = .returned (.int .i64 (cf x y)) ∧ ∃ q os', w' = grow (w.drewN q) os') (l : List α) (hl : l.length ≤ 1000000000000) :
    RCall P E (ρ.f 6) et k (l.map encP) [.clo g []] (fun x es' => x = .tup [] ∧ ∃ l' : List α, es' = l'.map encP ∧ l'.Perm l ∧ l'.Pairwise (fun u v => ltOf cf v u = false)) := by
  intro w U vs v0 hU hE hEb hA hB
  obtain ⟨hB1, us, hrow, h1, hrep, hz⟩ := hB
  have hvs : vs = [.func (.func g) #[] #[]] := by
    simp only [PRepL, PRep] at hA
    obtain ⟨v, r, rfl, ⟨us, h1, rfl⟩, rfl⟩ := hA
    rw [h1]
  subst hvs
  have hall : ∀ l : List α, ((l.map encP).flatten).all flatD = true := by
    intro l
    induction l with
    | nil => rfl
    | cons x r ih => rw [List.map_cons, List.flatten_cons, List.all_append, hf, ih]; rfl
  have hmapf : ∀ l : List α, ((l.map encP).flatten).map valD = (l.map (encD encP)).flatten := by
    intro l
    induction l with
    | nil => rfl
    | cons x r ih => rw [List.map_cons, List.flatten_cons, List.map_append, ih]; rfl
  rw [PRepL.valD (hall l), hmapf] at hrep
  subst hrep
  have hke : ∀ x, (encD encP x).length = k := fun x => by simp [encD, hk]
  rw [List.length_map] at hrow
  rcases hrow.2 with ⟨rfl, hn⟩ | ⟨b, cap, cur, fz, rfl, hg, hn, hcap, hcs, htk, hfz⟩
  · have hl0 : l = [] := List.eq_nil_of_length_eq_zero hn
    subst hl0
    refine (AnyF.slices_SortFunc_none L none 0 (.func (.func g) #[] #[]) w).mono ?_
    rintro e w' ⟨rfl, rfl⟩
    exact ⟨_, .p (.tup []), .row et k [], rfl, ⟨_, _, rfl, rfl, rfl, [], rfl, .refl _, .nil⟩, ⟨[], rfl, by simp [PRepL]⟩, Grow.refl _ _, ⟨[], ⟨by simp, .inl ⟨rfl, rfl⟩⟩, by simp, by simp [PRepL], by simp⟩⟩
  · have hf0 : fz = (0, 0) := by rcases hfz with h | h; exact h; exact absurd h.1 (by simp)
    subst hf0
    have hb : b < w.heap.size := by
      rcases Nat.lt_or_ge b w.heap.size with h | h
      · exact h
      · rw [Array.getElem?_eq_none h] at hg; cases hg
    have hlk := flatK_list (encD encP) k hke l
    have hsz : (flatK (encD encP) k l.toArray).size = l.length * k := by rw [size_flatK]; simp
    have hH : HoldsK (encD encP) k w b 0 l.toArray := by
      intro j hj
      rw [hsz] at hj
      have e1 : cur[j]? = some ((flatK (encD encP) k l.toArray)[j]!) := by
        rw [getElem!_pos _ j (by rw [hsz]; exact hj), ← Array.getElem_toList, ← List.getElem?_eq_getElem, hlk, ← htk, List.getElem?_take_of_lt hj, Array.getElem?_toList]
      refine ⟨?_, ?_⟩
      · simp only [World.cell?, hg]
        simpa using e1
      · simp [World.frozen?, hg]
    have hcmp' : CmpLays P g #[] (encD encP) k cf b 0 l.toArray.size w := fun m os dk hs x y => by simpa using hcmp _ x y
    refine (AnyQ.slices_SortFunc L k aE zE (encD encP) hke (fun x v hv => by
      simp only [encD, List.mem_map] at hv
      obtain ⟨q, hq, rfl⟩ := hv
      exact valD_one (List.all_eq_true.1 (hf x) q hq)) cf hO g #[] b 0 cap l.toArray w eg hcmp' hH hb (by simp; omega)).mono ?_
    rintro e w' ⟨rfl, d', n, os, hperm, hsort, rfl⟩
    obtain ⟨hp1, hp2⟩ := perm_list _ _ hperm
    have hp2' : d'.size = l.length := by simpa using hp2
    have hds := sorted_pairwise (ltOf cf) d' l.toArray.size hp2 hsort
    have hblk : ∀ c, c ≠ b → c < w.heap.size → (sortWorldK (encD encP) k w b 0 n d' os).heap[c]? = w.heap[c]? := by
      intro c hc hlt
      simp only [sortWorldK, grow, putRowK, putRow, mapBlock]
      rw [Array.getElem?_append_left (by simpa using hlt), Array.getElem?_modify, if_neg (fun e => hc e.symm)]
      rfl
    have hnew : (sortWorldK (encD encP) k w b 0 n d' os).heap[b]? = some (.cells (putCells id 0 (flatK (encD encP) k d') cur) et (0, 0)) := by
      simp only [sortWorldK, grow, putRowK, putRow, mapBlock]
      rw [Array.getElem?_append_left (by simpa using hb), Array.getElem?_modify, if_pos rfl]
      show Option.map _ w.heap[b]? = _
      rw [hg]
      rfl
    have hGr : Grow w (sortWorldK (encD encP) k w b 0 n d' os) (fun c => blk (.slice (some ⟨b, 0, none⟩) l.length cap) = some c) := by
      refine ⟨rfl, rfl, rfl, ?_, fun c hc hne => hblk c (fun e => hne (by rw [e]; rfl)) hc⟩
      simp [sortWorldK, grow, putRowK, putRow, mapBlock]
    refine ⟨_, .p (.tup []), .row et k (d'.toList.map encP), rfl, ⟨_, _, rfl, rfl, rfl, d'.toList, rfl, by simpa using hp1, hds⟩, ⟨[], rfl, by simp [PRepL]⟩, hGr, ?_⟩
    have hlen' : ((d'.toList.map (encD encP)).flatten).length = l.length * k := by
      rw [← flatK_list (encD encP) k hke d'.toList, Array.length_toList, size_flatK]
      simp [hp2']
    have hdl : (d'.toList.map encP).length = l.length := by simp [hp2']
    refine ⟨(d'.toList.map (encD encP)).flatten, ⟨by rw [hlen', hdl], .inr ⟨b, cap, _, (0, 0), by rw [hdl], hnew, by rw [hdl]; exact hn, hcap, by simp [putCells, hcs], ?_, .inl rfl⟩⟩, ?_, ?_, ?_⟩
    · rw [hdl]
      have hle : l.length * k ≤ cur.size := by rw [hcs]; exact Nat.mul_le_mul_right _ hn
      have hfk := flatK_list (encD encP) k hke d'.toList
      apply List.ext_getElem?
      intro j
      by_cases hj : j < l.length * k
      · rw [List.getElem?_take_of_lt hj, Array.getElem?_toList, ← hfk, Array.getElem?_toList]
        have hsz' : (flatK (encD encP) k d').size = l.length * k := by rw [size_flatK, hp2']
        simp only [putCells, Array.getElem?_mapIdx, hsz']
        rw [Array.getElem?_eq_getElem (by omega), Option.map_some, if_pos ⟨Nat.zero_le _, by omega⟩, Nat.sub_zero, getElem!_pos _ j (by rw [hsz']; exact hj)]
        simp
      · rw [List.getElem?_eq_none (by rw [List.length_take]; omega), List.getElem?_eq_none (by rw [hlen']; omega)]
    · intro u hu
      obtain ⟨q, hq, hu⟩ := List.mem_flatten.1 hu
      obtain ⟨x, hx, rfl⟩ := List.mem_map.1 hq
      simp only [encD, List.mem_map] at hu
      obtain ⟨q, hq, rfl⟩ := hu
      exact valD_one (List.all_eq_true.1 (hf x) q hq)
    · rw [PRepL.valD (hall d'.toList), hmapf]
    · intro x hx
      obtain ⟨y, _, rfl⟩ := List.mem_map.1 hx
      exact hk y
end
end Go.Proofs.Ytpddiepfolfnoaa

/- From the library's contracts to contracts of the layer: values that need no memory. -/
namespace Go.Proofs.Ytpddiepfolfnoaa
open Go.RowKit
set_option linter.unusedVariables false
set_option linter.unusedSimpArgs false
set_option linter.defProp false
section
variable {P : Program} {E : Envt}
theorem grow_below {w w' : World} {O : Nat → Prop} (h : Below w.heap.size w w') : Grow w w' O := ⟨h.os, h.tape, h.output, h.size, fun b hb _ => h.block b hb⟩
theorem grow_same (w : World) (O : Nat → Prop) : Grow w w O := Grow.refl w O
theorem grow_by {w w' : World} (h : w.grownBy w' none) {O : Nat → Prop} : Grow w w' O := ⟨h.os, h.tape, h.output, h.size, fun b hb _ => h.block b hb (by simp)⟩

/-- Results: flat, or a tuple of flat ones. -/
def flatX : PV → Bool
  | .tup cs => cs.all flatD
  | x => flatD x
def valX : PV → Value
  | .tup cs => .tuple (cs.map valD).toArray
  | x => valD x
theorem PRep.valX {w : World} {U : Nat → Prop} {x : PV} (hf : flatX x = true) : PRep w U x (valX x) := by
  cases x with
  | tup cs => exact ⟨_, rfl, (PRepL.valD (by simpa [flatX] using hf)).2 rfl⟩
  | int k n => rfl
  | bool b => rfl
  | str s => rfl
  | _ => simp [flatX, flatD] at hf
/-- A contract whose arguments and result need no memory. -/
theorem pcall_flat {f : FuncId} {args : List PV} {r : PV} (ha : args.all flatD = true) (hr : flatX r = true) (h : ∀ w, E.ok w → Calls P f (args.map valD).toArray w fun e w' => e = .returned (valX r) ∧ Grow w w' (fun _ => False)) : PCall P E f args (· = r) := by
  intro w U vs hU hE hEb hA
  rw [PRepL.valD ha] at hA
  subst hA
  refine (h w hE).mono ?_
  rintro e w' ⟨rfl, hg⟩
  exact ⟨_, r, rfl, rfl, PRep.valX hr, hg⟩
end
end Go.Proofs.Ytpddiepfolfnoaa

/- From the walks' contracts to contracts of the layer: strings and fractions. -/
namespace Go.Proofs.Ytpddiepfolfnoaa
open Go.RowKit
set_option linter.unusedVariables false
set_option linter.unusedSimpArgs false
set_option linter.defProp false

section
variable {P : Program} {E : Envt} {w : World} {U : Nat → Prop}
theorem pcall_by {f : FuncId} {args : List PV} {us : List Value} {r : PV} (ha : ∀ w U vs, PRepL w U args vs → vs = us) (h : ∀ w, Calls P f us.toArray w fun e w' => ∃ v, e = .returned v ∧ (∀ U : Nat → Prop, (∀ b, U b → b < w.heap.size) → PRep w' U r v) ∧ w.grownBy w' none) : PCall P E f args (· = r) := by
  intro w U vs hU hE hEb hA
  have := ha w U vs hA
  subst this
  refine (h w).mono ?_
  rintro e w' ⟨v, rfl, hv, hg⟩
  exact ⟨v, r, rfl, rfl, hv U hU, grow_by hg⟩
theorem flat_args {args : List PV} (h : args.all flatD = true) : ∀ w U vs, PRepL w U args vs → vs = args.map valD := fun w U vs hA => (PRepL.valD h).1 hA

def frP (p : Nat × Nat) : PV := .agg [int p.1, int p.2]
def frI (n d : Int) : PV := .agg [int n, int d]
theorem frP_rep (p : Nat × Nat) : PRep w U (frP p) (frV2 p) := ⟨[_, _], rfl, _, _, rfl, rfl, _, _, rfl, rfl, rfl⟩
theorem frI_eq {n d : Int} {v : Value} (h : PRep w U (frI n d) v) : v = .agg #[.int .i64 n, .int .i64 d] := by
  obtain ⟨vs, rfl, v1, r, rfl, h1, v2, r2, rfl, h2, h3⟩ := h
  simp only [PRep, PRepL] at h1 h2 h3
  subst h1; subst h2; subst h3
  rfl
theorem repE_strs {b : Nat} : ∀ (l : List (List UInt8)) (off : Nat), (∀ i u, (l.map sv)[i]? = some u → w.cell? ⟨b, off + i, none⟩ = some u) → PRepE w U b 1 off (l.map fun x => [.str x])
  | [], off, h => trivial
  | x :: r, off, h => by
    refine ⟨rfl, ⟨⟨.string ⟨x.toArray⟩, by simpa [sv] using h 0 _ rfl, rfl, rfl⟩, trivial⟩, repE_strs r (off + 1) fun i u hu => ?_⟩
    have := h (i + 1) u (by simpa using hu)
    rwa [show off + (i + 1) = off + 1 + i from by omega] at this
theorem rd_strs {lo c : Nat} {A : Option Addr} {L : List (List UInt8)} (h : Rd w lo A (L.map sv)) (hU : ∀ b, U b → b < lo) (hc : L.length ≤ c) : PRep w U (strs L) (.slice A L.length c) := by
  refine ⟨A, c, by simp, by simpa using hc, fun hne => ?_⟩
  obtain ⟨b, off, e, h1, h2, h3⟩ := h (by intro e; apply hne; simp at e; subst e; rfl)
  exact ⟨b, off, e, h2, fun hu => by have := hU b hu; omega, repE_strs L off h3⟩
end

section
variable {E : Envt}
abbrev ba (s : List UInt8) : ByteArray := ⟨s.toArray⟩
theorem ba_sz (s : List UInt8) : (ba s).size = s.length := by simp [ba, ByteArray.size]
theorem Shingles_ok (s : List UInt8) (k : Int) (hs : s.length ≤ 1000000000) : PCall Try.prog E 16 [.str s, int k] (· = .tup [strs (shR (ba s) k), int (shErr (ba s) k)]) :=
  pcall_by (flat_args rfl) fun w => (Shingles_any (ba s) k w (by rw [ba_sz]; exact hs)).mono fun e w' ⟨A, c, h1, h2, h3, h4⟩ => ⟨_, h1, fun U hU => ⟨[_, _], rfl, _, _, rfl, rd_strs h3 hU h2, _, _, rfl, rfl, rfl⟩, h4⟩
theorem fr_tup {w : World} {U : Nat → Prop} (p : Nat × Nat) (x : Int) : PRep w U (.tup [.agg [int p.1, int p.2], int x]) (.tuple #[frV2 p, .int .i64 x]) := ⟨[_, _], rfl, _, _, rfl, frP_rep p, _, _, rfl, rfl, rfl⟩
theorem Resemblance_ok (s t : List UInt8) (k : Int) : PCall Try.prog E 17 [.str s, .str t, int k] (· = .tup [.agg [int (reF0 (ba s) (ba t) k).1, int (reF0 (ba s) (ba t) k).2], int (twoErr (ba s) (ba t) k)]) :=
  pcall_by (flat_args rfl) fun w => (Resemblance_any (ba s) (ba t) k w).mono fun e w' ⟨h1, h2⟩ => ⟨_, h1, fun U hU => fr_tup _ _, h2⟩
theorem Containment_ok (s t : List UInt8) (k : Int) : PCall Try.prog E 18 [.str s, .str t, int k] (· = .tup [.agg [int (coF0 (ba s) (ba t) k).1, int (coF0 (ba s) (ba t) k).2], int (twoErr (ba s) (ba t) k)]) :=
  pcall_by (flat_args rfl) fun w => (Containment_any (ba s) (ba t) k w).mono fun e w' ⟨h1, h2⟩ => ⟨_, h1, fun U hU => fr_tup _ _, h2⟩
theorem LikeOf_ok (s t : List UInt8) (m : Nat) (hs : s.length ≤ 20000) (ht : t.length ≤ 20000) (h1 : 1 ≤ m) (h2 : m ≤ 10) : PCall Try.prog E 22 [.str s, .str t, int m] (· = .agg [int (reF (ba s) (ba t) m).1, int (reF (ba s) (ba t) m).2]) :=
  pcall_by (flat_args rfl) fun w => (rLikeOf_any (ba s) (ba t) m w (by rw [ba_sz]; exact hs) (by rw [ba_sz]; exact ht) h1 h2).mono fun e w' ⟨h1, h2⟩ => ⟨_, h1, fun U hU => frP_rep _, h2⟩
theorem ContainmentOf_ok (s t : List UInt8) (m : Nat) (hs : s.length ≤ 20000) (ht : t.length ≤ 20000) (h1 : 1 ≤ m) (h2 : m ≤ 10) : PCall Try.prog E 23 [.str s, .str t, int m] (· = .agg [int (coF (ba s) (ba t) m).1, int (coF (ba s) (ba t) m).2]) :=
  pcall_by (flat_args rfl) fun w => (rContainmentOf_any (ba s) (ba t) m w (by rw [ba_sz]; exact hs) (by rw [ba_sz]; exact ht) h1 h2).mono fun e w' ⟨h1, h2⟩ => ⟨_, h1, fun U hU => frP_rep _, h2⟩
theorem ShinglesFault_ok (s : List UInt8) (k : Int) : PCall Try.prog E 19 [.str s, int k] (· = int (shErr (ba s) k)) :=
  pcall_by (flat_args rfl) fun w => (shFault_any (ba s) k w).mono fun e w' ⟨h1, h2⟩ => ⟨_, h1, fun U hU => rfl, by rw [← h2]; exact gb_refl _ _⟩
theorem ShinglesOf_ok (s : List UInt8) (k : Nat) (hs : s.length ≤ 20000) (h1 : 1 ≤ k) (h2 : k ≤ 10) : PCall Try.prog E 21 [.str s, int k] (· = strs (shg s k)) :=
  pcall_by (flat_args rfl) fun w => (rshingles_any (ba s) k w (by rw [ba_sz]; omega) h1 h2).mono fun e w' ⟨A, c, h1, h2, h3, h4⟩ => ⟨_, h1, fun U hU => rd_strs h3 hU h2, h4⟩
theorem FractionRight_ok (n d : Int) : PCall Try.prog E 27 [.agg [int n, int d]] (· = .bool (rightF n d)) :=
  pcall_by (us := [.agg #[.int .i64 n, .int .i64 d]]) (fun w U vs ⟨v, r, e, h1, h2⟩ => by rw [e, frI_eq h1, show r = [] from h2]) fun w => (rright_any n d w).mono fun e w' ⟨h1, h2⟩ => ⟨_, h1, fun U hU => rfl, h2⟩
theorem two_frac {w : World} {U : Nat → Prop} {n d m c : Int} {vs : List Value} (h : PRepL w U [.agg [int n, int d], .agg [int m, int c]] vs) : vs = [.agg #[.int .i64 n, .int .i64 d], .agg #[.int .i64 m, .int .i64 c]] := by
  obtain ⟨v, r, e, h1, v2, r2, e2, h2, h3⟩ := h
  rw [e, e2, frI_eq h1, frI_eq h2, show r2 = [] from h3]
theorem CompareOf_ok (n d m c : Int) (h1 : rightF n d = true) (h2 : rightF m c = true) : PCall Try.prog E 28 [.agg [int n, int d], .agg [int m, int c]] (· = int (cmpI (n * c) (m * d))) :=
  pcall_by (fun w U vs h => two_frac h) fun w => (compareOf_any n d m c w h1 h2).mono fun e w' ⟨h1, h2⟩ => ⟨_, h1, fun U hU => rfl, h2⟩
theorem Compare_ok (n d m c : Int) : PCall Try.prog E 26 [.agg [int n, int d], .agg [int m, int c]] (fun y => ∃ r x, y = .tup [int r, int x] ∧ (rightF n d = true → rightF m c = true → r = cmpI (n * c) (m * d) ∧ x = 0) ∧ ((rightF n d = false ∨ rightF m c = false) → x = 3)) := by
  intro w U vs hU hE hEb hA
  have := two_frac hA
  subst this
  refine (compare_any n d m c w).mono ?_
  rintro e w' ⟨r, x, rfl, hg, h1, h2⟩
  exact ⟨_, _, rfl, ⟨r, x, rfl, h1, h2⟩, ⟨[_, _], rfl, _, _, rfl, rfl, _, _, rfl, rfl, rfl⟩, grow_by hg⟩
theorem nears_ok : PCall Try.prog E 14 [] (· = .bool true) :=
  pcall_by (us := []) (fun w U vs h => h) fun w => (nears_any w).mono fun e w' ⟨h1, h2⟩ => ⟨_, h1, fun U hU => rfl, h2⟩
end
end Go.Proofs.Ytpddiepfolfnoaa

/- slices.Equal of strings. -/
namespace Go.Proofs.Ytpddiepfolfnoaa
set_option linter.unusedVariables false
set_option linter.unusedSimpArgs false
set_option linter.defProp false
/- slices.Equal[[]string,string] -/
def ir_slices_Equal_string_string_L0 : IC :=
  (.seq (.reg [⟨some 14, .bin .lss (.t 13) (.t 12), none⟩])
    (.seq (.cond (.t 14) .skip (.exit 0))
    (.seq (.block 1 (.seq (.reg [⟨some 15, .mov (.t 13), none⟩,
      ⟨some 5, .mov (.t 15), none⟩])
    (.seq (.drg [⟨some 16, .mov (.t 0), none⟩,
      ⟨some 17, .mov (.t 5), none⟩,
      ⟨some 18, .ixa 1 (.t 16) (.t 17), none⟩,
      ⟨some 19, .ld 1 false (.t 18), none⟩,
      ⟨some 20, .mov (.t 1), none⟩,
      ⟨some 21, .mov (.t 5), none⟩,
      ⟨some 22, .ixa 1 (.t 20) (.t 21), none⟩,
      ⟨some 23, .ld 1 false (.t 22), none⟩,
      ⟨some 24, .bin .neq (.t 19) (.t 23), none⟩])
    (.cond (.t 24) (.seq (.reg [⟨some 4, .mov (.c (.bool false)), none⟩])
    .ret) .skip))))
    (.reg [⟨some 25, .bin .add (.t 13) (.c (.int .i64 1)), none⟩,
      ⟨some 13, .mov (.t 25), none⟩]))))
def ir_slices_Equal_string_string : IC :=
  (.seq (.reg [⟨some 4, .mov (.c (.bool false)), none⟩])
    (.seq (.seq (.reg [⟨some 6, .mov (.t 0), none⟩,
      ⟨some 7, .len (.t 6), none⟩,
      ⟨some 8, .mov (.t 1), none⟩,
      ⟨some 9, .len (.t 8), none⟩,
      ⟨some 10, .bin .neq (.t 7) (.t 9), none⟩])
    (.cond (.t 10) (.seq (.reg [⟨some 4, .mov (.c (.bool false)), none⟩])
    .ret) .skip))
    (.seq (.seq (.reg [⟨some 11, .mov (.t 0), none⟩,
      ⟨some 12, .len (.t 11), none⟩,
      ⟨some 13, .mov (.c (.int .i64 0)), none⟩])
    (.block 0 (.loop ir_slices_Equal_string_string_L0)))
    (.seq (.reg [⟨some 4, .mov (.c (.bool true)), none⟩])
    .ret))))
def rs_slices_Equal_string_string : List IRes := [.t 4]
theorem ck_slices_Equal_string_string : chkF Try.prog Try.f20 ir_slices_Equal_string_string rs_slices_Equal_string_string 26 = true := by kernel_rfl

section
variable {E : Envt}
theorem EqualT_ok (l m : List (List UInt8)) (hl : l.length ≤ 1000000000) : PCall Try.prog E 20 [strs l, strs m] (· = .bool (decide (l = m))) := by
  refine pcallF mixed Try.func20 ck_slices_Equal_string_string ?_
  simp only [a0, l0, OS.ao, List.map_cons, List.map_nil, List.length_cons, List.length_nil, List.cons_append, List.nil_append, Nat.reduceSub, Nat.reduceAdd, List.replicate_succ, List.replicate_zero, ir_slices_Equal_string_string, rs_slices_Equal_string_string, ZZ, Za, Zb, Zc, Zd, Ze, Zf, Zg, Zh, rd, AV.un, AV.unA, AV.ad, Zi, Zj, Zk, Zl, Zm, Zn, Zo, Zp, Zq, Zr, Zs, Zt, Zu, Zv, Zw, Zx, Zy, Zz, Zaa, Zab, Zac, Zad, wk1, wk, Zae, Zaf, Zag, Zah, Zai, Zaj, Zak, Zal, AV.kill, AO.kill, AV.thaw, AO.thaw, Zam, Zan, Zao, Zap, Zaq, Zar, Zas, Zat, Zau, ite_true, ite_false, reduceCtorEq, Nat.reduceAdd, Nat.reduceMul, Nat.reduceLeDiff, Nat.reduceLT, Nat.reduceEqDiff, forall_const]
  simp only [strs, ZZ, Za, Zb, Zc, Zd, Ze, Zf, Zg, Zh, rd, AV.un, AV.unA, AV.ad, Zi, Zj, Zk, Zl, Zm, Zn, Zo, Zp, Zq, Zr, Zs, Zt, Zu, Zv, Zw, Zx, Zy, Zz, Zaa, Zab, Zac, Zad, wk1, wk, Zae, Zaf, Zag, Zah, Zai, Zaj, Zak, Zal, AV.kill, AO.kill, AV.thaw, AO.thaw, Zam, Zan, Zao, Zap, Zaq, Zar, Zas, Zat, Zau, ite_true, ite_false, reduceCtorEq, Nat.reduceAdd, Nat.reduceMul, Nat.reduceLeDiff, Nat.reduceLT, Nat.reduceEqDiff, forall_const]
  have hln : (l.map fun x => [PV.str x]).length = l.length := by simp
  have hlm : (m.map fun x => [PV.str x]).length = m.length := by simp
  have hget : ∀ k x, l[k]? = some x → (l.map fun x => [PV.str x]).getD k [] = [.str x] := fun k p hp => getD_map hp
  have hgem : ∀ k x, m[k]? = some x → (m.map fun x => [PV.str x]).getD k [] = [.str x] := fun k p hp => getD_map hp
  generalize (l.map fun x => [PV.str x]) = es at *
  generalize (m.map fun x => [PV.str x]) = fs at *
  simp only [ZZ, Za, Zb, Zc, Zd, Ze, Zf, Zg, Zh, rd, AV.un, AV.unA, AV.ad, Zi, Zj, Zk, Zl, Zm, Zn, Zo, Zp, Zq, Zr, Zs, Zt, Zu, Zv, Zw, Zx, Zy, Zz, Zaa, Zab, Zac, Zad, wk1, wk, Zae, Zaf, Zag, Zah, Zai, Zaj, Zak, Zal, AV.kill, AO.kill, AV.thaw, AO.thaw, Zam, Zan, Zao, Zap, Zaq, Zar, Zas, Zat, Zau, ite_true, ite_false, reduceCtorEq, Nat.reduceAdd, Nat.reduceMul, Nat.reduceLeDiff, Nat.reduceLT, Nat.reduceEqDiff, forall_const, hln, hlm]
  refine br ?_ ?_
  · intro h
    have : ¬ l = m := by rintro rfl; simp at h
    simp only [ZZ, Za, Zb, Zc, Zd, Ze, Zf, Zg, Zh, rd, AV.un, AV.unA, AV.ad, Zi, Zj, Zk, Zl, Zm, Zn, Zo, Zp, Zq, Zr, Zs, Zt, Zu, Zv, Zw, Zx, Zy, Zz, Zaa, Zab, Zac, Zad, wk1, wk, Zae, Zaf, Zag, Zah, Zai, Zaj, Zak, Zal, AV.kill, AO.kill, AV.thaw, AO.thaw, Zam, Zan, Zao, Zap, Zaq, Zar, Zas, Zat, Zau, ite_true, ite_false, reduceCtorEq, Nat.reduceAdd, Nat.reduceMul, Nat.reduceLeDiff, Nat.reduceLT, Nat.reduceEqDiff, forall_const]
    simp [this]
  intro h
  have hlen : l.length = m.length := by have : (l.length : Int) = m.length := by simpa using h
                                        omega
  simp only [ZZ, Za, Zb, Zc, Zd, Ze, Zf, Zg, Zh, rd, AV.un, AV.unA, AV.ad, Zi, Zj, Zk, Zl, Zm, Zn, Zo, Zp, Zq, Zr, Zs, Zt, Zu, Zv, Zw, Zx, Zy, Zz, Zaa, Zab, Zac, Zad, wk1, wk, Zae, Zaf, Zag, Zah, Zai, Zaj, Zak, Zal, AV.kill, AO.kill, AV.thaw, AO.thaw, Zam, Zan, Zao, Zap, Zaq, Zar, Zas, Zat, Zau, ite_true, ite_false, reduceCtorEq, Nat.reduceAdd, Nat.reduceMul, Nat.reduceLeDiff, Nat.reduceLT, Nat.reduceEqDiff, forall_const]
  refine loop_intro (fun n fr L => ∃ (k : Nat), k ≤ l.length ∧ n = l.length - k ∧ (l.take k = m.take k) ∧ fr = [.p (.sl 1 es), .p (.sl 1 fs), .any, .any, .any, .any, .any, .any, .any, .any, .any, .any, .p (int (l.length : Nat)), .p (int (k : Nat)), .any, .any, .any, .any, .any, .any, .any, .any, .any, .any, .any, .any] ∧ L = []) (l.length) [.p (.sl 1 es), .p (.sl 1 fs), .any, .any, .any, .any, .any, .any, .any, .any, .any, .any, .p (int (l.length : Nat)), .p (int (0 : Nat)), .any, .any, .any, .any, .any, .any, .any, .any, .any, .any, .any, .any] [] (by simp only [hln, ZZ, Za, Zb, Zc, Zd, Ze, Zf, Zg, Zh, rd, AV.un, AV.unA, AV.ad, Zi, Zj, Zk, Zl, Zm, Zn, Zo, Zp, Zq, Zr, Zs, Zt, Zu, Zv, Zw, Zx, Zy, Zz, Zaa, Zab, Zac, Zad, wk1, wk, Zae, Zaf, Zag, Zah, Zai, Zaj, Zak, Zal, AV.kill, AO.kill, AV.thaw, AO.thaw, Zam, Zan, Zao, Zap, Zaq, Zar, Zas, Zat, Zau, ite_true, ite_false, reduceCtorEq, Nat.reduceAdd, Nat.reduceMul, Nat.reduceLeDiff, Nat.reduceLT, Nat.reduceEqDiff, forall_const]; try trivial) (by (simp only [ZZ, Za, Zb, Zc, Zd, Ze, Zf, Zg, Zh, rd, AV.un, AV.unA, AV.ad, Zi, Zj, Zk, Zl, Zm, Zn, Zo, Zp, Zq, Zr, Zs, Zt, Zu, Zv, Zw, Zx, Zy, Zz, Zaa, Zab, Zac, Zad, wk1, wk, Zae, Zaf, Zag, Zah, Zai, Zaj, Zak, Zal, AV.kill, AO.kill, AV.thaw, AO.thaw, Zam, Zan, Zao, Zap, Zaq, Zar, Zas, Zat, Zau, ite_true, ite_false, reduceCtorEq, Nat.reduceAdd, Nat.reduceMul, Nat.reduceLeDiff, Nat.reduceLT, Nat.reduceEqDiff, forall_const]; try trivial)) ⟨0, by omega, by omega, by simp, rfl, rfl⟩ ?_
  rintro n fr L ⟨k, hk, rfl, hf, rfl, rfl⟩
  simp only [ir_slices_Equal_string_string_L0, ZZ, Za, Zb, Zc, Zd, Ze, Zf, Zg, Zh, rd, AV.un, AV.unA, AV.ad, Zi, Zj, Zk, Zl, Zm, Zn, Zo, Zp, Zq, Zr, Zs, Zt, Zu, Zv, Zw, Zx, Zy, Zz, Zaa, Zab, Zac, Zad, wk1, wk, Zae, Zaf, Zag, Zah, Zai, Zaj, Zak, Zal, AV.kill, AO.kill, AV.thaw, AO.thaw, Zam, Zan, Zao, Zap, Zaq, Zar, Zas, Zat, Zau, ite_true, ite_false, reduceCtorEq, Nat.reduceAdd, Nat.reduceMul, Nat.reduceLeDiff, Nat.reduceLT, Nat.reduceEqDiff, forall_const]
  refine br ?_ ?_
  · intro h
    have hlt : k < l.length := by have := of_decide_eq_true h; omega
    obtain ⟨x, hx⟩ : ∃ x, l[k]? = some x := ⟨_, List.getElem?_eq_getElem hlt⟩
    obtain ⟨y, hy⟩ : ∃ y, m[k]? = some y := ⟨_, List.getElem?_eq_getElem (by omega)⟩
    have hg := hget k x hx
    have hg2 := hgem k y hy
    simp only [ZZ, Za, Zb, Zc, Zd, Ze, Zf, Zg, Zh, rd, AV.un, AV.unA, AV.ad, Zi, Zj, Zk, Zl, Zm, Zn, Zo, Zp, Zq, Zr, Zs, Zt, Zu, Zv, Zw, Zx, Zy, Zz, Zaa, Zab, Zac, Zad, wk1, wk, Zae, Zaf, Zag, Zah, Zai, Zaj, Zak, Zal, AV.kill, AO.kill, AV.thaw, AO.thaw, Zam, Zan, Zao, Zap, Zaq, Zar, Zas, Zat, Zau, ite_true, ite_false, reduceCtorEq, Nat.reduceAdd, Nat.reduceMul, Nat.reduceLeDiff, Nat.reduceLT, Nat.reduceEqDiff, forall_const]
    refine drg0 ?_
    simp only [ZZ, Za, Zb, Zc, Zd, Ze, Zf, Zg, Zh, rd, AV.un, AV.unA, AV.ad, Zi, Zj, Zk, Zl, Zm, Zn, Zo, Zp, Zq, Zr, Zs, Zt, Zu, Zv, Zw, Zx, Zy, Zz, Zaa, Zab, Zac, Zad, wk1, wk, Zae, Zaf, Zag, Zah, Zai, Zaj, Zak, Zal, AV.kill, AO.kill, AV.thaw, AO.thaw, Zam, Zan, Zao, Zap, Zaq, Zar, Zas, Zat, Zau, ite_true, ite_false, reduceCtorEq, Nat.reduceAdd, Nat.reduceMul, Nat.reduceLeDiff, Nat.reduceLT, Nat.reduceEqDiff, forall_const, hg, hg2, hln, hlm]
    ((repeat' (with_reducible apply And.intro)) <;> try ((first | first | assumption | trivial | exact (fun hq => by rw [hq]; rfl) | exact i64_of (by omega) (by omega) | omega | (simp; done) | (simp; omega) | (intro hsc; have hs0 := hsc; (try have hsd := of_decide_eq_true hsc); (try simp only [Bool.not_eq_true', Bool.or_eq_false_iff, Bool.and_eq_true, Bool.or_eq_true, decide_eq_true_eq, decide_eq_false_iff_not] at hsc); (repeat' (with_reducible apply And.intro)) <;> (first | assumption | trivial | exact (fun hq => by rw [hq]; rfl) | exact i64_of (by omega) (by omega) | omega | (simp; done) | (simp; omega) | (intro hse; simp [hse, hs0]; done))))))
    refine br ?_ ?_
    · intro h2
      have : ¬ l = m := by
        rintro rfl
        rw [hx] at hy
        cases hy
        simp at h2
      simp only [ZZ, Za, Zb, Zc, Zd, Ze, Zf, Zg, Zh, rd, AV.un, AV.unA, AV.ad, Zi, Zj, Zk, Zl, Zm, Zn, Zo, Zp, Zq, Zr, Zs, Zt, Zu, Zv, Zw, Zx, Zy, Zz, Zaa, Zab, Zac, Zad, wk1, wk, Zae, Zaf, Zag, Zah, Zai, Zaj, Zak, Zal, AV.kill, AO.kill, AV.thaw, AO.thaw, Zam, Zan, Zao, Zap, Zaq, Zar, Zas, Zat, Zau, ite_true, ite_false, reduceCtorEq, Nat.reduceAdd, Nat.reduceMul, Nat.reduceLeDiff, Nat.reduceLT, Nat.reduceEqDiff, forall_const]
      simp [this]
    · intro h2
      have hxy : x = y := by simpa using h2
      simp only [ZZ, Za, Zb, Zc, Zd, Ze, Zf, Zg, Zh, rd, AV.un, AV.unA, AV.ad, Zi, Zj, Zk, Zl, Zm, Zn, Zo, Zp, Zq, Zr, Zs, Zt, Zu, Zv, Zw, Zx, Zy, Zz, Zaa, Zab, Zac, Zad, wk1, wk, Zae, Zaf, Zag, Zah, Zai, Zaj, Zak, Zal, AV.kill, AO.kill, AV.thaw, AO.thaw, Zam, Zan, Zao, Zap, Zaq, Zar, Zas, Zat, Zau, ite_true, ite_false, reduceCtorEq, Nat.reduceAdd, Nat.reduceMul, Nat.reduceLeDiff, Nat.reduceLT, Nat.reduceEqDiff, forall_const]
      ((repeat' (with_reducible apply And.intro)) <;> try ((first | first | assumption | trivial | exact (fun hq => by rw [hq]; rfl) | exact i64_of (by omega) (by omega) | omega | (simp; done) | (simp; omega) | (intro hsc; have hs0 := hsc; (try have hsd := of_decide_eq_true hsc); (try simp only [Bool.not_eq_true', Bool.or_eq_false_iff, Bool.and_eq_true, Bool.or_eq_true, decide_eq_true_eq, decide_eq_false_iff_not] at hsc); (repeat' (with_reducible apply And.intro)) <;> (first | assumption | trivial | exact (fun hq => by rw [hq]; rfl) | exact i64_of (by omega) (by omega) | omega | (simp; done) | (simp; omega) | (intro hse; simp [hse, hs0]; done))))))
      refine end_round (l.length - (k + 1)) [.p (.sl 1 es), .p (.sl 1 fs), .any, .any, .any, .any, .any, .any, .any, .any, .any, .any, .p (int (l.length : Nat)), .p (int ((k + 1) : Nat)), .any, .any, .any, .any, .any, .any, .any, .any, .any, .any, .any, .any] [] (by omega) (by (simp only [ZZ, Za, Zb, Zc, Zd, Ze, Zf, Zg, Zh, rd, AV.un, AV.unA, AV.ad, Zi, Zj, Zk, Zl, Zm, Zn, Zo, Zp, Zq, Zr, Zs, Zt, Zu, Zv, Zw, Zx, Zy, Zz, Zaa, Zab, Zac, Zad, wk1, wk, Zae, Zaf, Zag, Zah, Zai, Zaj, Zak, Zal, AV.kill, AO.kill, AV.thaw, AO.thaw, Zam, Zan, Zao, Zap, Zaq, Zar, Zas, Zat, Zau, ite_true, ite_false, reduceCtorEq, Nat.reduceAdd, Nat.reduceMul, Nat.reduceLeDiff, Nat.reduceLT, Nat.reduceEqDiff, forall_const]; try trivial)) (by (simp only [ZZ, Za, Zb, Zc, Zd, Ze, Zf, Zg, Zh, rd, AV.un, AV.unA, AV.ad, Zi, Zj, Zk, Zl, Zm, Zn, Zo, Zp, Zq, Zr, Zs, Zt, Zu, Zv, Zw, Zx, Zy, Zz, Zaa, Zab, Zac, Zad, wk1, wk, Zae, Zaf, Zag, Zah, Zai, Zaj, Zak, Zal, AV.kill, AO.kill, AV.thaw, AO.thaw, Zam, Zan, Zao, Zap, Zaq, Zar, Zas, Zat, Zau, ite_true, ite_false, reduceCtorEq, Nat.reduceAdd, Nat.reduceMul, Nat.reduceLeDiff, Nat.reduceLT, Nat.reduceEqDiff, forall_const]; try trivial)) ⟨k + 1, by omega, rfl, by rw [List.take_add_one, List.take_add_one, hf, hx, hy, hxy], rfl, rfl⟩
  · intro h
    have hge : l.length ≤ k := by have := of_decide_eq_false h; omega
    simp only [ZZ, Za, Zb, Zc, Zd, Ze, Zf, Zg, Zh, rd, AV.un, AV.unA, AV.ad, Zi, Zj, Zk, Zl, Zm, Zn, Zo, Zp, Zq, Zr, Zs, Zt, Zu, Zv, Zw, Zx, Zy, Zz, Zaa, Zab, Zac, Zad, wk1, wk, Zae, Zaf, Zag, Zah, Zai, Zaj, Zak, Zal, AV.kill, AO.kill, AV.thaw, AO.thaw, Zam, Zan, Zao, Zap, Zaq, Zar, Zas, Zat, Zau, ite_true, ite_false, reduceCtorEq, Nat.reduceAdd, Nat.reduceMul, Nat.reduceLeDiff, Nat.reduceLT, Nat.reduceEqDiff, forall_const]
    rw [List.take_of_length_le hge, List.take_of_length_le (by omega)] at hf
    simp [hf]
end
end Go.Proofs.Ytpddiepfolfnoaa

/- From a law's contract to the walk that the row's proof wants. -/
namespace Go.Proofs.Ytpddiepfolfnoaa
open Go.RowKit
set_option linter.unusedVariables false
set_option linter.unusedSimpArgs false
set_option linter.defProp false

theorem repE_ints {w : World} {U : Nat → Prop} {b : Nat} : ∀ (l : List Int) (off : Nat), (∀ i, i < l.length → w.cell? ⟨b, off + i, none⟩ = some (.int .i64 (l.getD i 0))) → PRepE w U b 1 off (l.map fun x => [.int .i64 x])
  | [], off, h => trivial
  | x :: r, off, h => by
    refine ⟨rfl, ⟨⟨_, by simpa using h 0 (by simp), rfl, rfl⟩, trivial⟩, repE_ints r (off + 1) (fun i hi => ?_)⟩
    have := h (i + 1) (by simpa using hi)
    rw [show off + 1 + i = off + (i + 1) from by omega]
    simpa using this

theorem isRow_rep {w : World} {a : Option Addr} {len cap : Nat} {zs : List Int} (h : IsRow .i64 w a len cap zs) : PRep w (fun _ => False) (ints (zs.take len)) (.slice a len cap) ∧ (zs.take len).length ≤ 9223372036854775807 := by
  rcases h with ⟨rfl, rfl, rfl, rfl⟩ | ⟨x, rfl, h1, h2, h3, h4, _⟩
  · exact ⟨⟨none, 0, rfl, by simp, fun h => by simp at h⟩, by simp⟩
  · have hl : (zs.take len).length = len := by rw [List.length_take]; omega
    refine ⟨⟨some x, cap, by rw [List.length_map, hl], by rw [List.length_map, hl]; exact h1, fun hne => ?_⟩, by rw [hl]; unfold maxLen at h2; omega⟩
    have h0 : 0 < len := by
      rcases Nat.eq_zero_or_pos len with h' | h'
      · subst h'; simp at hne
      · exact h'
    obtain ⟨b, off, spot⟩ := x
    have hc := h4 0 (by omega)
    have hspot : spot = none := by simpa [Addr.add] using World.cell?_spot hc
    subst hspot
    have hb : b < w.heap.size := by
      have := World.block_lt_of_cell? w _ hc
      simpa [Addr.add] using this
    refine ⟨b, off, rfl, hb, fun h => h, repE_ints _ _ (fun i hi => ?_)⟩
    rw [hl] at hi
    have := h4 i (by omega)
    rw [addr_addA] at this
    rw [this]
    congr 2
    rw [List.getD_eq_getElem?_getD, List.getD_eq_getElem?_getD, List.getElem?_take_of_lt hi]

theorem walk_of {P : Program} {E : Envt} {f : FuncId} (h : ∀ z : List Int, z.length ≤ 9223372036854775807 → PCall P E f [ints z] (· = .bool true)) (a0 : Option Addr) (len0 cap0 : Nat) (z0 : List Int) (w : World) (h0 : IsRow .i64 w a0 len0 cap0 z0) (hok : E.ok w) (hbl : ∀ b, E.bl b → b < w.heap.size) :
    Calls P f #[.slice a0 len0 cap0] w fun e w' => e = .returned (.bool true) ∧ Below w.heap.size w w' := by
  obtain ⟨h1, h2⟩ := isRow_rep h0
  refine (h _ h2 w (fun _ => False) [.slice a0 len0 cap0] (fun _ h => h.elim) hok hbl ⟨_, [], rfl, h1, rfl⟩).mono ?_
  rintro e w' ⟨v, x, rfl, rfl, hv, hg⟩
  refine ⟨by rw [PRep.bool_eq hv], ⟨hg.os, hg.tape, hg.output, hg.size, fun k hk => hg.block k hk (fun h => h)⟩⟩
/-- No variable of the library is read. -/
def E1 : Envt where
  ok _ := True
  bl _ := False
  mono _ _ _ _ := trivial
end Go.Proofs.Ytpddiepfolfnoaa
