
/- Own texts, put together: B1 G1 G2 G3 G4 B2 B3 B4 B5 B6 B7. -/
import Derived.Test.YtndjmidmfmcbkaaDoorM3
import Derived.Test.YtndjmidmfmcbkaaDoorProg
import Derived.KernelRfl
import Derived.Test.YtndjmidmfmcbkaaDoorRep
/- Contracts of the smallest functions, and of the maker's stream. -/
namespace Go.Proofs.YtndjmidmfmcbkaaDoor
set_option linter.unusedVariables false
set_option linter.unusedSimpArgs false
set_option linter.defProp false

theorem mixed : Tryd.prog.follows .mixedOrders = true := by kernel_rfl
abbrev int (n : Int) : PV := .int .i64 n
def ints (l : List Int) : PV := .sl 1 (l.map fun x => [.int .i64 x])
def strs (l : List (List UInt8)) : PV := .sl 1 (l.map fun x => [.str x])
theorem getD_map {α β : Type} {f : α → β} {l : List α} {k : Nat} {x : α} {d : β} (h : l[k]? = some x) : (l.map f).getD k d = f x := by
  simp [List.getD, h]
theorem i64_of {n : Int} (h1 : -9223372036854775808 ≤ n) (h2 : n ≤ 9223372036854775807) : I64 n := ⟨h1, h2⟩

theorem Zl0 {α : Type} {n : Nat} : ([] : List α).take n = [] := by simp
theorem Zl1 {α : Type} {n : Nat} : ([] : List α).drop n = [] := by simp
theorem Zl2 {α : Type} {l : List α} : l ++ [] = l := by simp
theorem Zl3 {p : Prop} : (True ∧ p) = p := by simp
theorem Zl4 {p : Prop} : (p ∧ True) = p := by simp
theorem Zl5 {α : Type} {h : Decidable True} {a b : α} : (if True then a else b) = a := by simp
theorem Zl6 {α : Type} {h : Decidable False} {a b : α} : (if False then a else b) = b := by simp
theorem Zl7 {b : Bool} : (b && true) = b := by simp
theorem Zl8 {b : Bool} : (true && b) = b := rfl
theorem Zl9 : (!true) = false := rfl
theorem Zl10 : (!false) = true := rfl
theorem Zl11 {α : Type} {a b : α} : (bif true then a else b) = a := rfl
theorem Zl12 {α : Type} {a b : α} : (bif false then a else b) = b := rfl
theorem Zl13 {p : Prop} : (p → p) = True := by simp
theorem Zl14 {p : Prop} : (p ∧ p) = p := by simp
theorem Zl15 {p : Prop} : (True → p) = p := by simp
theorem Zl16 {p : Prop} : (p → True) = True := by simp
theorem Zl17 {n : Nat} : 0 + n = n := by simp
theorem Zl18 {n : Nat} : n + 0 = n := rfl
theorem Zl19 {b c : Bool} : (bif b then c else false) = (b && c) := by simp
theorem Zl20 {b c : Bool} : (bif b then true else c) = (b || c) := by simp
theorem Zl21 {n : Nat} : ((n : Int)).toNat = n := rfl
theorem Zl22 : (false = true) = False := by simp
theorem Zl23 {α : Type} {a b : α} : (a ≠ b) = ¬ (a = b) := by simp
theorem Zl24 : (¬ False) = True := by simp
theorem Zl25 : (¬ True) = False := by simp
theorem Zl26 {a b : Nat} : (Key.l a = Key.l b) = (a = b) := by simp
theorem Zl27 {a b : Nat} : (Key.b a = Key.b b) = (a = b) := by simp
theorem Zl28 {α : Type} {a : α} {l : List α} {d : α} : (a :: l).getD 0 d = a := rfl
theorem Zl29 {α : Type} {a : α} {l : List α} {d : α} {n : Nat} : (a :: l).getD (n + 1) d = l.getD n d := rfl
theorem Zl30 {α : Type} {d : α} {n : Nat} : ([] : List α).getD n d = d := rfl
theorem Zl31 {α : Type} {a : α} {l : List α} : (a :: l)[0]? = some a := rfl
theorem Zl32 {α : Type} {a : α} {l : List α} {n : Nat} : (a :: l)[n + 1]? = l[n]? := rfl
theorem Zl33 {α : Type} {a b : α} {l : List α} : (a :: l).set 0 b = b :: l := rfl
theorem Zl34 {α : Type} {a b : α} {l : List α} {n : Nat} : (a :: l).set (n + 1) b = a :: l.set n b := rfl
theorem Zl35 {α β : Type} {f : α → β} {a : α} {l : List α} : (a :: l).map f = f a :: l.map f := rfl
theorem Zl36 {α β : Type} {f : α → β} : [].map f = [] := rfl
theorem Zl37 {α : Type} {a : α} {l : List α} : (a :: l).length = l.length + 1 := rfl
theorem Zl38 {α : Type} : ([] : List α).length = 0 := rfl
theorem Zl39 {α : Type} {p : α → Bool} {a : α} {l : List α} : (a :: l).all p = (p a && l.all p) := rfl
theorem Zl40 {α : Type} {p : α → Bool} : [].all p = true := rfl
theorem Zl41 {α : Type} {a : α} {l : List α} {n : Nat} : (a :: l).take (n + 1) = a :: l.take n := rfl
theorem Zl42 {α : Type} {l : List α} : l.take 0 = [] := rfl
theorem Zl43 {α : Type} {a : α} {l : List α} {n : Nat} : (a :: l).drop (n + 1) = l.drop n := rfl
theorem Zl44 {α : Type} {l : List α} : l.drop 0 = l := rfl
theorem Zl45 {α β : Type} {f : α → β} {a : α} : (some a).map f = some (f a) := rfl
theorem Zl46 {α β : Type} {f : α → β} : (none : Option α).map f = none := rfl
theorem Zl47 {α : Type} {a : α} {l m : List α} : (a :: l) ++ m = a :: (l ++ m) := rfl
theorem Zl48 {α : Type} {l : List α} : [] ++ l = l := rfl
theorem Zl49 {α : Type} {a : α} {l : List α} : (a :: l).isEmpty = false := rfl
theorem Zl50 {α : Type} : ([] : List α).isEmpty = true := rfl
def ZZ := (And.intro (And.intro (And.intro (And.intro (And.intro (And.intro (And.intro @awp_skip @awp_exit) (And.intro @awp_ret (And.intro @awp_seq @awp_block))) (And.intro (And.intro @awp_reg (And.intro @awp_drg @awp_loop)) (And.intro @awp_cond (And.intro @awp_cut @thenC_n)))) (And.intro (And.intro (And.intro @thenC_r (And.intro @thenC_e @blockQ_n)) (And.intro @blockQ_r (And.intro @blockQ_e @roundQ_n))) (And.intro (And.intro @roundQ_r (And.intro @roundQ_e @midQ_n)) (And.intro @midQ_r (And.intro @midQ_e @retQ_r))))) (And.intro (And.intro (And.intro (And.intro @retQ_n @retF_r) (And.intro @retF_n (And.intro @RetK_some @mkRes1))) (And.intro (And.intro @mkRes2 (And.intro @mkRes3 @BrC_true)) (And.intro @BrC_false (And.intro @OpsK_some @GdK_some)))) (And.intro (And.intro (And.intro @GdK_none (And.intro @StepK_some @ops_nil)) (And.intro @o_mov (And.intro @o_pick @o_bin))) (And.intro (And.intro @o_bnb (And.intro @o_eqa @o_not)) (And.intro @o_neg (And.intro @o_len @o_sln)))))) (And.intro (And.intro (And.intro (And.intro (And.intro @o_mx @o_mn) (And.intro @o_idx (And.intro @o_ssl @o_vsl))) (And.intro (And.intro @o_ixa (And.intro @o_fla @o_fld)) (And.intro @o_ld (And.intro @o_ldl @o_ext)))) (And.intro (And.intro (And.intro @o_bld (And.intro @o_cvi @o_cvs)) (And.intro @o_b2s (And.intro @o_bsl @o_nck))) (And.intro (And.intro @o_mkf (And.intro @o_cap0 @o_vsn)) (And.intro @o_mpl (And.intro @o_mpn @o_bldg))))) (And.intro (And.intro (And.intro (And.intro @o_ldg @o_nilr) (And.intro @o_alc (And.intro @o_box @o_st))) (And.intro (And.intro @o_app (And.intro @o_bsr @o_s2b)) (And.intro @o_mks (And.intro @o_apz @o_trn)))) (And.intro (And.intro (And.intro @o_mkm (And.intro @o_mpu @o_stg)) (And.intro @o_alcd (And.intro @o_bsrd @g_mov))) (And.intro (And.intro @g_pick (And.intro @g_bin @g_bnb)) (And.intro @g_eqa (And.intro @g_not @g_neg))))))) (And.intro (And.intro (And.intro (And.intro (And.intro (And.intro @g_len @g_sln) (And.intro @g_mx (And.intro @g_mn @g_idx))) (And.intro (And.intro @g_ssl (And.intro @g_vsl @g_ixa)) (And.intro @g_fla (And.intro @g_fld @g_ld)))) (And.intro (And.intro (And.intro @g_ldl (And.intro @g_ext @g_bld)) (And.intro @g_cvi (And.intro @g_cvs @g_b2s))) (And.intro (And.intro @g_bsl (And.intro @g_nck @g_mkf)) (And.intro @g_cap0 (And.intro @g_vsn @g_mpl))))) (And.intro (And.intro (And.intro (And.intro @g_mpn @g_bldg) (And.intro @g_ldg (And.intro @ops_call @ops_dcall))) (And.intro (And.intro @ops_pcall (And.intro @ops_pcallg @ops_callg)) (And.intro @ops_callv (And.intro @FnK_some @ops_fz)))) (And.intro (And.intro (And.intro @ops_hole (And.intro @ops_isn @FzK_some)) (And.intro @FzK_none (And.intro @Zl13 @Zl28))) (And.intro (And.intro @Zl29 (And.intro @Zl30 @Zl31)) (And.intro @Zl32 (And.intro @Zl33 @Zl34)))))) (And.intro (And.intro (And.intro (And.intro (And.intro @Zl35 @Zl36) (And.intro @Zl37 (And.intro @Zl38 @Zl39))) (And.intro (And.intro @Zl40 (And.intro @Zl41 @Zl42)) (And.intro @Zl43 (And.intro @Zl44 @Zl0)))) (And.intro (And.intro (And.intro @Zl1 (And.intro @Zl45 @Zl46)) (And.intro @Zl3 (And.intro @Zl4 @Zl5))) (And.intro (And.intro @Zl6 (And.intro @Zl7 @Zl8)) (And.intro @Zl9 (And.intro @Zl10 @Zl11))))) (And.intro (And.intro (And.intro (And.intro @Zl12 (And.intro @Zl26 @Zl27)) (And.intro @Zl14 (And.intro @Zl15 @Zl16))) (And.intro (And.intro @Zl17 (And.intro @Zl18 @Zl2)) (And.intro @Zl48 (And.intro @Zl47 @Zl19)))) (And.intro (And.intro (And.intro @Zl20 (And.intro @bool_beq_true @bool_beq_false)) (And.intro @map_kill_p (And.intro @map_thaw_p @Zl21))) (And.intro (And.intro @Zl49 (And.intro @Zl50 @Zl22)) (And.intro @Zl23 (And.intro @Zl24 @Zl25))))))))

/- paperchase/base.In -/
def ir_base_In : IC :=
  (.seq (.reg [⟨some 6, .mov (.c (.bool false)), none⟩])
    (.seq (.reg [⟨some 7, .mov (.t 0), none⟩,
      ⟨some 8, .mov (.t 1), none⟩,
      ⟨some 9, .bin .geq (.t 7) (.t 8), none⟩,
      ⟨some 10, .mov (.t 9), none⟩,
      ⟨some 11, .mov (.t 0), (some (10, true))⟩,
      ⟨some 12, .mov (.t 2), (some (10, true))⟩,
      ⟨some 13, .bin .leq (.t 11) (.t 12), (some (10, true))⟩,
      ⟨some 14, .pick (.t 10) (.t 13) (.c (.bool false)), none⟩,
      ⟨some 6, .mov (.t 14), none⟩])
    .ret))
def rs_base_In : List IRes := [.t 6]
theorem ck_base_In : chkF Tryd.prog Tryd.f47 ir_base_In rs_base_In 15 = true := by kernel_rfl
/- paperchase/base.When -/
def ir_base_When : IC :=
  (.seq (.reg [⟨some 4, .mov (.c (.int .i64 0)), none⟩])
    (.seq (.seq (.reg [⟨some 5, .mov (.t 0), none⟩])
    (.cond (.t 5) (.seq (.reg [⟨some 6, .mov (.t 1), none⟩,
      ⟨some 4, .mov (.t 6), none⟩])
    .ret) .skip))
    (.seq (.reg [⟨some 4, .mov (.c (.int .i64 0)), none⟩])
    .ret)))
def rs_base_When : List IRes := [.t 4]
theorem ck_base_When : chkF Tryd.prog Tryd.f49 ir_base_When rs_base_When 7 = true := by kernel_rfl
/- paperchase/base.First -/
def ir_base_First_L0 : IC :=
  (.seq (.reg [⟨some 8, .bin .lss (.t 7) (.t 6), none⟩])
    (.seq (.cond (.t 8) .skip (.exit 0))
    (.seq (.block 1 (.seq (.reg [⟨some 9, .ixa 1 (.t 5) (.t 7), none⟩,
      ⟨some 10, .ld 1 false (.t 9), none⟩,
      ⟨some 4, .mov (.t 10), none⟩])
    (.seq (.reg [⟨some 11, .mov (.t 4), none⟩,
      ⟨some 12, .bin .neq (.t 11) (.c (.int .i64 0)), none⟩])
    (.cond (.t 12) (.seq (.reg [⟨some 13, .mov (.t 4), none⟩,
      ⟨some 2, .mov (.t 13), none⟩])
    .ret) .skip))))
    (.reg [⟨some 14, .bin .add (.t 7) (.c (.int .i64 1)), none⟩,
      ⟨some 7, .mov (.t 14), none⟩]))))
def ir_base_First : IC :=
  (.seq (.reg [⟨some 2, .mov (.c (.int .i64 0)), none⟩])
    (.seq (.seq (.reg [⟨some 5, .mov (.t 0), none⟩,
      ⟨some 6, .len (.t 5), none⟩,
      ⟨some 7, .mov (.c (.int .i64 0)), none⟩])
    (.block 0 (.loop ir_base_First_L0)))
    (.seq (.reg [⟨some 2, .mov (.c (.int .i64 0)), none⟩])
    .ret)))
def rs_base_First : List IRes := [.t 2]
theorem ck_base_First : chkF Tryd.prog Tryd.f48 ir_base_First rs_base_First 15 = true := by kernel_rfl
/- paperchase/chasemake.Below -/
def ir_chasemake_Below : IC :=
  (.seq (.reg [⟨some 4, .mov (.c (.int .i64 0)), none⟩])
    (.seq (.seq (.reg [⟨some 5, .mov (.t 1), none⟩,
      ⟨some 6, .bin .lss (.t 5) (.c (.int .i64 1)), none⟩])
    (.cond (.t 6) (.seq (.reg [⟨some 4, .mov (.c (.int .i64 0)), none⟩])
    .ret) .skip))
    (.seq (.reg [⟨some 7, .mov (.t 0), none⟩,
      ⟨some 8, .mov (.t 1), none⟩,
      ⟨some 9, .bin .rem (.t 7) (.t 8), none⟩,
      ⟨some 0, .mov (.t 9), none⟩])
    (.seq (.seq (.reg [⟨some 10, .mov (.t 0), none⟩,
      ⟨some 11, .bin .lss (.t 10) (.c (.int .i64 0)), none⟩])
    (.cond (.t 11) (.reg [⟨some 12, .mov (.t 0), none⟩,
      ⟨some 13, .mov (.t 1), none⟩,
      ⟨some 14, .bin .add (.t 12) (.t 13), none⟩,
      ⟨some 0, .mov (.t 14), none⟩]) .skip))
    (.cut (.seq (.reg [⟨some 15, .mov (.t 0), none⟩,
      ⟨some 4, .mov (.t 15), none⟩])
    .ret))))))
def rs_chasemake_Below : List IRes := [.t 4]
theorem ck_chasemake_Below : chkF Tryd.prog Tryd.f85 ir_chasemake_Below rs_chasemake_Below 16 = true := by kernel_rfl
/- (*paperchase/chasemake.Stream).Next -/
def ir_chasemake_Stream_Next : IC :=
  (.seq (.reg [⟨some 4, .mov (.c (.int .i64 0)), none⟩])
    (.seq (.reg [⟨some 7, .mov (.t 0), none⟩,
      ⟨some 8, .nck (.t 7), none⟩,
      ⟨some 9, .fla 1 (.t 8), none⟩,
      ⟨some 10, .ld 1 false (.t 9), none⟩,
      ⟨some 11, .bin .add (.t 10) (.c (.int .i64 1)), none⟩,
      ⟨some 12, .nck (.t 7), none⟩,
      ⟨some 13, .fla 1 (.t 12), none⟩,
      ⟨none, .st 1 (.t 13) (.t 11), none⟩])
    (.seq (.seq (.reg [⟨some 14, .mov (.t 0), none⟩,
      ⟨some 15, .nck (.t 14), none⟩,
      ⟨some 16, .fla 0 (.t 15), none⟩,
      ⟨some 17, .ld 1 false (.t 16), none⟩,
      ⟨some 18, .len (.t 17), none⟩,
      ⟨some 19, .bin .eql (.t 18) (.c (.int .i64 0)), none⟩])
    (.cond (.t 19) (.seq (.reg [⟨some 20, .mov (.t 0), none⟩,
      ⟨some 21, .nck (.t 20), none⟩,
      ⟨some 22, .fla 1 (.t 21), none⟩,
      ⟨some 23, .ld 1 false (.t 22), none⟩,
      ⟨some 24, .bin .mul (.t 23) (.c (.int .i64 7919)), none⟩,
      ⟨some 25, .mov (.t 1), none⟩,
      ⟨some 26, .call 85 [.t 24, .t 25], none⟩,
      ⟨some 4, .mov (.t 26), none⟩])
    .ret) .skip))
    (.seq (.drg [⟨some 27, .mov (.t 0), none⟩,
      ⟨some 28, .nck (.t 27), none⟩,
      ⟨some 29, .fla 1 (.t 28), none⟩,
      ⟨some 30, .ld 1 false (.t 29), none⟩,
      ⟨some 31, .bin .sub (.t 30) (.c (.int .i64 1)), none⟩,
      ⟨some 32, .mov (.t 0), none⟩,
      ⟨some 33, .nck (.t 32), none⟩,
      ⟨some 34, .fla 0 (.t 33), none⟩,
      ⟨some 35, .ld 1 false (.t 34), none⟩,
      ⟨some 36, .len (.t 35), none⟩,
      ⟨some 37, .bin .rem (.t 31) (.t 36), none⟩,
      ⟨some 5, .mov (.t 37), none⟩])
    (.seq (.drg [⟨some 38, .mov (.t 0), none⟩,
      ⟨some 39, .nck (.t 38), none⟩,
      ⟨some 40, .fla 1 (.t 39), none⟩,
      ⟨some 41, .ld 1 false (.t 40), none⟩,
      ⟨some 42, .bin .sub (.t 41) (.c (.int .i64 1)), none⟩,
      ⟨some 43, .mov (.t 0), none⟩,
      ⟨some 44, .nck (.t 43), none⟩,
      ⟨some 45, .fla 0 (.t 44), none⟩,
      ⟨some 46, .ld 1 false (.t 45), none⟩,
      ⟨some 47, .len (.t 46), none⟩,
      ⟨some 48, .bin .quo (.t 42) (.t 47), none⟩,
      ⟨some 6, .mov (.t 48), none⟩])
    (.seq (.reg [⟨some 49, .mov (.t 0), none⟩,
      ⟨some 50, .nck (.t 49), none⟩,
      ⟨some 51, .fla 0 (.t 50), none⟩,
      ⟨some 52, .ld 1 false (.t 51), none⟩,
      ⟨some 53, .mov (.t 5), none⟩,
      ⟨some 54, .ixa 1 (.t 52) (.t 53), none⟩,
      ⟨some 55, .ld 1 false (.t 54), none⟩,
      ⟨some 56, .call 85 [.t 55, .c (.int .i64 1073741824)], none⟩,
      ⟨some 57, .mov (.t 6), none⟩,
      ⟨some 58, .mov (.t 5), none⟩,
      ⟨some 59, .bin .add (.c (.int .i64 7919)) (.t 58), none⟩,
      ⟨some 60, .bin .mul (.t 57) (.t 59), none⟩,
      ⟨some 61, .bin .add (.t 56) (.t 60), none⟩,
      ⟨some 62, .mov (.t 1), none⟩,
      ⟨some 63, .call 85 [.t 61, .t 62], none⟩,
      ⟨some 4, .mov (.t 63), none⟩])
    .ret))))))
def rs_chasemake_Stream_Next : List IRes := [.t 4]
theorem ck_chasemake_Stream_Next : chkF Tryd.prog Tryd.f39 ir_chasemake_Stream_Next rs_chasemake_Stream_Next 64 = true := by kernel_rfl
/- (*paperchase/chasemake.Stream).Flip -/
def ir_chasemake_Stream_Flip : IC :=
  (.seq (.reg [⟨some 4, .mov (.c (.bool false)), none⟩])
    (.seq (.reg [⟨some 5, .mov (.t 0), none⟩,
      ⟨some 6, .mov (.t 1), none⟩,
      ⟨some 7, .call 39 [.t 5, .t 6], none⟩,
      ⟨some 8, .bin .eql (.t 7) (.c (.int .i64 0)), none⟩,
      ⟨some 4, .mov (.t 8), none⟩])
    .ret))
def rs_chasemake_Stream_Flip : List IRes := [.t 4]
theorem ck_chasemake_Stream_Flip : chkF Tryd.prog Tryd.f17 ir_chasemake_Stream_Flip rs_chasemake_Stream_Flip 9 = true := by kernel_rfl
/- (*paperchase/chasemake.Stream).Range -/
def ir_chasemake_Stream_Range : IC :=
  (.seq (.reg [⟨some 6, .mov (.c (.int .i64 0)), none⟩])
    (.seq (.seq (.reg [⟨some 7, .mov (.t 2), none⟩,
      ⟨some 8, .mov (.t 1), none⟩,
      ⟨some 9, .bin .lss (.t 7) (.t 8), none⟩])
    (.cond (.t 9) (.seq (.reg [⟨some 10, .mov (.t 1), none⟩,
      ⟨some 6, .mov (.t 10), none⟩])
    .ret) .skip))
    (.seq (.reg [⟨some 11, .mov (.t 1), none⟩,
      ⟨some 12, .mov (.t 0), none⟩,
      ⟨some 13, .mov (.t 2), none⟩,
      ⟨some 14, .mov (.t 1), none⟩,
      ⟨some 15, .bin .sub (.t 13) (.t 14), none⟩,
      ⟨some 16, .bin .add (.t 15) (.c (.int .i64 1)), none⟩,
      ⟨some 17, .call 39 [.t 12, .t 16], none⟩,
      ⟨some 18, .bin .add (.t 11) (.t 17), none⟩,
      ⟨some 6, .mov (.t 18), none⟩])
    .ret)))
def rs_chasemake_Stream_Range : List IRes := [.t 6]
theorem ck_chasemake_Stream_Range : chkF Tryd.prog Tryd.f73 ir_chasemake_Stream_Range rs_chasemake_Stream_Range 19 = true := by kernel_rfl
/- (*paperchase/chasemake.Stream).Pick -/
def ir_chasemake_Stream_Pick : IC :=
  (.seq (.reg [⟨some 4, .mov (.c (.int .i64 0)), none⟩])
    (.seq (.reg [⟨some 5, .mov (.t 1), none⟩,
      ⟨some 6, .mov (.t 0), none⟩,
      ⟨some 7, .mov (.t 1), none⟩,
      ⟨some 8, .len (.t 7), none⟩,
      ⟨some 9, .call 39 [.t 6, .t 8], none⟩,
      ⟨some 10, .ixa 1 (.t 5) (.t 9), none⟩,
      ⟨some 11, .ld 1 false (.t 10), none⟩,
      ⟨some 4, .mov (.t 11), none⟩])
    .ret))
def rs_chasemake_Stream_Pick : List IRes := [.t 4]
theorem ck_chasemake_Stream_Pick : chkF Tryd.prog Tryd.f74 ir_chasemake_Stream_Pick rs_chasemake_Stream_Pick 12 = true := by kernel_rfl
/- (*paperchase/chasemake.Stream).h06one -/
def ir_chasemake_Stream_h06one : IC :=
  (.seq (.reg [⟨some 4, .mov (.c (.str [])), none⟩])
    (.seq (.reg [⟨some 5, .mov (.t 1), none⟩,
      ⟨some 6, .mov (.t 0), none⟩,
      ⟨some 7, .mov (.t 1), none⟩,
      ⟨some 8, .len (.t 7), none⟩,
      ⟨some 9, .call 39 [.t 6, .t 8], none⟩,
      ⟨some 10, .ixa 1 (.t 5) (.t 9), none⟩,
      ⟨some 11, .ld 1 false (.t 10), none⟩,
      ⟨some 4, .mov (.t 11), none⟩])
    .ret))
def rs_chasemake_Stream_h06one : List IRes := [.t 4]
theorem ck_chasemake_Stream_h06one : chkF Tryd.prog Tryd.f41 ir_chasemake_Stream_h06one rs_chasemake_Stream_h06one 12 = true := by kernel_rfl


section
variable {E : Envt}

def inE (n lo hi : Int) : Bool := decide (lo ≤ n) && decide (n ≤ hi)
theorem In_ok (n lo hi : Int) : PCall Tryd.prog E 47 [int n, int lo, int hi] (· = .bool (inE n lo hi)) := by
  refine pcallF mixed Tryd.func47 ck_base_In ?_
  simp only [a0, l0, OS.ao, List.map_cons, List.map_nil, List.length_cons, List.length_nil, List.cons_append, List.nil_append, Nat.reduceSub, Nat.reduceAdd, List.replicate_succ, List.replicate_zero, ir_base_In, rs_base_In, ZZ, IsnK_some, Za, Zb, Zc, Zd, Ze, Zf, Zg, Zh, rd, AV.un, AV.unA, AV.ad, Zi, Zj, Zk, Zl, Zm, Zn, Zo, Zp, Zq, Zr, Zs, Zt, Zu, Zv, Zw, Zx, Zy, Zz, Zaa, Zab, Zac, Zad, Zae, Zaf, Zag, Zah, Zai, Zaj, Zak, Zal, Zam, Zan, wk1, wk, Zao, Zap, Zaq, Zar, Zas, Zat, Zau, Zav, AV.kill, AO.kill, AV.thaw, AO.thaw, Zaw, Zax, Zay, Zaz, Zba, Zbb, Zbc, Zbd, Zbe, ite_true, ite_false, reduceCtorEq, Nat.reduceAdd, Nat.reduceMul, Nat.reduceLeDiff, Nat.reduceLT, Nat.reduceEqDiff, forall_const]
  rfl
def whenE (b : Bool) (e : Int) : Int := if b = true then e else 0
theorem When_ok (b : Bool) (e : Int) : PCall Tryd.prog E 49 [.bool b, int e] (· = int (whenE b e)) := by
  refine pcallF mixed Tryd.func49 ck_base_When ?_
  simp only [a0, l0, OS.ao, List.map_cons, List.map_nil, List.length_cons, List.length_nil, List.cons_append, List.nil_append, Nat.reduceSub, Nat.reduceAdd, List.replicate_succ, List.replicate_zero, ir_base_When, rs_base_When, ZZ, IsnK_some, Za, Zb, Zc, Zd, Ze, Zf, Zg, Zh, rd, AV.un, AV.unA, AV.ad, Zi, Zj, Zk, Zl, Zm, Zn, Zo, Zp, Zq, Zr, Zs, Zt, Zu, Zv, Zw, Zx, Zy, Zz, Zaa, Zab, Zac, Zad, Zae, Zaf, Zag, Zah, Zai, Zaj, Zak, Zal, Zam, Zan, wk1, wk, Zao, Zap, Zaq, Zar, Zas, Zat, Zau, Zav, AV.kill, AO.kill, AV.thaw, AO.thaw, Zaw, Zax, Zay, Zaz, Zba, Zbb, Zbc, Zbd, Zbe, ite_true, ite_false, reduceCtorEq, Nat.reduceAdd, Nat.reduceMul, Nat.reduceLeDiff, Nat.reduceLT, Nat.reduceEqDiff, forall_const]
  refine br ?_ ?_
  all_goals
    rintro rfl
    simp only [ZZ, IsnK_some, Za, Zb, Zc, Zd, Ze, Zf, Zg, Zh, rd, AV.un, AV.unA, AV.ad, Zi, Zj, Zk, Zl, Zm, Zn, Zo, Zp, Zq, Zr, Zs, Zt, Zu, Zv, Zw, Zx, Zy, Zz, Zaa, Zab, Zac, Zad, Zae, Zaf, Zag, Zah, Zai, Zaj, Zak, Zal, Zam, Zan, wk1, wk, Zao, Zap, Zaq, Zar, Zas, Zat, Zau, Zav, AV.kill, AO.kill, AV.thaw, AO.thaw, Zaw, Zax, Zay, Zaz, Zba, Zbb, Zbc, Zbd, Zbe, ite_true, ite_false, reduceCtorEq, Nat.reduceAdd, Nat.reduceMul, Nat.reduceLeDiff, Nat.reduceLT, Nat.reduceEqDiff, forall_const]
    rfl
def firstE : List Int → Int
  | [] => 0
  | e :: r => if e = 0 then firstE r else e
theorem firstE_drop (l : List Int) (k : Nat) (x : Int) (h : l[k]? = some x) : firstE (l.drop k) = if x = 0 then firstE (l.drop (k + 1)) else x := by
  have hk := (List.getElem?_eq_some_iff.1 h).1
  rw [List.drop_eq_getElem_cons hk, (List.getElem?_eq_some_iff.1 h).2]
  rfl
theorem First_ok (l : List Int) (hl : l.length ≤ 1000000) : PCall Tryd.prog E 48 [ints l] (· = int (firstE l)) := by
  refine pcallF mixed Tryd.func48 ck_base_First ?_
  simp only [a0, l0, OS.ao, List.map_cons, List.map_nil, List.length_cons, List.length_nil, List.cons_append, List.nil_append, Nat.reduceSub, Nat.reduceAdd, List.replicate_succ, List.replicate_zero, ir_base_First, rs_base_First, ZZ, IsnK_some, Za, Zb, Zc, Zd, Ze, Zf, Zg, Zh, rd, AV.un, AV.unA, AV.ad, Zi, Zj, Zk, Zl, Zm, Zn, Zo, Zp, Zq, Zr, Zs, Zt, Zu, Zv, Zw, Zx, Zy, Zz, Zaa, Zab, Zac, Zad, Zae, Zaf, Zag, Zah, Zai, Zaj, Zak, Zal, Zam, Zan, wk1, wk, Zao, Zap, Zaq, Zar, Zas, Zat, Zau, Zav, AV.kill, AO.kill, AV.thaw, AO.thaw, Zaw, Zax, Zay, Zaz, Zba, Zbb, Zbc, Zbd, Zbe, ite_true, ite_false, reduceCtorEq, Nat.reduceAdd, Nat.reduceMul, Nat.reduceLeDiff, Nat.reduceLT, Nat.reduceEqDiff, forall_const]
  simp only [ints, ZZ, IsnK_some, Za, Zb, Zc, Zd, Ze, Zf, Zg, Zh, rd, AV.un, AV.unA, AV.ad, Zi, Zj, Zk, Zl, Zm, Zn, Zo, Zp, Zq, Zr, Zs, Zt, Zu, Zv, Zw, Zx, Zy, Zz, Zaa, Zab, Zac, Zad, Zae, Zaf, Zag, Zah, Zai, Zaj, Zak, Zal, Zam, Zan, wk1, wk, Zao, Zap, Zaq, Zar, Zas, Zat, Zau, Zav, AV.kill, AO.kill, AV.thaw, AO.thaw, Zaw, Zax, Zay, Zaz, Zba, Zbb, Zbc, Zbd, Zbe, ite_true, ite_false, reduceCtorEq, Nat.reduceAdd, Nat.reduceMul, Nat.reduceLeDiff, Nat.reduceLT, Nat.reduceEqDiff, forall_const]
  generalize hes : l.map (fun x => [PV.int IntKind.i64 x]) = es
  have hln : es.length = l.length := by rw [← hes]; simp
  refine loop_intro (fun n fr L => ∃ k : Nat, k ≤ l.length ∧ n = l.length - k ∧ firstE l = firstE (l.drop k) ∧ fr = [.p (.sl 1 es), .any, .any, .any, .any, .p (.sl 1 es), .p (int (es.length : Nat)), .p (int (k : Nat)), .any, .any, .any, .any, .any, .any, .any] ∧ L = []) l.length [.p (.sl 1 es), .any, .any, .any, .any, .p (.sl 1 es), .p (int (es.length : Nat)), .p (int (0 : Nat)), .any, .any, .any, .any, .any, .any, .any] [] ?_ ?_ ⟨0, by omega, by omega, rfl, rfl, rfl⟩ ?_
  · (simp only [ZZ, IsnK_some, Za, Zb, Zc, Zd, Ze, Zf, Zg, Zh, rd, AV.un, AV.unA, AV.ad, Zi, Zj, Zk, Zl, Zm, Zn, Zo, Zp, Zq, Zr, Zs, Zt, Zu, Zv, Zw, Zx, Zy, Zz, Zaa, Zab, Zac, Zad, Zae, Zaf, Zag, Zah, Zai, Zaj, Zak, Zal, Zam, Zan, wk1, wk, Zao, Zap, Zaq, Zar, Zas, Zat, Zau, Zav, AV.kill, AO.kill, AV.thaw, AO.thaw, Zaw, Zax, Zay, Zaz, Zba, Zbb, Zbc, Zbd, Zbe, ite_true, ite_false, reduceCtorEq, Nat.reduceAdd, Nat.reduceMul, Nat.reduceLeDiff, Nat.reduceLT, Nat.reduceEqDiff, forall_const]; try trivial)
  · simp only [ZZ, IsnK_some, Za, Zb, Zc, Zd, Ze, Zf, Zg, Zh, rd, AV.un, AV.unA, AV.ad, Zi, Zj, Zk, Zl, Zm, Zn, Zo, Zp, Zq, Zr, Zs, Zt, Zu, Zv, Zw, Zx, Zy, Zz, Zaa, Zab, Zac, Zad, Zae, Zaf, Zag, Zah, Zai, Zaj, Zak, Zal, Zam, Zan, wk1, wk, Zao, Zap, Zaq, Zar, Zas, Zat, Zau, Zav, AV.kill, AO.kill, AV.thaw, AO.thaw, Zaw, Zax, Zay, Zaz, Zba, Zbb, Zbc, Zbd, Zbe, ite_true, ite_false, reduceCtorEq, Nat.reduceAdd, Nat.reduceMul, Nat.reduceLeDiff, Nat.reduceLT, Nat.reduceEqDiff, forall_const]
  rintro n fr L ⟨k, hk, rfl, hf, rfl, rfl⟩
  simp only [ir_base_First_L0, ZZ, IsnK_some, Za, Zb, Zc, Zd, Ze, Zf, Zg, Zh, rd, AV.un, AV.unA, AV.ad, Zi, Zj, Zk, Zl, Zm, Zn, Zo, Zp, Zq, Zr, Zs, Zt, Zu, Zv, Zw, Zx, Zy, Zz, Zaa, Zab, Zac, Zad, Zae, Zaf, Zag, Zah, Zai, Zaj, Zak, Zal, Zam, Zan, wk1, wk, Zao, Zap, Zaq, Zar, Zas, Zat, Zau, Zav, AV.kill, AO.kill, AV.thaw, AO.thaw, Zaw, Zax, Zay, Zaz, Zba, Zbb, Zbc, Zbd, Zbe, ite_true, ite_false, reduceCtorEq, Nat.reduceAdd, Nat.reduceMul, Nat.reduceLeDiff, Nat.reduceLT, Nat.reduceEqDiff, forall_const]
  refine br ?_ ?_
  · intro h
    have hlt : k < l.length := by have := of_decide_eq_true h; omega
    obtain ⟨x, hx⟩ : ∃ x, l[k]? = some x := ⟨_, List.getElem?_eq_getElem hlt⟩
    have hg : es.getD k [] = [PV.int .i64 x] := by rw [← hes]; exact getD_map hx
    have hd := firstE_drop l k x hx
    simp only [ZZ, IsnK_some, Za, Zb, Zc, Zd, Ze, Zf, Zg, Zh, rd, AV.un, AV.unA, AV.ad, Zi, Zj, Zk, Zl, Zm, Zn, Zo, Zp, Zq, Zr, Zs, Zt, Zu, Zv, Zw, Zx, Zy, Zz, Zaa, Zab, Zac, Zad, Zae, Zaf, Zag, Zah, Zai, Zaj, Zak, Zal, Zam, Zan, wk1, wk, Zao, Zap, Zaq, Zar, Zas, Zat, Zau, Zav, AV.kill, AO.kill, AV.thaw, AO.thaw, Zaw, Zax, Zay, Zaz, Zba, Zbb, Zbc, Zbd, Zbe, ite_true, ite_false, reduceCtorEq, Nat.reduceAdd, Nat.reduceMul, Nat.reduceLeDiff, Nat.reduceLT, Nat.reduceEqDiff, forall_const, hg]
    refine ⟨by omega, by omega, ?_⟩
    refine br ?_ ?_
    · intro h2
      simp only [ZZ, IsnK_some, Za, Zb, Zc, Zd, Ze, Zf, Zg, Zh, rd, AV.un, AV.unA, AV.ad, Zi, Zj, Zk, Zl, Zm, Zn, Zo, Zp, Zq, Zr, Zs, Zt, Zu, Zv, Zw, Zx, Zy, Zz, Zaa, Zab, Zac, Zad, Zae, Zaf, Zag, Zah, Zai, Zaj, Zak, Zal, Zam, Zan, wk1, wk, Zao, Zap, Zaq, Zar, Zas, Zat, Zau, Zav, AV.kill, AO.kill, AV.thaw, AO.thaw, Zaw, Zax, Zay, Zaz, Zba, Zbb, Zbc, Zbd, Zbe, ite_true, ite_false, reduceCtorEq, Nat.reduceAdd, Nat.reduceMul, Nat.reduceLeDiff, Nat.reduceLT, Nat.reduceEqDiff, forall_const]
      rw [hf, hd, if_neg (by simpa using h2)]
    · intro h2
      simp only [ZZ, IsnK_some, Za, Zb, Zc, Zd, Ze, Zf, Zg, Zh, rd, AV.un, AV.unA, AV.ad, Zi, Zj, Zk, Zl, Zm, Zn, Zo, Zp, Zq, Zr, Zs, Zt, Zu, Zv, Zw, Zx, Zy, Zz, Zaa, Zab, Zac, Zad, Zae, Zaf, Zag, Zah, Zai, Zaj, Zak, Zal, Zam, Zan, wk1, wk, Zao, Zap, Zaq, Zar, Zas, Zat, Zau, Zav, AV.kill, AO.kill, AV.thaw, AO.thaw, Zaw, Zax, Zay, Zaz, Zba, Zbb, Zbc, Zbd, Zbe, ite_true, ite_false, reduceCtorEq, Nat.reduceAdd, Nat.reduceMul, Nat.reduceLeDiff, Nat.reduceLT, Nat.reduceEqDiff, forall_const]
      refine ⟨i64_of (by omega) (by omega), ?_⟩
      refine end_round (l.length - (k + 1)) [.p (.sl 1 es), .any, .any, .any, .any, .p (.sl 1 es), .p (int (es.length : Nat)), .p (int ((k + 1 : Nat))), .any, .any, .any, .any, .any, .any, .any] [] (by omega) ?_ ?_ ⟨k + 1, by omega, rfl, by rw [hf, hd, if_pos (by simpa using h2)], rfl, rfl⟩
      · (simp only [ZZ, IsnK_some, Za, Zb, Zc, Zd, Ze, Zf, Zg, Zh, rd, AV.un, AV.unA, AV.ad, Zi, Zj, Zk, Zl, Zm, Zn, Zo, Zp, Zq, Zr, Zs, Zt, Zu, Zv, Zw, Zx, Zy, Zz, Zaa, Zab, Zac, Zad, Zae, Zaf, Zag, Zah, Zai, Zaj, Zak, Zal, Zam, Zan, wk1, wk, Zao, Zap, Zaq, Zar, Zas, Zat, Zau, Zav, AV.kill, AO.kill, AV.thaw, AO.thaw, Zaw, Zax, Zay, Zaz, Zba, Zbb, Zbc, Zbd, Zbe, ite_true, ite_false, reduceCtorEq, Nat.reduceAdd, Nat.reduceMul, Nat.reduceLeDiff, Nat.reduceLT, Nat.reduceEqDiff, forall_const]; try trivial)
      · simp only [ZZ, IsnK_some, Za, Zb, Zc, Zd, Ze, Zf, Zg, Zh, rd, AV.un, AV.unA, AV.ad, Zi, Zj, Zk, Zl, Zm, Zn, Zo, Zp, Zq, Zr, Zs, Zt, Zu, Zv, Zw, Zx, Zy, Zz, Zaa, Zab, Zac, Zad, Zae, Zaf, Zag, Zah, Zai, Zaj, Zak, Zal, Zam, Zan, wk1, wk, Zao, Zap, Zaq, Zar, Zas, Zat, Zau, Zav, AV.kill, AO.kill, AV.thaw, AO.thaw, Zaw, Zax, Zay, Zaz, Zba, Zbb, Zbc, Zbd, Zbe, ite_true, ite_false, reduceCtorEq, Nat.reduceAdd, Nat.reduceMul, Nat.reduceLeDiff, Nat.reduceLT, Nat.reduceEqDiff, forall_const]
  · intro h
    have hge : l.length ≤ k := by have := of_decide_eq_false h; omega
    simp only [ZZ, IsnK_some, Za, Zb, Zc, Zd, Ze, Zf, Zg, Zh, rd, AV.un, AV.unA, AV.ad, Zi, Zj, Zk, Zl, Zm, Zn, Zo, Zp, Zq, Zr, Zs, Zt, Zu, Zv, Zw, Zx, Zy, Zz, Zaa, Zab, Zac, Zad, Zae, Zaf, Zag, Zah, Zai, Zaj, Zak, Zal, Zam, Zan, wk1, wk, Zao, Zap, Zaq, Zar, Zas, Zat, Zau, Zav, AV.kill, AO.kill, AV.thaw, AO.thaw, Zaw, Zax, Zay, Zaz, Zba, Zbb, Zbc, Zbd, Zbe, ite_true, ite_false, reduceCtorEq, Nat.reduceAdd, Nat.reduceMul, Nat.reduceLeDiff, Nat.reduceLT, Nat.reduceEqDiff, forall_const]
    rw [hf, List.drop_eq_nil_of_le hge]
    rfl

/-- chasemake.Below. -/
def below (x n : Int) : Int := if n < 1 then 0 else x % n
theorem below_lo (x n : Int) : 0 ≤ below x n := by
  unfold below
  split
  · omega
  · exact Int.emod_nonneg x (by omega)
theorem below_hi (x n : Int) (h : 1 ≤ n) : below x n < n := by
  unfold below
  rw [if_neg (by omega)]
  exact Int.emod_lt_of_pos x (by omega)
theorem tmod_cases (x n : Int) (hn : 1 ≤ n) : x % n = if x.tmod n < 0 then x.tmod n + n else x.tmod n := by
  have h2 := Int.emod_nonneg x (show n ≠ 0 by omega)
  have h3 := Int.emod_lt_of_pos x (show 0 < n by omega)
  rw [Int.tmod_eq_emod]
  split <;> split at * <;> omega
theorem tmod_bd (x n : Int) (hn : 1 ≤ n) : -n < x.tmod n ∧ x.tmod n < n := by
  have h2 := Int.emod_nonneg x (show n ≠ 0 by omega)
  have h3 := Int.emod_lt_of_pos x (show 0 < n by omega)
  rw [Int.tmod_eq_emod]
  split <;> omega
theorem Below_ok (x n : Int) (h2 : n ≤ 9223372036854775807) : PCall Tryd.prog E 85 [int x, int n] (· = int (below x n)) := by
  refine pcallF mixed Tryd.func85 ck_chasemake_Below ?_
  simp only [a0, l0, OS.ao, List.map_cons, List.map_nil, List.length_cons, List.length_nil, List.cons_append, List.nil_append, Nat.reduceSub, Nat.reduceAdd, List.replicate_succ, List.replicate_zero, ir_chasemake_Below, rs_chasemake_Below, ZZ, IsnK_some, Za, Zb, Zc, Zd, Ze, Zf, Zg, Zh, rd, AV.un, AV.unA, AV.ad, Zi, Zj, Zk, Zl, Zm, Zn, Zo, Zp, Zq, Zr, Zs, Zt, Zu, Zv, Zw, Zx, Zy, Zz, Zaa, Zab, Zac, Zad, Zae, Zaf, Zag, Zah, Zai, Zaj, Zak, Zal, Zam, Zan, wk1, wk, Zao, Zap, Zaq, Zar, Zas, Zat, Zau, Zav, AV.kill, AO.kill, AV.thaw, AO.thaw, Zaw, Zax, Zay, Zaz, Zba, Zbb, Zbc, Zbd, Zbe, ite_true, ite_false, reduceCtorEq, Nat.reduceAdd, Nat.reduceMul, Nat.reduceLeDiff, Nat.reduceLT, Nat.reduceEqDiff, forall_const]
  refine br ?_ ?_
  · intro h
    simp only [ZZ, IsnK_some, Za, Zb, Zc, Zd, Ze, Zf, Zg, Zh, rd, AV.un, AV.unA, AV.ad, Zi, Zj, Zk, Zl, Zm, Zn, Zo, Zp, Zq, Zr, Zs, Zt, Zu, Zv, Zw, Zx, Zy, Zz, Zaa, Zab, Zac, Zad, Zae, Zaf, Zag, Zah, Zai, Zaj, Zak, Zal, Zam, Zan, wk1, wk, Zao, Zap, Zaq, Zar, Zas, Zat, Zau, Zav, AV.kill, AO.kill, AV.thaw, AO.thaw, Zaw, Zax, Zay, Zaz, Zba, Zbb, Zbc, Zbd, Zbe, ite_true, ite_false, reduceCtorEq, Nat.reduceAdd, Nat.reduceMul, Nat.reduceLeDiff, Nat.reduceLT, Nat.reduceEqDiff, forall_const]
    have : n < 1 := of_decide_eq_true h
    simp [below, this]
  · intro h
    have hn : ¬ n < 1 := of_decide_eq_false h
    have hb := tmod_bd x n (by omega)
    have hc := tmod_cases x n (by omega)
    simp only [ZZ, IsnK_some, Za, Zb, Zc, Zd, Ze, Zf, Zg, Zh, rd, AV.un, AV.unA, AV.ad, Zi, Zj, Zk, Zl, Zm, Zn, Zo, Zp, Zq, Zr, Zs, Zt, Zu, Zv, Zw, Zx, Zy, Zz, Zaa, Zab, Zac, Zad, Zae, Zaf, Zag, Zah, Zai, Zaj, Zak, Zal, Zam, Zan, wk1, wk, Zao, Zap, Zaq, Zar, Zas, Zat, Zau, Zav, AV.kill, AO.kill, AV.thaw, AO.thaw, Zaw, Zax, Zay, Zaz, Zba, Zbb, Zbc, Zbd, Zbe, ite_true, ite_false, reduceCtorEq, Nat.reduceAdd, Nat.reduceMul, Nat.reduceLeDiff, Nat.reduceLT, Nat.reduceEqDiff, forall_const]
    refine ⟨by omega, ?_⟩
    refine br_join (fun fr L => ∃ y, y = x % n ∧ fr = [.p (int y), .any, .any, .any, .any, .any, .any, .any, .any, .any, .any, .any, .any, .any, .any, .any] ∧ L = []) ?_ ?_ ?_
    · intro h1
      have h1 := of_decide_eq_true h1
      simp only [ZZ, IsnK_some, Za, Zb, Zc, Zd, Ze, Zf, Zg, Zh, rd, AV.un, AV.unA, AV.ad, Zi, Zj, Zk, Zl, Zm, Zn, Zo, Zp, Zq, Zr, Zs, Zt, Zu, Zv, Zw, Zx, Zy, Zz, Zaa, Zab, Zac, Zad, Zae, Zaf, Zag, Zah, Zai, Zaj, Zak, Zal, Zam, Zan, wk1, wk, Zao, Zap, Zaq, Zar, Zas, Zat, Zau, Zav, AV.kill, AO.kill, AV.thaw, AO.thaw, Zaw, Zax, Zay, Zaz, Zba, Zbb, Zbc, Zbd, Zbe, ite_true, ite_false, reduceCtorEq, Nat.reduceAdd, Nat.reduceMul, Nat.reduceLeDiff, Nat.reduceLT, Nat.reduceEqDiff, forall_const]
      refine ⟨i64_of (by omega) (by omega), to_mid [.p (int (x.tmod n + n)), .any, .any, .any, .any, .any, .any, .any, .any, .any, .any, .any, .any, .any, .any, .any] [] ?_ ?_ ⟨_, by rw [hc, if_pos h1], rfl, rfl⟩⟩
      · (simp only [ZZ, IsnK_some, Za, Zb, Zc, Zd, Ze, Zf, Zg, Zh, rd, AV.un, AV.unA, AV.ad, Zi, Zj, Zk, Zl, Zm, Zn, Zo, Zp, Zq, Zr, Zs, Zt, Zu, Zv, Zw, Zx, Zy, Zz, Zaa, Zab, Zac, Zad, Zae, Zaf, Zag, Zah, Zai, Zaj, Zak, Zal, Zam, Zan, wk1, wk, Zao, Zap, Zaq, Zar, Zas, Zat, Zau, Zav, AV.kill, AO.kill, AV.thaw, AO.thaw, Zaw, Zax, Zay, Zaz, Zba, Zbb, Zbc, Zbd, Zbe, ite_true, ite_false, reduceCtorEq, Nat.reduceAdd, Nat.reduceMul, Nat.reduceLeDiff, Nat.reduceLT, Nat.reduceEqDiff, forall_const]; try trivial)
      · simp only [ZZ, IsnK_some, Za, Zb, Zc, Zd, Ze, Zf, Zg, Zh, rd, AV.un, AV.unA, AV.ad, Zi, Zj, Zk, Zl, Zm, Zn, Zo, Zp, Zq, Zr, Zs, Zt, Zu, Zv, Zw, Zx, Zy, Zz, Zaa, Zab, Zac, Zad, Zae, Zaf, Zag, Zah, Zai, Zaj, Zak, Zal, Zam, Zan, wk1, wk, Zao, Zap, Zaq, Zar, Zas, Zat, Zau, Zav, AV.kill, AO.kill, AV.thaw, AO.thaw, Zaw, Zax, Zay, Zaz, Zba, Zbb, Zbc, Zbd, Zbe, ite_true, ite_false, reduceCtorEq, Nat.reduceAdd, Nat.reduceMul, Nat.reduceLeDiff, Nat.reduceLT, Nat.reduceEqDiff, forall_const]
    · intro h1
      have h1 := of_decide_eq_false h1
      simp only [ZZ, IsnK_some, Za, Zb, Zc, Zd, Ze, Zf, Zg, Zh, rd, AV.un, AV.unA, AV.ad, Zi, Zj, Zk, Zl, Zm, Zn, Zo, Zp, Zq, Zr, Zs, Zt, Zu, Zv, Zw, Zx, Zy, Zz, Zaa, Zab, Zac, Zad, Zae, Zaf, Zag, Zah, Zai, Zaj, Zak, Zal, Zam, Zan, wk1, wk, Zao, Zap, Zaq, Zar, Zas, Zat, Zau, Zav, AV.kill, AO.kill, AV.thaw, AO.thaw, Zaw, Zax, Zay, Zaz, Zba, Zbb, Zbc, Zbd, Zbe, ite_true, ite_false, reduceCtorEq, Nat.reduceAdd, Nat.reduceMul, Nat.reduceLeDiff, Nat.reduceLT, Nat.reduceEqDiff, forall_const]
      refine to_mid [.p (int (x.tmod n)), .any, .any, .any, .any, .any, .any, .any, .any, .any, .any, .any, .any, .any, .any, .any] [] ?_ ?_ ⟨_, by rw [hc, if_neg h1], rfl, rfl⟩
      · (simp only [ZZ, IsnK_some, Za, Zb, Zc, Zd, Ze, Zf, Zg, Zh, rd, AV.un, AV.unA, AV.ad, Zi, Zj, Zk, Zl, Zm, Zn, Zo, Zp, Zq, Zr, Zs, Zt, Zu, Zv, Zw, Zx, Zy, Zz, Zaa, Zab, Zac, Zad, Zae, Zaf, Zag, Zah, Zai, Zaj, Zak, Zal, Zam, Zan, wk1, wk, Zao, Zap, Zaq, Zar, Zas, Zat, Zau, Zav, AV.kill, AO.kill, AV.thaw, AO.thaw, Zaw, Zax, Zay, Zaz, Zba, Zbb, Zbc, Zbd, Zbe, ite_true, ite_false, reduceCtorEq, Nat.reduceAdd, Nat.reduceMul, Nat.reduceLeDiff, Nat.reduceLT, Nat.reduceEqDiff, forall_const]; try trivial)
      · simp only [ZZ, IsnK_some, Za, Zb, Zc, Zd, Ze, Zf, Zg, Zh, rd, AV.un, AV.unA, AV.ad, Zi, Zj, Zk, Zl, Zm, Zn, Zo, Zp, Zq, Zr, Zs, Zt, Zu, Zv, Zw, Zx, Zy, Zz, Zaa, Zab, Zac, Zad, Zae, Zaf, Zag, Zah, Zai, Zaj, Zak, Zal, Zam, Zan, wk1, wk, Zao, Zap, Zaq, Zar, Zas, Zat, Zau, Zav, AV.kill, AO.kill, AV.thaw, AO.thaw, Zaw, Zax, Zay, Zaz, Zba, Zbb, Zbc, Zbd, Zbe, ite_true, ite_false, reduceCtorEq, Nat.reduceAdd, Nat.reduceMul, Nat.reduceLeDiff, Nat.reduceLT, Nat.reduceEqDiff, forall_const]
    · rintro fr L ⟨y, rfl, rfl, rfl⟩
      simp only [ZZ, IsnK_some, Za, Zb, Zc, Zd, Ze, Zf, Zg, Zh, rd, AV.un, AV.unA, AV.ad, Zi, Zj, Zk, Zl, Zm, Zn, Zo, Zp, Zq, Zr, Zs, Zt, Zu, Zv, Zw, Zx, Zy, Zz, Zaa, Zab, Zac, Zad, Zae, Zaf, Zag, Zah, Zai, Zaj, Zak, Zal, Zam, Zan, wk1, wk, Zao, Zap, Zaq, Zar, Zas, Zat, Zau, Zav, AV.kill, AO.kill, AV.thaw, AO.thaw, Zaw, Zax, Zay, Zaz, Zba, Zbb, Zbc, Zbd, Zbe, ite_true, ite_false, reduceCtorEq, Nat.reduceAdd, Nat.reduceMul, Nat.reduceLeDiff, Nat.reduceLT, Nat.reduceEqDiff, forall_const]
      simp [below, hn]

/-- The stream's cells. -/
def stm (l : List Int) (k : Nat) : List PV := [ints l, int k]
abbrev T : TypeId := 25
theorem Next_ok (l : List Int) (k : Nat) (n : Int) (hk : k ≤ 1000000) (hl : l.length ≤ 9223372036854775807) (h2 : n ≤ 9223372036854775807) :
    SCall Tryd.prog E 39 T (stm l k) [int n] (fun x cs' => ∃ y, x = int (below y n) ∧ cs' = stm l (k + 1)) := by
  unfold SCall
  refine gcallP mixed Tryd.func39 ck_chasemake_Stream_Next ?_
  simp only [a0, l0, OS.ao, List.map_cons, List.map_nil, List.length_cons, List.length_nil, List.cons_append, List.nil_append, Nat.reduceSub, Nat.reduceAdd, List.replicate_succ, List.replicate_zero, stm, ir_chasemake_Stream_Next, rs_chasemake_Stream_Next, ZZ, IsnK_some, Za, Zb, Zc, Zd, Ze, Zf, Zg, Zh, rd, AV.un, AV.unA, AV.ad, Zi, Zj, Zk, Zl, Zm, Zn, Zo, Zp, Zq, Zr, Zs, Zt, Zu, Zv, Zw, Zx, Zy, Zz, Zaa, Zab, Zac, Zad, Zae, Zaf, Zag, Zah, Zai, Zaj, Zak, Zal, Zam, Zan, wk1, wk, Zao, Zap, Zaq, Zar, Zas, Zat, Zau, Zav, AV.kill, AO.kill, AV.thaw, AO.thaw, Zaw, Zax, Zay, Zaz, Zba, Zbb, Zbc, Zbd, Zbe, ite_true, ite_false, reduceCtorEq, Nat.reduceAdd, Nat.reduceMul, Nat.reduceLeDiff, Nat.reduceLT, Nat.reduceEqDiff, forall_const]
  refine ⟨i64_of (by omega) (by omega), ?_⟩
  simp only [ints, ZZ, IsnK_some, Za, Zb, Zc, Zd, Ze, Zf, Zg, Zh, rd, AV.un, AV.unA, AV.ad, Zi, Zj, Zk, Zl, Zm, Zn, Zo, Zp, Zq, Zr, Zs, Zt, Zu, Zv, Zw, Zx, Zy, Zz, Zaa, Zab, Zac, Zad, Zae, Zaf, Zag, Zah, Zai, Zaj, Zak, Zal, Zam, Zan, wk1, wk, Zao, Zap, Zaq, Zar, Zas, Zat, Zau, Zav, AV.kill, AO.kill, AV.thaw, AO.thaw, Zaw, Zax, Zay, Zaz, Zba, Zbb, Zbc, Zbd, Zbe, ite_true, ite_false, reduceCtorEq, Nat.reduceAdd, Nat.reduceMul, Nat.reduceLeDiff, Nat.reduceLT, Nat.reduceEqDiff, forall_const]
  generalize hes : l.map (fun x => [PV.int IntKind.i64 x]) = es
  have hln : es.length = l.length := by rw [← hes]; simp
  have hc : [PV.sl 1 es, int ((k : Int) + 1)] = [PV.sl 1 es, int ((k + 1 : Nat) : Int)] := by simp
  refine br ?_ ?_
  · intro h
    simp only [ZZ, IsnK_some, Za, Zb, Zc, Zd, Ze, Zf, Zg, Zh, rd, AV.un, AV.unA, AV.ad, Zi, Zj, Zk, Zl, Zm, Zn, Zo, Zp, Zq, Zr, Zs, Zt, Zu, Zv, Zw, Zx, Zy, Zz, Zaa, Zab, Zac, Zad, Zae, Zaf, Zag, Zah, Zai, Zaj, Zak, Zal, Zam, Zan, wk1, wk, Zao, Zap, Zaq, Zar, Zas, Zat, Zau, Zav, AV.kill, AO.kill, AV.thaw, AO.thaw, Zaw, Zax, Zay, Zaz, Zba, Zbb, Zbc, Zbd, Zbe, ite_true, ite_false, reduceCtorEq, Nat.reduceAdd, Nat.reduceMul, Nat.reduceLeDiff, Nat.reduceLT, Nat.reduceEqDiff, forall_const]
    refine ⟨i64_of (by omega) (by omega), ?_⟩
    refine use1 (Below_ok _ _ h2) rfl (.inl rfl) ?_
    simp only [ZZ, IsnK_some, Za, Zb, Zc, Zd, Ze, Zf, Zg, Zh, rd, AV.un, AV.unA, AV.ad, Zi, Zj, Zk, Zl, Zm, Zn, Zo, Zp, Zq, Zr, Zs, Zt, Zu, Zv, Zw, Zx, Zy, Zz, Zaa, Zab, Zac, Zad, Zae, Zaf, Zag, Zah, Zai, Zaj, Zak, Zal, Zam, Zan, wk1, wk, Zao, Zap, Zaq, Zar, Zas, Zat, Zau, Zav, AV.kill, AO.kill, AV.thaw, AO.thaw, Zaw, Zax, Zay, Zaz, Zba, Zbb, Zbc, Zbd, Zbe, ite_true, ite_false, reduceCtorEq, Nat.reduceAdd, Nat.reduceMul, Nat.reduceLeDiff, Nat.reduceLT, Nat.reduceEqDiff, forall_const]
    exact fin_S [PV.sl 1 es, int ((k : Int) + 1)] rfl ⟨_, rfl, hc⟩
  · intro h
    have hne : ¬ ((es.length : Int) = 0) := of_decide_eq_false h
    simp only [ZZ, IsnK_some, Za, Zb, Zc, Zd, Ze, Zf, Zg, Zh, rd, AV.un, AV.unA, AV.ad, Zi, Zj, Zk, Zl, Zm, Zn, Zo, Zp, Zq, Zr, Zs, Zt, Zu, Zv, Zw, Zx, Zy, Zz, Zaa, Zab, Zac, Zad, Zae, Zaf, Zag, Zah, Zai, Zaj, Zak, Zal, Zam, Zan, wk1, wk, Zao, Zap, Zaq, Zar, Zas, Zat, Zau, Zav, AV.kill, AO.kill, AV.thaw, AO.thaw, Zaw, Zax, Zay, Zaz, Zba, Zbb, Zbc, Zbd, Zbe, ite_true, ite_false, reduceCtorEq, Nat.reduceAdd, Nat.reduceMul, Nat.reduceLeDiff, Nat.reduceLT, Nat.reduceEqDiff, forall_const]
    refine drg0 ?_
    simp only [ZZ, IsnK_some, Za, Zb, Zc, Zd, Ze, Zf, Zg, Zh, rd, AV.un, AV.unA, AV.ad, Zi, Zj, Zk, Zl, Zm, Zn, Zo, Zp, Zq, Zr, Zs, Zt, Zu, Zv, Zw, Zx, Zy, Zz, Zaa, Zab, Zac, Zad, Zae, Zaf, Zag, Zah, Zai, Zaj, Zak, Zal, Zam, Zan, wk1, wk, Zao, Zap, Zaq, Zar, Zas, Zat, Zau, Zav, AV.kill, AO.kill, AV.thaw, AO.thaw, Zaw, Zax, Zay, Zaz, Zba, Zbb, Zbc, Zbd, Zbe, ite_true, ite_false, reduceCtorEq, Nat.reduceAdd, Nat.reduceMul, Nat.reduceLeDiff, Nat.reduceLT, Nat.reduceEqDiff, forall_const]
    refine ⟨i64_of (by omega) (by omega), ⟨by omega, ?_⟩⟩
    refine drg0 ?_
    have hkk : (k : Int) + 1 - 1 = k := by omega
    have hrem : (k : Int).tmod (es.length : Int) = ((k % es.length : Nat) : Int) := by rw [Int.tmod_eq_emod_of_nonneg (by omega)]; rfl
    have hquo : (k : Int).tdiv (es.length : Int) = ((k / es.length : Nat) : Int) := by rw [Int.tdiv_eq_ediv_of_nonneg (by omega)]; rfl
    have hq1 : k / es.length ≤ k := Nat.div_le_self _ _
    have hr1 : k % es.length ≤ k := Nat.mod_le _ _
    have hr2 : k % es.length < es.length := Nat.mod_lt _ (by omega)
    obtain ⟨x, hx⟩ : ∃ x, l[k % es.length]? = some x := ⟨_, List.getElem?_eq_getElem (by omega)⟩
    have hg : es.getD (k % es.length) [] = [PV.int .i64 x] := by rw [← hes]; exact getD_map (by rw [hes]; exact hx)
    simp only [ZZ, IsnK_some, Za, Zb, Zc, Zd, Ze, Zf, Zg, Zh, rd, AV.un, AV.unA, AV.ad, Zi, Zj, Zk, Zl, Zm, Zn, Zo, Zp, Zq, Zr, Zs, Zt, Zu, Zv, Zw, Zx, Zy, Zz, Zaa, Zab, Zac, Zad, Zae, Zaf, Zag, Zah, Zai, Zaj, Zak, Zal, Zam, Zan, wk1, wk, Zao, Zap, Zaq, Zar, Zas, Zat, Zau, Zav, AV.kill, AO.kill, AV.thaw, AO.thaw, Zaw, Zax, Zay, Zaz, Zba, Zbb, Zbc, Zbd, Zbe, ite_true, ite_false, reduceCtorEq, Nat.reduceAdd, Nat.reduceMul, Nat.reduceLeDiff, Nat.reduceLT, Nat.reduceEqDiff, forall_const, hkk, hrem, hquo, hg]
    generalize k / es.length = q at *
    generalize k % es.length = r at *
    refine ⟨i64_of (by omega) (by omega), ⟨hne, i64_of (by omega) (by omega)⟩, ⟨by omega, by omega⟩, by omega, ?_⟩
    refine use1 (Below_ok _ _ (by decide)) rfl (.inl rfl) ?_
    have hb1 := below_lo x 1073741824
    have hb2 := below_hi x 1073741824 (by omega)
    have hm : (q : Int) * (7919 + (r : Int)) ≤ 1000000 * 1007919 := Int.mul_le_mul (by omega) (by omega) (by omega) (by omega)
    have hm0 : 0 ≤ (q : Int) * (7919 + (r : Int)) := Int.mul_nonneg (by omega) (by omega)
    simp only [ZZ, IsnK_some, Za, Zb, Zc, Zd, Ze, Zf, Zg, Zh, rd, AV.un, AV.unA, AV.ad, Zi, Zj, Zk, Zl, Zm, Zn, Zo, Zp, Zq, Zr, Zs, Zt, Zu, Zv, Zw, Zx, Zy, Zz, Zaa, Zab, Zac, Zad, Zae, Zaf, Zag, Zah, Zai, Zaj, Zak, Zal, Zam, Zan, wk1, wk, Zao, Zap, Zaq, Zar, Zas, Zat, Zau, Zav, AV.kill, AO.kill, AV.thaw, AO.thaw, Zaw, Zax, Zay, Zaz, Zba, Zbb, Zbc, Zbd, Zbe, ite_true, ite_false, reduceCtorEq, Nat.reduceAdd, Nat.reduceMul, Nat.reduceLeDiff, Nat.reduceLT, Nat.reduceEqDiff, forall_const]
    refine ⟨i64_of (by omega) (by omega), i64_of (by omega) (by omega), i64_of (by omega) (by omega), ?_⟩
    refine use1 (Below_ok _ _ h2) rfl (.inl rfl) ?_
    simp only [ZZ, IsnK_some, Za, Zb, Zc, Zd, Ze, Zf, Zg, Zh, rd, AV.un, AV.unA, AV.ad, Zi, Zj, Zk, Zl, Zm, Zn, Zo, Zp, Zq, Zr, Zs, Zt, Zu, Zv, Zw, Zx, Zy, Zz, Zaa, Zab, Zac, Zad, Zae, Zaf, Zag, Zah, Zai, Zaj, Zak, Zal, Zam, Zan, wk1, wk, Zao, Zap, Zaq, Zar, Zas, Zat, Zau, Zav, AV.kill, AO.kill, AV.thaw, AO.thaw, Zaw, Zax, Zay, Zaz, Zba, Zbb, Zbc, Zbd, Zbe, ite_true, ite_false, reduceCtorEq, Nat.reduceAdd, Nat.reduceMul, Nat.reduceLeDiff, Nat.reduceLT, Nat.reduceEqDiff, forall_const]
    exact fin_S [PV.sl 1 es, int ((k : Int) + 1)] rfl ⟨_, rfl, hc⟩

theorem below_idx (x : Int) (n : Nat) (hn : 0 < n) : ∃ i : Nat, i < n ∧ below x n = i := by
  have h0 := below_lo x n
  have h1 := below_hi x n (by omega)
  exact ⟨(below x n).toNat, by omega, by omega⟩

theorem Flip_ok (l : List Int) (k : Nat) (n : Int) (hk : k ≤ 1000000) (hl : l.length ≤ 9223372036854775807) (h2 : n ≤ 9223372036854775807) :
    SCall Tryd.prog E 17 T (stm l k) [int n] (fun x cs' => ∃ b, x = .bool b ∧ cs' = stm l (k + 1)) := by
  unfold SCall
  refine gcallP mixed Tryd.func17 ck_chasemake_Stream_Flip ?_
  simp only [a0, l0, OS.ao, List.map_cons, List.map_nil, List.length_cons, List.length_nil, List.cons_append, List.nil_append, Nat.reduceSub, Nat.reduceAdd, List.replicate_succ, List.replicate_zero, ir_chasemake_Stream_Flip, rs_chasemake_Stream_Flip, ZZ, IsnK_some, Za, Zb, Zc, Zd, Ze, Zf, Zg, Zh, rd, AV.un, AV.unA, AV.ad, Zi, Zj, Zk, Zl, Zm, Zn, Zo, Zp, Zq, Zr, Zs, Zt, Zu, Zv, Zw, Zx, Zy, Zz, Zaa, Zab, Zac, Zad, Zae, Zaf, Zag, Zah, Zai, Zaj, Zak, Zal, Zam, Zan, wk1, wk, Zao, Zap, Zaq, Zar, Zas, Zat, Zau, Zav, AV.kill, AO.kill, AV.thaw, AO.thaw, Zaw, Zax, Zay, Zaz, Zba, Zbb, Zbc, Zbd, Zbe, ite_true, ite_false, reduceCtorEq, Nat.reduceAdd, Nat.reduceMul, Nat.reduceLeDiff, Nat.reduceLT, Nat.reduceEqDiff, forall_const]
  refine useS (Next_ok l k n hk hl h2) rfl rfl rfl (by simp only [ZZ, IsnK_some, Za, Zb, Zc, Zd, Ze, Zf, Zg, Zh, rd, AV.un, AV.unA, AV.ad, Zi, Zj, Zk, Zl, Zm, Zn, Zo, Zp, Zq, Zr, Zs, Zt, Zu, Zv, Zw, Zx, Zy, Zz, Zaa, Zab, Zac, Zad, Zae, Zaf, Zag, Zah, Zai, Zaj, Zak, Zal, Zam, Zan, wk1, wk, Zao, Zap, Zaq, Zar, Zas, Zat, Zau, Zav, AV.kill, AO.kill, AV.thaw, AO.thaw, Zaw, Zax, Zay, Zaz, Zba, Zbb, Zbc, Zbd, Zbe, ite_true, ite_false, reduceCtorEq, Nat.reduceAdd, Nat.reduceMul, Nat.reduceLeDiff, Nat.reduceLT, Nat.reduceEqDiff, forall_const]) ?_
  rintro x cs' ⟨y, rfl, rfl⟩
  simp only [ZZ, IsnK_some, Za, Zb, Zc, Zd, Ze, Zf, Zg, Zh, rd, AV.un, AV.unA, AV.ad, Zi, Zj, Zk, Zl, Zm, Zn, Zo, Zp, Zq, Zr, Zs, Zt, Zu, Zv, Zw, Zx, Zy, Zz, Zaa, Zab, Zac, Zad, Zae, Zaf, Zag, Zah, Zai, Zaj, Zak, Zal, Zam, Zan, wk1, wk, Zao, Zap, Zaq, Zar, Zas, Zat, Zau, Zav, AV.kill, AO.kill, AV.thaw, AO.thaw, Zaw, Zax, Zay, Zaz, Zba, Zbb, Zbc, Zbd, Zbe, ite_true, ite_false, reduceCtorEq, Nat.reduceAdd, Nat.reduceMul, Nat.reduceLeDiff, Nat.reduceLT, Nat.reduceEqDiff, forall_const]
  exact fin_S (stm l (k + 1)) rfl ⟨_, rfl, rfl⟩

theorem Range_ok (l : List Int) (k : Nat) (lo hi : Int) (hk : k ≤ 1000000) (hl : l.length ≤ 9223372036854775807) (h1 : -1000000000 ≤ lo) (h2 : lo ≤ hi) (h3 : hi ≤ 1000000000) :
    SCall Tryd.prog E 73 T (stm l k) [int lo, int hi] (fun x cs' => ∃ y, x = int y ∧ lo ≤ y ∧ y ≤ hi ∧ cs' = stm l (k + 1)) := by
  unfold SCall
  refine gcallP mixed Tryd.func73 ck_chasemake_Stream_Range ?_
  simp only [a0, l0, OS.ao, List.map_cons, List.map_nil, List.length_cons, List.length_nil, List.cons_append, List.nil_append, Nat.reduceSub, Nat.reduceAdd, List.replicate_succ, List.replicate_zero, ir_chasemake_Stream_Range, rs_chasemake_Stream_Range, ZZ, IsnK_some, Za, Zb, Zc, Zd, Ze, Zf, Zg, Zh, rd, AV.un, AV.unA, AV.ad, Zi, Zj, Zk, Zl, Zm, Zn, Zo, Zp, Zq, Zr, Zs, Zt, Zu, Zv, Zw, Zx, Zy, Zz, Zaa, Zab, Zac, Zad, Zae, Zaf, Zag, Zah, Zai, Zaj, Zak, Zal, Zam, Zan, wk1, wk, Zao, Zap, Zaq, Zar, Zas, Zat, Zau, Zav, AV.kill, AO.kill, AV.thaw, AO.thaw, Zaw, Zax, Zay, Zaz, Zba, Zbb, Zbc, Zbd, Zbe, ite_true, ite_false, reduceCtorEq, Nat.reduceAdd, Nat.reduceMul, Nat.reduceLeDiff, Nat.reduceLT, Nat.reduceEqDiff, forall_const]
  refine br (fun h => absurd (of_decide_eq_true h) (by omega)) ?_
  intro _
  simp only [ZZ, IsnK_some, Za, Zb, Zc, Zd, Ze, Zf, Zg, Zh, rd, AV.un, AV.unA, AV.ad, Zi, Zj, Zk, Zl, Zm, Zn, Zo, Zp, Zq, Zr, Zs, Zt, Zu, Zv, Zw, Zx, Zy, Zz, Zaa, Zab, Zac, Zad, Zae, Zaf, Zag, Zah, Zai, Zaj, Zak, Zal, Zam, Zan, wk1, wk, Zao, Zap, Zaq, Zar, Zas, Zat, Zau, Zav, AV.kill, AO.kill, AV.thaw, AO.thaw, Zaw, Zax, Zay, Zaz, Zba, Zbb, Zbc, Zbd, Zbe, ite_true, ite_false, reduceCtorEq, Nat.reduceAdd, Nat.reduceMul, Nat.reduceLeDiff, Nat.reduceLT, Nat.reduceEqDiff, forall_const]
  refine ⟨i64_of (by omega) (by omega), i64_of (by omega) (by omega), ?_⟩
  refine useS (Next_ok l k _ hk hl (by omega)) rfl rfl rfl (by simp only [ZZ, IsnK_some, Za, Zb, Zc, Zd, Ze, Zf, Zg, Zh, rd, AV.un, AV.unA, AV.ad, Zi, Zj, Zk, Zl, Zm, Zn, Zo, Zp, Zq, Zr, Zs, Zt, Zu, Zv, Zw, Zx, Zy, Zz, Zaa, Zab, Zac, Zad, Zae, Zaf, Zag, Zah, Zai, Zaj, Zak, Zal, Zam, Zan, wk1, wk, Zao, Zap, Zaq, Zar, Zas, Zat, Zau, Zav, AV.kill, AO.kill, AV.thaw, AO.thaw, Zaw, Zax, Zay, Zaz, Zba, Zbb, Zbc, Zbd, Zbe, ite_true, ite_false, reduceCtorEq, Nat.reduceAdd, Nat.reduceMul, Nat.reduceLeDiff, Nat.reduceLT, Nat.reduceEqDiff, forall_const]) ?_
  rintro x cs' ⟨y, rfl, rfl⟩
  have b1 := below_lo y (hi - lo + 1)
  have b2 := below_hi y (hi - lo + 1) (by omega)
  simp only [ZZ, IsnK_some, Za, Zb, Zc, Zd, Ze, Zf, Zg, Zh, rd, AV.un, AV.unA, AV.ad, Zi, Zj, Zk, Zl, Zm, Zn, Zo, Zp, Zq, Zr, Zs, Zt, Zu, Zv, Zw, Zx, Zy, Zz, Zaa, Zab, Zac, Zad, Zae, Zaf, Zag, Zah, Zai, Zaj, Zak, Zal, Zam, Zan, wk1, wk, Zao, Zap, Zaq, Zar, Zas, Zat, Zau, Zav, AV.kill, AO.kill, AV.thaw, AO.thaw, Zaw, Zax, Zay, Zaz, Zba, Zbb, Zbc, Zbd, Zbe, ite_true, ite_false, reduceCtorEq, Nat.reduceAdd, Nat.reduceMul, Nat.reduceLeDiff, Nat.reduceLT, Nat.reduceEqDiff, forall_const]
  exact ⟨i64_of (by omega) (by omega), fin_S (stm l (k + 1)) rfl ⟨_, rfl, by omega, by omega, rfl⟩⟩

/-- One of some elements. -/
theorem Pick_ok (l : List Int) (k : Nat) (c : List Int) (hk : k ≤ 1000000) (hl : l.length ≤ 9223372036854775807) (h0 : 0 < c.length) (h1 : c.length ≤ 1000000) :
    SCall Tryd.prog E 74 T (stm l k) [ints c] (fun x cs' => ∃ y, x = int y ∧ y ∈ c ∧ cs' = stm l (k + 1)) := by
  unfold SCall
  refine gcallP mixed Tryd.func74 ck_chasemake_Stream_Pick ?_
  simp only [a0, l0, OS.ao, List.map_cons, List.map_nil, List.length_cons, List.length_nil, List.cons_append, List.nil_append, Nat.reduceSub, Nat.reduceAdd, List.replicate_succ, List.replicate_zero, ir_chasemake_Stream_Pick, rs_chasemake_Stream_Pick, ZZ, IsnK_some, Za, Zb, Zc, Zd, Ze, Zf, Zg, Zh, rd, AV.un, AV.unA, AV.ad, Zi, Zj, Zk, Zl, Zm, Zn, Zo, Zp, Zq, Zr, Zs, Zt, Zu, Zv, Zw, Zx, Zy, Zz, Zaa, Zab, Zac, Zad, Zae, Zaf, Zag, Zah, Zai, Zaj, Zak, Zal, Zam, Zan, wk1, wk, Zao, Zap, Zaq, Zar, Zas, Zat, Zau, Zav, AV.kill, AO.kill, AV.thaw, AO.thaw, Zaw, Zax, Zay, Zaz, Zba, Zbb, Zbc, Zbd, Zbe, ite_true, ite_false, reduceCtorEq, Nat.reduceAdd, Nat.reduceMul, Nat.reduceLeDiff, Nat.reduceLT, Nat.reduceEqDiff, forall_const]
  simp only [ints, ZZ, IsnK_some, Za, Zb, Zc, Zd, Ze, Zf, Zg, Zh, rd, AV.un, AV.unA, AV.ad, Zi, Zj, Zk, Zl, Zm, Zn, Zo, Zp, Zq, Zr, Zs, Zt, Zu, Zv, Zw, Zx, Zy, Zz, Zaa, Zab, Zac, Zad, Zae, Zaf, Zag, Zah, Zai, Zaj, Zak, Zal, Zam, Zan, wk1, wk, Zao, Zap, Zaq, Zar, Zas, Zat, Zau, Zav, AV.kill, AO.kill, AV.thaw, AO.thaw, Zaw, Zax, Zay, Zaz, Zba, Zbb, Zbc, Zbd, Zbe, ite_true, ite_false, reduceCtorEq, Nat.reduceAdd, Nat.reduceMul, Nat.reduceLeDiff, Nat.reduceLT, Nat.reduceEqDiff, forall_const]
  generalize hes : c.map (fun x => [PV.int IntKind.i64 x]) = es
  have hln : es.length = c.length := by rw [← hes]; simp
  refine useS (Next_ok l k _ hk hl (by omega)) rfl rfl rfl (by simp only [ZZ, IsnK_some, Za, Zb, Zc, Zd, Ze, Zf, Zg, Zh, rd, AV.un, AV.unA, AV.ad, Zi, Zj, Zk, Zl, Zm, Zn, Zo, Zp, Zq, Zr, Zs, Zt, Zu, Zv, Zw, Zx, Zy, Zz, Zaa, Zab, Zac, Zad, Zae, Zaf, Zag, Zah, Zai, Zaj, Zak, Zal, Zam, Zan, wk1, wk, Zao, Zap, Zaq, Zar, Zas, Zat, Zau, Zav, AV.kill, AO.kill, AV.thaw, AO.thaw, Zaw, Zax, Zay, Zaz, Zba, Zbb, Zbc, Zbd, Zbe, ite_true, ite_false, reduceCtorEq, Nat.reduceAdd, Nat.reduceMul, Nat.reduceLeDiff, Nat.reduceLT, Nat.reduceEqDiff, forall_const]) ?_
  rintro x cs' ⟨y, rfl, rfl⟩
  obtain ⟨i, hi, hy⟩ := below_idx y es.length (by omega)
  rw [hy]
  obtain ⟨z, hz⟩ : ∃ z, c[i]? = some z := ⟨_, List.getElem?_eq_getElem (by omega)⟩
  have hg : es.getD i [] = [PV.int .i64 z] := by rw [← hes]; exact getD_map hz
  simp only [ZZ, IsnK_some, Za, Zb, Zc, Zd, Ze, Zf, Zg, Zh, rd, AV.un, AV.unA, AV.ad, Zi, Zj, Zk, Zl, Zm, Zn, Zo, Zp, Zq, Zr, Zs, Zt, Zu, Zv, Zw, Zx, Zy, Zz, Zaa, Zab, Zac, Zad, Zae, Zaf, Zag, Zah, Zai, Zaj, Zak, Zal, Zam, Zan, wk1, wk, Zao, Zap, Zaq, Zar, Zas, Zat, Zau, Zav, AV.kill, AO.kill, AV.thaw, AO.thaw, Zaw, Zax, Zay, Zaz, Zba, Zbb, Zbc, Zbd, Zbe, ite_true, ite_false, reduceCtorEq, Nat.reduceAdd, Nat.reduceMul, Nat.reduceLeDiff, Nat.reduceLT, Nat.reduceEqDiff, forall_const, hg]
  exact ⟨⟨by omega, by omega⟩, by omega, fin_S (stm l (k + 1)) rfl ⟨_, rfl, List.mem_of_getElem? hz, rfl⟩⟩
theorem one_ok (l : List Int) (k : Nat) (c : List (List UInt8)) (hk : k ≤ 1000000) (hl : l.length ≤ 9223372036854775807) (h0 : 0 < c.length) (h1 : c.length ≤ 1000000) :
    SCall Tryd.prog E 41 T (stm l k) [strs c] (fun x cs' => ∃ y, x = .str y ∧ y ∈ c ∧ cs' = stm l (k + 1)) := by
  unfold SCall
  refine gcallP mixed Tryd.func41 ck_chasemake_Stream_h06one ?_
  simp only [a0, l0, OS.ao, List.map_cons, List.map_nil, List.length_cons, List.length_nil, List.cons_append, List.nil_append, Nat.reduceSub, Nat.reduceAdd, List.replicate_succ, List.replicate_zero, ir_chasemake_Stream_h06one, rs_chasemake_Stream_h06one, ZZ, IsnK_some, Za, Zb, Zc, Zd, Ze, Zf, Zg, Zh, rd, AV.un, AV.unA, AV.ad, Zi, Zj, Zk, Zl, Zm, Zn, Zo, Zp, Zq, Zr, Zs, Zt, Zu, Zv, Zw, Zx, Zy, Zz, Zaa, Zab, Zac, Zad, Zae, Zaf, Zag, Zah, Zai, Zaj, Zak, Zal, Zam, Zan, wk1, wk, Zao, Zap, Zaq, Zar, Zas, Zat, Zau, Zav, AV.kill, AO.kill, AV.thaw, AO.thaw, Zaw, Zax, Zay, Zaz, Zba, Zbb, Zbc, Zbd, Zbe, ite_true, ite_false, reduceCtorEq, Nat.reduceAdd, Nat.reduceMul, Nat.reduceLeDiff, Nat.reduceLT, Nat.reduceEqDiff, forall_const]
  simp only [strs, ZZ, IsnK_some, Za, Zb, Zc, Zd, Ze, Zf, Zg, Zh, rd, AV.un, AV.unA, AV.ad, Zi, Zj, Zk, Zl, Zm, Zn, Zo, Zp, Zq, Zr, Zs, Zt, Zu, Zv, Zw, Zx, Zy, Zz, Zaa, Zab, Zac, Zad, Zae, Zaf, Zag, Zah, Zai, Zaj, Zak, Zal, Zam, Zan, wk1, wk, Zao, Zap, Zaq, Zar, Zas, Zat, Zau, Zav, AV.kill, AO.kill, AV.thaw, AO.thaw, Zaw, Zax, Zay, Zaz, Zba, Zbb, Zbc, Zbd, Zbe, ite_true, ite_false, reduceCtorEq, Nat.reduceAdd, Nat.reduceMul, Nat.reduceLeDiff, Nat.reduceLT, Nat.reduceEqDiff, forall_const]
  generalize hes : c.map (fun x => [PV.str x]) = es
  have hln : es.length = c.length := by rw [← hes]; simp
  refine useS (Next_ok l k _ hk hl (by omega)) rfl rfl rfl (by simp only [ZZ, IsnK_some, Za, Zb, Zc, Zd, Ze, Zf, Zg, Zh, rd, AV.un, AV.unA, AV.ad, Zi, Zj, Zk, Zl, Zm, Zn, Zo, Zp, Zq, Zr, Zs, Zt, Zu, Zv, Zw, Zx, Zy, Zz, Zaa, Zab, Zac, Zad, Zae, Zaf, Zag, Zah, Zai, Zaj, Zak, Zal, Zam, Zan, wk1, wk, Zao, Zap, Zaq, Zar, Zas, Zat, Zau, Zav, AV.kill, AO.kill, AV.thaw, AO.thaw, Zaw, Zax, Zay, Zaz, Zba, Zbb, Zbc, Zbd, Zbe, ite_true, ite_false, reduceCtorEq, Nat.reduceAdd, Nat.reduceMul, Nat.reduceLeDiff, Nat.reduceLT, Nat.reduceEqDiff, forall_const]) ?_
  rintro x cs' ⟨y, rfl, rfl⟩
  obtain ⟨i, hi, hy⟩ := below_idx y es.length (by omega)
  rw [hy]
  obtain ⟨z, hz⟩ : ∃ z, c[i]? = some z := ⟨_, List.getElem?_eq_getElem (by omega)⟩
  have hg : es.getD i [] = [PV.str z] := by rw [← hes]; exact getD_map hz
  simp only [ZZ, IsnK_some, Za, Zb, Zc, Zd, Ze, Zf, Zg, Zh, rd, AV.un, AV.unA, AV.ad, Zi, Zj, Zk, Zl, Zm, Zn, Zo, Zp, Zq, Zr, Zs, Zt, Zu, Zv, Zw, Zx, Zy, Zz, Zaa, Zab, Zac, Zad, Zae, Zaf, Zag, Zah, Zai, Zaj, Zak, Zal, Zam, Zan, wk1, wk, Zao, Zap, Zaq, Zar, Zas, Zat, Zau, Zav, AV.kill, AO.kill, AV.thaw, AO.thaw, Zaw, Zax, Zay, Zaz, Zba, Zbb, Zbc, Zbd, Zbe, ite_true, ite_false, reduceCtorEq, Nat.reduceAdd, Nat.reduceMul, Nat.reduceLeDiff, Nat.reduceLT, Nat.reduceEqDiff, forall_const, hg]
  exact ⟨⟨by omega, by omega⟩, by omega, fin_S (stm l (k + 1)) rfl ⟨_, rfl, List.mem_of_getElem? hz, rfl⟩⟩
end
end Go.Proofs.YtndjmidmfmcbkaaDoor

/- slices.Clone, slices.Reverse at the circle's parts. -/
namespace Go.Proofs.YtndjmidmfmcbkaaDoor
open Go.RowKit
set_option linter.unusedVariables false
set_option linter.unusedSimpArgs false
set_option linter.defProp false

/- slices.Clone[[]paperchase/api.Party,paperchase/api.Party] -/
def ir_slices_Clone_api_Party_api_Party : IC :=
  (.seq (.reg [⟨some 2, .nilr 112 3, none⟩])
    (.seq (.seq (.reg [⟨some 3, .mov (.t 0), none⟩,
      ⟨some 4, .isn (.t 3), none⟩])
    (.cond (.t 4) (.seq (.reg [⟨some 2, .nilr 112 3, none⟩])
    .ret) .skip))
    (.seq (.reg [⟨some 5, .bsr 112 3 [], none⟩,
      ⟨some 6, .mov (.t 0), none⟩,
      ⟨some 7, .app 112 3 32 (.t 5) (.t 6), none⟩,
      ⟨some 2, .mov (.t 7), none⟩])
    .ret)))
def rs_slices_Clone_api_Party_api_Party : List IRes := [.t 2]
theorem ck_slices_Clone_api_Party_api_Party : chkF Tryd.prog Tryd.f82 ir_slices_Clone_api_Party_api_Party rs_slices_Clone_api_Party_api_Party 8 = true := by kernel_rfl
/- slices.Clone[[]paperchase/api.Domain,paperchase/api.Domain] -/
def ir_slices_Clone_api_Domain_api_Domain : IC :=
  (.seq (.reg [⟨some 2, .nilr 114 3, none⟩])
    (.seq (.seq (.reg [⟨some 3, .mov (.t 0), none⟩,
      ⟨some 4, .isn (.t 3), none⟩])
    (.cond (.t 4) (.seq (.reg [⟨some 2, .nilr 114 3, none⟩])
    .ret) .skip))
    (.seq (.reg [⟨some 5, .bsr 114 3 [], none⟩,
      ⟨some 6, .mov (.t 0), none⟩,
      ⟨some 7, .app 114 3 32 (.t 5) (.t 6), none⟩,
      ⟨some 2, .mov (.t 7), none⟩])
    .ret)))
def rs_slices_Clone_api_Domain_api_Domain : List IRes := [.t 2]
theorem ck_slices_Clone_api_Domain_api_Domain : chkF Tryd.prog Tryd.f83 ir_slices_Clone_api_Domain_api_Domain rs_slices_Clone_api_Domain_api_Domain 8 = true := by kernel_rfl
/- slices.Clone[[]string,string] -/
def ir_slices_Clone_string_string : IC :=
  (.seq (.reg [⟨some 2, .nilr 9 1, none⟩])
    (.seq (.seq (.reg [⟨some 3, .mov (.t 0), none⟩,
      ⟨some 4, .isn (.t 3), none⟩])
    (.cond (.t 4) (.seq (.reg [⟨some 2, .nilr 9 1, none⟩])
    .ret) .skip))
    (.seq (.reg [⟨some 5, .bsr 9 1 [], none⟩,
      ⟨some 6, .mov (.t 0), none⟩,
      ⟨some 7, .app 9 1 16 (.t 5) (.t 6), none⟩,
      ⟨some 2, .mov (.t 7), none⟩])
    .ret)))
def rs_slices_Clone_string_string : List IRes := [.t 2]
theorem ck_slices_Clone_string_string : chkF Tryd.prog Tryd.f63 ir_slices_Clone_string_string rs_slices_Clone_string_string 8 = true := by kernel_rfl
/- slices.Reverse[[]paperchase/api.Domain,paperchase/api.Domain] -/
def ir_slices_Reverse_api_Domain_api_Domain_L0 : IC :=
  (.seq (.seq (.reg [⟨some 7, .mov (.t 2), none⟩,
      ⟨some 8, .mov (.t 3), none⟩,
      ⟨some 9, .bin .lss (.t 7) (.t 8), none⟩])
    (.cond (.t 9) .skip (.exit 0)))
    (.seq (.block 1 (.drg [⟨some 14, .mov (.t 0), none⟩,
      ⟨some 15, .mov (.t 2), none⟩,
      ⟨some 16, .mov (.t 0), none⟩,
      ⟨some 17, .mov (.t 3), none⟩,
      ⟨some 18, .mov (.t 0), none⟩,
      ⟨some 19, .mov (.t 3), none⟩,
      ⟨some 20, .ixa 3 (.t 18) (.t 19), none⟩,
      ⟨some 21, .ld 3 true (.t 20), none⟩,
      ⟨some 22, .mov (.t 0), none⟩,
      ⟨some 23, .mov (.t 2), none⟩,
      ⟨some 24, .ixa 3 (.t 22) (.t 23), none⟩,
      ⟨some 25, .ld 3 true (.t 24), none⟩,
      ⟨some 26, .ixa 3 (.t 14) (.t 15), none⟩,
      ⟨none, .st 3 (.t 26) (.t 21), none⟩,
      ⟨some 27, .ixa 3 (.t 16) (.t 17), none⟩,
      ⟨none, .st 3 (.t 27) (.t 25), none⟩]))
    (.reg [⟨some 10, .mov (.t 2), none⟩,
      ⟨some 11, .bin .add (.t 10) (.c (.int .i64 1)), none⟩,
      ⟨some 12, .mov (.t 3), none⟩,
      ⟨some 13, .bin .sub (.t 12) (.c (.int .i64 1)), none⟩,
      ⟨some 2, .mov (.t 11), none⟩,
      ⟨some 3, .mov (.t 13), none⟩])))
def ir_slices_Reverse_api_Domain_api_Domain : IC :=
  (.seq (.reg [⟨some 4, .mov (.t 0), none⟩,
      ⟨some 5, .len (.t 4), none⟩,
      ⟨some 6, .bin .sub (.t 5) (.c (.int .i64 1)), none⟩,
      ⟨some 2, .mov (.c (.int .i64 0)), none⟩,
      ⟨some 3, .mov (.t 6), none⟩])
    (.block 0 (.loop ir_slices_Reverse_api_Domain_api_Domain_L0)))
def rs_slices_Reverse_api_Domain_api_Domain : List IRes := []
theorem ck_slices_Reverse_api_Domain_api_Domain : chkF Tryd.prog Tryd.f84 ir_slices_Reverse_api_Domain_api_Domain rs_slices_Reverse_api_Domain_api_Domain 28 = true := by kernel_rfl


section
variable {E : Envt}
abbrev tParty : Nat := 112
abbrev tDomain : Nat := 114
abbrev tStrG : Nat := 9
theorem RepeatG_ok (s : List UInt8) (n : Nat) (hn : n ≤ 1000000) (hs : s.length ≤ 1000000) : PCall Tryd.prog E 42 [.str s, int n] (· = .str (Lib.repeatL s n)) :=
  pcall_flat rfl rfl fun w _ => (r_Repeat ⟨s.toArray⟩ n w (by omega) (by rw [show (⟨s.toArray⟩ : ByteArray).size = s.length from by simp [ByteArray.size]]; exact Nat.le_trans (Nat.mul_le_mul hs hn) (by decide))).mono fun e w' h => ⟨h.1, grow_below h.2⟩
theorem CloneP_ok (es : List (List PV)) (hn : es.length ≤ 1000000) : FCall Tryd.prog E 82 [.sl 3 es] tParty 3 (· = es) := by
  unfold FCall
  refine gcallR mixed Tryd.func82 ck_slices_Clone_api_Party_api_Party ?_
  simp only [a0, l0, OS.ao, List.map_cons, List.map_nil, List.length_cons, List.length_nil, List.cons_append, List.nil_append, Nat.reduceSub, Nat.reduceAdd, List.replicate_succ, List.replicate_zero, ir_slices_Clone_api_Party_api_Party, rs_slices_Clone_api_Party_api_Party, ZZ, IsnK_some, Za, Zb, Zc, Zd, Ze, Zf, Zg, Zh, rd, AV.un, AV.unA, AV.ad, Zi, Zj, Zk, Zl, Zm, Zn, Zo, Zp, Zq, Zr, Zs, Zt, Zu, Zv, Zw, Zx, Zy, Zz, Zaa, Zab, Zac, Zad, Zae, Zaf, Zag, Zah, Zai, Zaj, Zak, Zal, Zam, Zan, wk1, wk, Zao, Zap, Zaq, Zar, Zas, Zat, Zau, Zav, AV.kill, AO.kill, AV.thaw, AO.thaw, Zaw, Zax, Zay, Zaz, Zba, Zbb, Zbc, Zbd, Zbe, ite_true, ite_false, reduceCtorEq, Nat.reduceAdd, Nat.reduceMul, Nat.reduceLeDiff, Nat.reduceLT, Nat.reduceEqDiff, forall_const]
  intro b hb
  refine br ?_ ?_
  · intro h
    have := hb h
    simp only [ZZ, IsnK_some, Za, Zb, Zc, Zd, Ze, Zf, Zg, Zh, rd, AV.un, AV.unA, AV.ad, Zi, Zj, Zk, Zl, Zm, Zn, Zo, Zp, Zq, Zr, Zs, Zt, Zu, Zv, Zw, Zx, Zy, Zz, Zaa, Zab, Zac, Zad, Zae, Zaf, Zag, Zah, Zai, Zaj, Zak, Zal, Zam, Zan, wk1, wk, Zao, Zap, Zaq, Zar, Zas, Zat, Zau, Zav, AV.kill, AO.kill, AV.thaw, AO.thaw, Zaw, Zax, Zay, Zaz, Zba, Zbb, Zbc, Zbd, Zbe, ite_true, ite_false, reduceCtorEq, Nat.reduceAdd, Nat.reduceMul, Nat.reduceLeDiff, Nat.reduceLT, Nat.reduceEqDiff, forall_const]
    exact fin_F 2 [] rfl rfl this.symm
  · intro h
    simp only [ZZ, IsnK_some, Za, Zb, Zc, Zd, Ze, Zf, Zg, Zh, rd, AV.un, AV.unA, AV.ad, Zi, Zj, Zk, Zl, Zm, Zn, Zo, Zp, Zq, Zr, Zs, Zt, Zu, Zv, Zw, Zx, Zy, Zz, Zaa, Zab, Zac, Zad, Zae, Zaf, Zag, Zah, Zai, Zaj, Zak, Zal, Zam, Zan, wk1, wk, Zao, Zap, Zaq, Zar, Zas, Zat, Zau, Zav, AV.kill, AO.kill, AV.thaw, AO.thaw, Zaw, Zax, Zay, Zaz, Zba, Zbb, Zbc, Zbd, Zbe, ite_true, ite_false, reduceCtorEq, Nat.reduceAdd, Nat.reduceMul, Nat.reduceLeDiff, Nat.reduceLT, Nat.reduceEqDiff, forall_const]
    exact ⟨by omega, fin_F 5 es rfl rfl rfl⟩
theorem CloneD_ok (es : List (List PV)) (hn : es.length ≤ 1000000) : FCall Tryd.prog E 83 [.sl 3 es] tDomain 3 (· = es) := by
  unfold FCall
  refine gcallR mixed Tryd.func83 ck_slices_Clone_api_Domain_api_Domain ?_
  simp only [a0, l0, OS.ao, List.map_cons, List.map_nil, List.length_cons, List.length_nil, List.cons_append, List.nil_append, Nat.reduceSub, Nat.reduceAdd, List.replicate_succ, List.replicate_zero, ir_slices_Clone_api_Domain_api_Domain, rs_slices_Clone_api_Domain_api_Domain, ZZ, IsnK_some, Za, Zb, Zc, Zd, Ze, Zf, Zg, Zh, rd, AV.un, AV.unA, AV.ad, Zi, Zj, Zk, Zl, Zm, Zn, Zo, Zp, Zq, Zr, Zs, Zt, Zu, Zv, Zw, Zx, Zy, Zz, Zaa, Zab, Zac, Zad, Zae, Zaf, Zag, Zah, Zai, Zaj, Zak, Zal, Zam, Zan, wk1, wk, Zao, Zap, Zaq, Zar, Zas, Zat, Zau, Zav, AV.kill, AO.kill, AV.thaw, AO.thaw, Zaw, Zax, Zay, Zaz, Zba, Zbb, Zbc, Zbd, Zbe, ite_true, ite_false, reduceCtorEq, Nat.reduceAdd, Nat.reduceMul, Nat.reduceLeDiff, Nat.reduceLT, Nat.reduceEqDiff, forall_const]
  intro b hb
  refine br ?_ ?_
  · intro h
    have := hb h
    simp only [ZZ, IsnK_some, Za, Zb, Zc, Zd, Ze, Zf, Zg, Zh, rd, AV.un, AV.unA, AV.ad, Zi, Zj, Zk, Zl, Zm, Zn, Zo, Zp, Zq, Zr, Zs, Zt, Zu, Zv, Zw, Zx, Zy, Zz, Zaa, Zab, Zac, Zad, Zae, Zaf, Zag, Zah, Zai, Zaj, Zak, Zal, Zam, Zan, wk1, wk, Zao, Zap, Zaq, Zar, Zas, Zat, Zau, Zav, AV.kill, AO.kill, AV.thaw, AO.thaw, Zaw, Zax, Zay, Zaz, Zba, Zbb, Zbc, Zbd, Zbe, ite_true, ite_false, reduceCtorEq, Nat.reduceAdd, Nat.reduceMul, Nat.reduceLeDiff, Nat.reduceLT, Nat.reduceEqDiff, forall_const]
    exact fin_F 2 [] rfl rfl this.symm
  · intro h
    simp only [ZZ, IsnK_some, Za, Zb, Zc, Zd, Ze, Zf, Zg, Zh, rd, AV.un, AV.unA, AV.ad, Zi, Zj, Zk, Zl, Zm, Zn, Zo, Zp, Zq, Zr, Zs, Zt, Zu, Zv, Zw, Zx, Zy, Zz, Zaa, Zab, Zac, Zad, Zae, Zaf, Zag, Zah, Zai, Zaj, Zak, Zal, Zam, Zan, wk1, wk, Zao, Zap, Zaq, Zar, Zas, Zat, Zau, Zav, AV.kill, AO.kill, AV.thaw, AO.thaw, Zaw, Zax, Zay, Zaz, Zba, Zbb, Zbc, Zbd, Zbe, ite_true, ite_false, reduceCtorEq, Nat.reduceAdd, Nat.reduceMul, Nat.reduceLeDiff, Nat.reduceLT, Nat.reduceEqDiff, forall_const]
    exact ⟨by omega, fin_F 5 es rfl rfl rfl⟩
theorem CloneS_ok (es : List (List PV)) (hn : es.length ≤ 1000000) : FCall Tryd.prog E 63 [.sl 1 es] tStrG 1 (· = es) := by
  unfold FCall
  refine gcallR mixed Tryd.func63 ck_slices_Clone_string_string ?_
  simp only [a0, l0, OS.ao, List.map_cons, List.map_nil, List.length_cons, List.length_nil, List.cons_append, List.nil_append, Nat.reduceSub, Nat.reduceAdd, List.replicate_succ, List.replicate_zero, ir_slices_Clone_string_string, rs_slices_Clone_string_string, ZZ, IsnK_some, Za, Zb, Zc, Zd, Ze, Zf, Zg, Zh, rd, AV.un, AV.unA, AV.ad, Zi, Zj, Zk, Zl, Zm, Zn, Zo, Zp, Zq, Zr, Zs, Zt, Zu, Zv, Zw, Zx, Zy, Zz, Zaa, Zab, Zac, Zad, Zae, Zaf, Zag, Zah, Zai, Zaj, Zak, Zal, Zam, Zan, wk1, wk, Zao, Zap, Zaq, Zar, Zas, Zat, Zau, Zav, AV.kill, AO.kill, AV.thaw, AO.thaw, Zaw, Zax, Zay, Zaz, Zba, Zbb, Zbc, Zbd, Zbe, ite_true, ite_false, reduceCtorEq, Nat.reduceAdd, Nat.reduceMul, Nat.reduceLeDiff, Nat.reduceLT, Nat.reduceEqDiff, forall_const]
  intro b hb
  refine br ?_ ?_
  · intro h
    have := hb h
    simp only [ZZ, IsnK_some, Za, Zb, Zc, Zd, Ze, Zf, Zg, Zh, rd, AV.un, AV.unA, AV.ad, Zi, Zj, Zk, Zl, Zm, Zn, Zo, Zp, Zq, Zr, Zs, Zt, Zu, Zv, Zw, Zx, Zy, Zz, Zaa, Zab, Zac, Zad, Zae, Zaf, Zag, Zah, Zai, Zaj, Zak, Zal, Zam, Zan, wk1, wk, Zao, Zap, Zaq, Zar, Zas, Zat, Zau, Zav, AV.kill, AO.kill, AV.thaw, AO.thaw, Zaw, Zax, Zay, Zaz, Zba, Zbb, Zbc, Zbd, Zbe, ite_true, ite_false, reduceCtorEq, Nat.reduceAdd, Nat.reduceMul, Nat.reduceLeDiff, Nat.reduceLT, Nat.reduceEqDiff, forall_const]
    exact fin_F 2 [] rfl rfl this.symm
  · intro h
    simp only [ZZ, IsnK_some, Za, Zb, Zc, Zd, Ze, Zf, Zg, Zh, rd, AV.un, AV.unA, AV.ad, Zi, Zj, Zk, Zl, Zm, Zn, Zo, Zp, Zq, Zr, Zs, Zt, Zu, Zv, Zw, Zx, Zy, Zz, Zaa, Zab, Zac, Zad, Zae, Zaf, Zag, Zah, Zai, Zaj, Zak, Zal, Zam, Zan, wk1, wk, Zao, Zap, Zaq, Zar, Zas, Zat, Zau, Zav, AV.kill, AO.kill, AV.thaw, AO.thaw, Zaw, Zax, Zay, Zaz, Zba, Zbb, Zbc, Zbd, Zbe, ite_true, ite_false, reduceCtorEq, Nat.reduceAdd, Nat.reduceMul, Nat.reduceLeDiff, Nat.reduceLT, Nat.reduceEqDiff, forall_const]
    exact ⟨by omega, fin_F 5 es rfl rfl rfl⟩
def dom3 (s : List UInt8) (a b : Int) : List PV := [.str s, int a, int b]
theorem Reverse3_ok (s1 s2 s3 : List UInt8) (a1 a2 a3 b1 b2 b3 : Int) : RCall Tryd.prog E 84 tDomain 3 [dom3 s1 a1 b1, dom3 s2 a2 b2, dom3 s3 a3 b3] [] (fun x es' => es' = [dom3 s3 a3 b3, dom3 s2 a2 b2, dom3 s1 a1 b1]) := by
  unfold RCall
  refine gcallP mixed Tryd.func84 ck_slices_Reverse_api_Domain_api_Domain ?_
  simp only [a0, l0, OS.ao, List.map_cons, List.map_nil, List.length_cons, List.length_nil, List.cons_append, List.nil_append, Nat.reduceSub, Nat.reduceAdd, List.replicate_succ, List.replicate_zero, dom3, ir_slices_Reverse_api_Domain_api_Domain, rs_slices_Reverse_api_Domain_api_Domain, ZZ, IsnK_some, Za, Zb, Zc, Zd, Ze, Zf, Zg, Zh, rd, AV.un, AV.unA, AV.ad, Zi, Zj, Zk, Zl, Zm, Zn, Zo, Zp, Zq, Zr, Zs, Zt, Zu, Zv, Zw, Zx, Zy, Zz, Zaa, Zab, Zac, Zad, Zae, Zaf, Zag, Zah, Zai, Zaj, Zak, Zal, Zam, Zan, wk1, wk, Zao, Zap, Zaq, Zar, Zas, Zat, Zau, Zav, AV.kill, AO.kill, AV.thaw, AO.thaw, Zaw, Zax, Zay, Zaz, Zba, Zbb, Zbc, Zbd, Zbe, ite_true, ite_false, reduceCtorEq, Nat.reduceAdd, Nat.reduceMul, Nat.reduceLeDiff, Nat.reduceLT, Nat.reduceEqDiff, forall_const]
  refine ⟨i64_of (by omega) (by omega), ?_⟩
  refine loop_intro (fun n fr L => (n = 1 ∧ fr = [.row (.b 0), .any, .p (int 0), .p (int 2), .any, .any, .any, .any, .any, .any, .any, .any, .any, .any, .any, .any, .any, .any, .any, .any, .any, .any, .any, .any, .any, .any, .any, .any] ∧ L = [(.b 0, .row [dom3 s1 a1 b1, dom3 s2 a2 b2, dom3 s3 a3 b3] tDomain 3 true)]) ∨ (n = 0 ∧ fr = [.row (.b 0), .any, .p (int 1), .p (int 1), .any, .any, .any, .any, .any, .any, .any, .any, .any, .any, .any, .any, .any, .any, .any, .any, .any, .any, .any, .any, .any, .any, .any, .any] ∧ L = [(.b 0, .row [dom3 s3 a3 b3, dom3 s2 a2 b2, dom3 s1 a1 b1] tDomain 3 true)])) 1 [.row (.b 0), .any, .p (int 0), .p (int 2), .any, .any, .any, .any, .any, .any, .any, .any, .any, .any, .any, .any, .any, .any, .any, .any, .any, .any, .any, .any, .any, .any, .any, .any] [(.b 0, .row [dom3 s1 a1 b1, dom3 s2 a2 b2, dom3 s3 a3 b3] tDomain 3 true)] (by (simp only [ZZ, IsnK_some, Za, Zb, Zc, Zd, Ze, Zf, Zg, Zh, rd, AV.un, AV.unA, AV.ad, Zi, Zj, Zk, Zl, Zm, Zn, Zo, Zp, Zq, Zr, Zs, Zt, Zu, Zv, Zw, Zx, Zy, Zz, Zaa, Zab, Zac, Zad, Zae, Zaf, Zag, Zah, Zai, Zaj, Zak, Zal, Zam, Zan, wk1, wk, Zao, Zap, Zaq, Zar, Zas, Zat, Zau, Zav, AV.kill, AO.kill, AV.thaw, AO.thaw, Zaw, Zax, Zay, Zaz, Zba, Zbb, Zbc, Zbd, Zbe, ite_true, ite_false, reduceCtorEq, Nat.reduceAdd, Nat.reduceMul, Nat.reduceLeDiff, Nat.reduceLT, Nat.reduceEqDiff, forall_const]; try trivial)) (by simp only [ZZ, IsnK_some, Za, Zb, Zc, Zd, Ze, Zf, Zg, Zh, rd, AV.un, AV.unA, AV.ad, Zi, Zj, Zk, Zl, Zm, Zn, Zo, Zp, Zq, Zr, Zs, Zt, Zu, Zv, Zw, Zx, Zy, Zz, Zaa, Zab, Zac, Zad, Zae, Zaf, Zag, Zah, Zai, Zaj, Zak, Zal, Zam, Zan, wk1, wk, Zao, Zap, Zaq, Zar, Zas, Zat, Zau, Zav, AV.kill, AO.kill, AV.thaw, AO.thaw, Zaw, Zax, Zay, Zaz, Zba, Zbb, Zbc, Zbd, Zbe, ite_true, ite_false, reduceCtorEq, Nat.reduceAdd, Nat.reduceMul, Nat.reduceLeDiff, Nat.reduceLT, Nat.reduceEqDiff, forall_const, dom3]) (.inl ⟨rfl, rfl, rfl⟩) ?_
  rintro n fr L (⟨rfl, rfl, rfl⟩ | ⟨rfl, rfl, rfl⟩)
  · simp only [dom3, ir_slices_Reverse_api_Domain_api_Domain_L0, ZZ, IsnK_some, Za, Zb, Zc, Zd, Ze, Zf, Zg, Zh, rd, AV.un, AV.unA, AV.ad, Zi, Zj, Zk, Zl, Zm, Zn, Zo, Zp, Zq, Zr, Zs, Zt, Zu, Zv, Zw, Zx, Zy, Zz, Zaa, Zab, Zac, Zad, Zae, Zaf, Zag, Zah, Zai, Zaj, Zak, Zal, Zam, Zan, wk1, wk, Zao, Zap, Zaq, Zar, Zas, Zat, Zau, Zav, AV.kill, AO.kill, AV.thaw, AO.thaw, Zaw, Zax, Zay, Zaz, Zba, Zbb, Zbc, Zbd, Zbe, ite_true, ite_false, reduceCtorEq, Nat.reduceAdd, Nat.reduceMul, Nat.reduceLeDiff, Nat.reduceLT, Nat.reduceEqDiff, forall_const]
    refine br ?_ ?_
    · intro _
      simp only [ZZ, IsnK_some, Za, Zb, Zc, Zd, Ze, Zf, Zg, Zh, rd, AV.un, AV.unA, AV.ad, Zi, Zj, Zk, Zl, Zm, Zn, Zo, Zp, Zq, Zr, Zs, Zt, Zu, Zv, Zw, Zx, Zy, Zz, Zaa, Zab, Zac, Zad, Zae, Zaf, Zag, Zah, Zai, Zaj, Zak, Zal, Zam, Zan, wk1, wk, Zao, Zap, Zaq, Zar, Zas, Zat, Zau, Zav, AV.kill, AO.kill, AV.thaw, AO.thaw, Zaw, Zax, Zay, Zaz, Zba, Zbb, Zbc, Zbd, Zbe, ite_true, ite_false, reduceCtorEq, Nat.reduceAdd, Nat.reduceMul, Nat.reduceLeDiff, Nat.reduceLT, Nat.reduceEqDiff, forall_const]
      refine drg0 ?_
      simp only [ZZ, IsnK_some, Za, Zb, Zc, Zd, Ze, Zf, Zg, Zh, rd, AV.un, AV.unA, AV.ad, Zi, Zj, Zk, Zl, Zm, Zn, Zo, Zp, Zq, Zr, Zs, Zt, Zu, Zv, Zw, Zx, Zy, Zz, Zaa, Zab, Zac, Zad, Zae, Zaf, Zag, Zah, Zai, Zaj, Zak, Zal, Zam, Zan, wk1, wk, Zao, Zap, Zaq, Zar, Zas, Zat, Zau, Zav, AV.kill, AO.kill, AV.thaw, AO.thaw, Zaw, Zax, Zay, Zaz, Zba, Zbb, Zbc, Zbd, Zbe, ite_true, ite_false, reduceCtorEq, Nat.reduceAdd, Nat.reduceMul, Nat.reduceLeDiff, Nat.reduceLT, Nat.reduceEqDiff, forall_const, show Int.toNat 2 = 2 from rfl, show Int.toNat 0 = 0 from rfl]
      ((repeat' (with_reducible apply And.intro)) <;> try ((first | first | assumption | trivial | exact (fun hq => by rw [hq]; rfl) | exact i64_of (by omega) (by omega) | omega | (simp; done) | (simp; omega) | (intro hsc; have hs0 := hsc; (try have hsd := of_decide_eq_true hsc); (try simp only [Bool.not_eq_true', Bool.or_eq_false_iff, Bool.and_eq_true, Bool.or_eq_true, decide_eq_true_eq, decide_eq_false_iff_not] at hsc); (repeat' (with_reducible apply And.intro)) <;> (first | assumption | trivial | exact (fun hq => by rw [hq]; rfl) | exact i64_of (by omega) (by omega) | omega | (simp; done) | (simp; omega) | (intro hse; simp [hse, hs0]; done) | (intro hse; simp only [hse, hs0, Bool.true_and, Bool.and_true, Bool.not_false, Bool.not_true, Bool.and_self]; done))))))
      refine end_round 0 [.row (.b 0), .any, .p (int 1), .p (int 1), .any, .any, .any, .any, .any, .any, .any, .any, .any, .any, .any, .any, .any, .any, .any, .any, .any, .any, .any, .any, .any, .any, .any, .any] [(.b 0, .row [dom3 s3 a3 b3, dom3 s2 a2 b2, dom3 s1 a1 b1] tDomain 3 true)] (by omega) (by (simp only [ZZ, IsnK_some, Za, Zb, Zc, Zd, Ze, Zf, Zg, Zh, rd, AV.un, AV.unA, AV.ad, Zi, Zj, Zk, Zl, Zm, Zn, Zo, Zp, Zq, Zr, Zs, Zt, Zu, Zv, Zw, Zx, Zy, Zz, Zaa, Zab, Zac, Zad, Zae, Zaf, Zag, Zah, Zai, Zaj, Zak, Zal, Zam, Zan, wk1, wk, Zao, Zap, Zaq, Zar, Zas, Zat, Zau, Zav, AV.kill, AO.kill, AV.thaw, AO.thaw, Zaw, Zax, Zay, Zaz, Zba, Zbb, Zbc, Zbd, Zbe, ite_true, ite_false, reduceCtorEq, Nat.reduceAdd, Nat.reduceMul, Nat.reduceLeDiff, Nat.reduceLT, Nat.reduceEqDiff, forall_const]; try trivial)) (by simp only [ZZ, IsnK_some, Za, Zb, Zc, Zd, Ze, Zf, Zg, Zh, rd, AV.un, AV.unA, AV.ad, Zi, Zj, Zk, Zl, Zm, Zn, Zo, Zp, Zq, Zr, Zs, Zt, Zu, Zv, Zw, Zx, Zy, Zz, Zaa, Zab, Zac, Zad, Zae, Zaf, Zag, Zah, Zai, Zaj, Zak, Zal, Zam, Zan, wk1, wk, Zao, Zap, Zaq, Zar, Zas, Zat, Zau, Zav, AV.kill, AO.kill, AV.thaw, AO.thaw, Zaw, Zax, Zay, Zaz, Zba, Zbb, Zbc, Zbd, Zbe, ite_true, ite_false, reduceCtorEq, Nat.reduceAdd, Nat.reduceMul, Nat.reduceLeDiff, Nat.reduceLT, Nat.reduceEqDiff, forall_const, dom3]) (.inr ⟨rfl, rfl, rfl⟩)
    · intro h; exact absurd (of_decide_eq_false h) (by omega)
  · simp only [dom3, ir_slices_Reverse_api_Domain_api_Domain_L0, ZZ, IsnK_some, Za, Zb, Zc, Zd, Ze, Zf, Zg, Zh, rd, AV.un, AV.unA, AV.ad, Zi, Zj, Zk, Zl, Zm, Zn, Zo, Zp, Zq, Zr, Zs, Zt, Zu, Zv, Zw, Zx, Zy, Zz, Zaa, Zab, Zac, Zad, Zae, Zaf, Zag, Zah, Zai, Zaj, Zak, Zal, Zam, Zan, wk1, wk, Zao, Zap, Zaq, Zar, Zas, Zat, Zau, Zav, AV.kill, AO.kill, AV.thaw, AO.thaw, Zaw, Zax, Zay, Zaz, Zba, Zbb, Zbc, Zbd, Zbe, ite_true, ite_false, reduceCtorEq, Nat.reduceAdd, Nat.reduceMul, Nat.reduceLeDiff, Nat.reduceLT, Nat.reduceEqDiff, forall_const]
    refine br ?_ ?_
    · intro h; exact absurd (of_decide_eq_true h) (by omega)
    · intro _
      simp only [ZZ, IsnK_some, Za, Zb, Zc, Zd, Ze, Zf, Zg, Zh, rd, AV.un, AV.unA, AV.ad, Zi, Zj, Zk, Zl, Zm, Zn, Zo, Zp, Zq, Zr, Zs, Zt, Zu, Zv, Zw, Zx, Zy, Zz, Zaa, Zab, Zac, Zad, Zae, Zaf, Zag, Zah, Zai, Zaj, Zak, Zal, Zam, Zan, wk1, wk, Zao, Zap, Zaq, Zar, Zas, Zat, Zau, Zav, AV.kill, AO.kill, AV.thaw, AO.thaw, Zaw, Zax, Zay, Zaz, Zba, Zbb, Zbc, Zbd, Zbe, ite_true, ite_false, reduceCtorEq, Nat.reduceAdd, Nat.reduceMul, Nat.reduceLeDiff, Nat.reduceLT, Nat.reduceEqDiff, forall_const]
      exact fin_R _ rfl rfl
end
end Go.Proofs.YtndjmidmfmcbkaaDoor

/- The circle of a text: what the maker makes. -/
namespace Go.Proofs.YtndjmidmfmcbkaaDoor
set_option linter.unusedVariables false
set_option linter.unusedSimpArgs false
set_option linter.defProp false

/- (*paperchase/chasemake.Stream).Circle -/
def ir_chasemake_Stream_Circle : IC :=
  (.seq (.reg [⟨some 2, .alc 63 [.nl 3, .nl 3, .nl 1, .nl 1], none⟩])
    (.seq (.drg [⟨none, .fz (.t 11), none⟩,
      ⟨none, .hole 14, none⟩,
      ⟨none, .hole 3, none⟩,
      ⟨some 4, .bld [.str [], .int .i64 0, .int .i64 0] [(0, 1, .c (.str [97, 105, 100, 64, 111, 117, 114, 115, 46, 100, 101])), (1, 1, .c (.int .i64 1)), (2, 1, .c (.int .i64 3))], none⟩,
      ⟨some 5, .bld [.str [], .int .i64 0, .int .i64 0] [(0, 1, .c (.str [97, 110, 110, 64, 102, 105, 114, 109, 46, 100, 101])), (1, 1, .c (.int .i64 1)), (2, 1, .c (.int .i64 2))], none⟩,
      ⟨some 6, .bld [.str [], .int .i64 0, .int .i64 0] [(0, 1, .c (.str [108, 97, 119, 64, 111, 117, 114, 115, 46, 100, 101])), (1, 1, .c (.int .i64 1)), (2, 1, .c (.int .i64 1))], none⟩,
      ⟨some 7, .bsl 3 [.t 4, .t 5, .t 6], none⟩,
      ⟨some 8, .bld [.str [], .int .i64 0, .int .i64 0] [(0, 1, .c (.str [102, 105, 114, 109, 46, 100, 101])), (1, 1, .c (.int .i64 1)), (2, 1, .c (.int .i64 4))], none⟩,
      ⟨some 9, .mov (.t 0), none⟩,
      ⟨some 10, .bsl 1 [.c (.int .i64 2), .c (.int .i64 1)], none⟩,
      ⟨some 11, .dcall true 74 [.t 9, .t 10], none⟩,
      ⟨some 12, .bld [.str [], .int .i64 0, .int .i64 0] [(0, 1, .c (.str [120, 46, 102, 105, 114, 109, 46, 100, 101])), (1, 1, .t 11), (2, 1, .c (.int .i64 2))], none⟩,
      ⟨some 13, .bld [.str [], .int .i64 0, .int .i64 0] [(0, 1, .c (.str [111, 117, 114, 115, 46, 100, 101])), (1, 1, .c (.int .i64 1)), (2, 1, .c (.int .i64 4))], none⟩,
      ⟨some 14, .bsrd 114 3 [.t 8, .t 12, .t 13], none⟩,
      ⟨some 15, .bsl 1 [.c (.str [108, 101, 103, 97, 108, 32, 97, 100, 118, 105, 99, 101])], none⟩,
      ⟨some 16, .bsl 1 [.c (.str [99, 97, 114, 101, 102, 117, 108]), .c (.str [108, 101, 103, 97, 108, 32, 97, 100, 118, 105, 99, 101]), .c (.str [112, 114, 105, 118, 105, 108, 101, 103, 101, 100, 32, 97, 110, 100, 32, 99, 111, 110, 102, 105, 100, 101, 110, 116, 105, 97, 108])], none⟩,
      ⟨some 17, .bsl 1 [.t 15, .t 16, .c (.nl 1)], none⟩,
      ⟨some 18, .mov (.t 0), none⟩,
      ⟨some 19, .dcall true 39 [.t 18, .c (.int .i64 3)], none⟩,
      ⟨some 20, .ixa 1 (.t 17) (.t 19), none⟩,
      ⟨some 21, .ldl 1 false (.t 20), none⟩,
      ⟨some 22, .bsl 1 [.c (.str [97, 108, 108, 64, 102, 105, 114, 109, 46, 100, 101])], none⟩,
      ⟨some 23, .bsl 1 [.t 22, .c (.nl 1)], none⟩,
      ⟨some 24, .mov (.t 0), none⟩,
      ⟨some 25, .dcall true 39 [.t 24, .c (.int .i64 2)], none⟩,
      ⟨some 26, .ixa 1 (.t 23) (.t 25), none⟩,
      ⟨some 27, .ldl 1 false (.t 26), none⟩,
      ⟨some 28, .bldg [.nl 3, .nl 3, .nl 1, .nl 1] [(0, 1, .t 7), (1, 1, .t 14), (2, 1, .t 21), (3, 1, .t 27)], none⟩,
      ⟨some 3, .alcd 63 [.nl 3, .nl 3, .nl 1, .nl 1], none⟩,
      ⟨none, .stg 4 (.t 3) (.t 28), none⟩])
    (.seq (.seq (.reg [⟨some 29, .mov (.t 0), none⟩,
      ⟨some 30, .call 17 [.t 29, .c (.int .i64 4)], none⟩])
    (.cond (.t 30) (.drg [⟨some 31, .fla 0 (.t 3), none⟩,
      ⟨some 32, .ldl 1 false (.t 31), none⟩,
      ⟨some 33, .mov (.t 0), none⟩,
      ⟨some 34, .dcall true 39 [.t 33, .c (.int .i64 2)], none⟩,
      ⟨some 35, .vsl 3 (.t 32) (some (.t 34)) none, none⟩,
      ⟨some 36, .fla 0 (.t 3), none⟩,
      ⟨none, .st 1 (.t 36) (.t 35), none⟩]) .skip))
    (.cut (.seq (.seq (.reg [⟨some 37, .mov (.t 0), none⟩,
      ⟨some 38, .call 17 [.t 37, .c (.int .i64 12)], none⟩])
    (.cond (.t 38) (.seq (.reg [⟨some 39, .mov (.t 0), none⟩,
      ⟨some 40, .call 39 [.t 39, .c (.int .i64 6)], none⟩])
    (.block 0 (.seq (.reg [⟨some 45, .bin .eql (.t 40) (.c (.int .i64 0)), none⟩,
      ⟨some 44, .mov (.t 45), none⟩])
    (.cond (.t 44) (.reg [⟨some 46, .fla 0 (.t 3), none⟩,
      ⟨some 47, .ld 1 false (.t 46), none⟩,
      ⟨some 48, .call 82 [.t 47], none⟩,
      ⟨some 49, .mov (.t 0), none⟩,
      ⟨some 50, .bsl 1 [.c (.str [122, 64, 122, 46, 100, 101]), .c (.str [97, 64, 97, 46, 100, 101]), .c (.str [122])], none⟩,
      ⟨some 51, .call 41 [.t 49, .t 50], none⟩,
      ⟨some 52, .mov (.t 0), none⟩,
      ⟨some 53, .call 73 [.t 52, .c (.int .i64 0), .c (.int .i64 4)], none⟩,
      ⟨some 54, .mov (.t 0), none⟩,
      ⟨some 55, .call 73 [.t 54, .c (.int .i64 0), .c (.int .i64 5)], none⟩,
      ⟨none, .fz (.t 51), none⟩,
      ⟨none, .fz (.t 53), none⟩,
      ⟨none, .fz (.t 55), none⟩,
      ⟨some 56, .bld [.str [], .int .i64 0, .int .i64 0] [(0, 1, .t 51), (1, 1, .t 53), (2, 1, .t 55)], none⟩,
      ⟨some 57, .bsl 3 [.t 56], none⟩,
      ⟨some 58, .app 112 3 32 (.t 48) (.t 57), none⟩,
      ⟨some 59, .fla 0 (.t 3), none⟩,
      ⟨none, .st 1 (.t 59) (.t 58), none⟩,
      ⟨none, .fz (.t 58), none⟩]) (.seq (.reg [⟨some 61, .bin .eql (.t 40) (.c (.int .i64 1)), none⟩,
      ⟨some 60, .mov (.t 61), none⟩])
    (.cond (.t 60) (.reg [⟨some 62, .fla 1 (.t 3), none⟩,
      ⟨some 63, .ld 1 false (.t 62), none⟩,
      ⟨none, .fz (.t 63), none⟩,
      ⟨some 64, .call 83 [.t 63], none⟩,
      ⟨some 65, .mov (.t 0), none⟩,
      ⟨some 66, .bsl 1 [.c (.str [102, 105, 114, 109, 46, 100, 101]), .c (.str [100, 101]), .c (.str [97, 46, 98]), .c (.str [])], none⟩,
      ⟨some 67, .call 41 [.t 65, .t 66], none⟩,
      ⟨some 68, .mov (.t 0), none⟩,
      ⟨some 69, .call 73 [.t 68, .c (.int .i64 0), .c (.int .i64 4)], none⟩,
      ⟨some 70, .mov (.t 0), none⟩,
      ⟨some 71, .call 73 [.t 70, .c (.int .i64 0), .c (.int .i64 5)], none⟩,
      ⟨none, .fz (.t 67), none⟩,
      ⟨none, .fz (.t 69), none⟩,
      ⟨none, .fz (.t 71), none⟩,
      ⟨some 72, .bld [.str [], .int .i64 0, .int .i64 0] [(0, 1, .t 67), (1, 1, .t 69), (2, 1, .t 71)], none⟩,
      ⟨some 73, .bsl 3 [.t 72], none⟩,
      ⟨some 74, .app 114 3 32 (.t 64) (.t 73), none⟩,
      ⟨some 75, .fla 1 (.t 3), none⟩,
      ⟨none, .st 1 (.t 75) (.t 74), none⟩,
      ⟨none, .fz (.t 74), none⟩]) (.seq (.reg [⟨some 77, .bin .eql (.t 40) (.c (.int .i64 2)), none⟩,
      ⟨some 76, .mov (.t 77), none⟩])
    (.cond (.t 76) (.reg [⟨some 78, .fla 2 (.t 3), none⟩,
      ⟨some 79, .ld 1 false (.t 78), none⟩,
      ⟨some 80, .call 63 [.t 79], none⟩,
      ⟨some 81, .mov (.t 0), none⟩,
      ⟨some 82, .call 42 [.c (.str [122]), .c (.int .i64 60)], none⟩,
      ⟨some 83, .call 42 [.c (.str [122]), .c (.int .i64 61)], none⟩,
      ⟨some 84, .bsl 1 [.c (.str []), .c (.str [90, 101, 100]), .c (.str [122, 101, 100]), .c (.str [97]), .c (.str [122, 255]), .t 82, .t 83], none⟩,
      ⟨some 85, .call 41 [.t 81, .t 84], none⟩,
      ⟨none, .fz (.t 85), none⟩,
      ⟨some 86, .bsl 1 [.t 85], none⟩,
      ⟨some 87, .app 9 1 16 (.t 80) (.t 86), none⟩,
      ⟨some 88, .fla 2 (.t 3), none⟩,
      ⟨none, .st 1 (.t 88) (.t 87), none⟩,
      ⟨none, .fz (.t 87), none⟩]) (.seq (.reg [⟨some 90, .bin .eql (.t 40) (.c (.int .i64 3)), none⟩,
      ⟨some 89, .mov (.t 90), none⟩])
    (.cond (.t 89) (.reg [⟨some 91, .fla 3 (.t 3), none⟩,
      ⟨some 92, .ld 1 false (.t 91), none⟩,
      ⟨some 93, .call 63 [.t 92], none⟩,
      ⟨some 94, .mov (.t 0), none⟩,
      ⟨some 95, .bsl 1 [.c (.str []), .c (.str [97, 108, 108, 64, 102, 105, 114, 109, 46, 100, 101]), .c (.str [122, 111, 101, 64, 102, 105, 114, 109, 46, 100, 101])], none⟩,
      ⟨some 96, .call 41 [.t 94, .t 95], none⟩,
      ⟨none, .fz (.t 96), none⟩,
      ⟨some 97, .bsl 1 [.t 96], none⟩,
      ⟨some 98, .app 9 1 16 (.t 93) (.t 97), none⟩,
      ⟨some 99, .fla 3 (.t 3), none⟩,
      ⟨none, .st 1 (.t 99) (.t 98), none⟩,
      ⟨none, .fz (.t 98), none⟩]) (.reg [⟨some 41, .fla 1 (.t 3), none⟩,
      ⟨some 42, .ld 1 false (.t 41), none⟩,
      ⟨some 43, .call 84 [.t 42], none⟩]))))))))))) .skip))
    (.cut (.seq (.reg [⟨none, .fz (.t 14), none⟩,
      ⟨some 100, .ld 4 true (.t 3), none⟩,
      ⟨none, .st 4 (.t 2) (.t 100), none⟩])
    .ret)))))))
def rs_chasemake_Stream_Circle : List IRes := [.c 2 4 true]
theorem ck_chasemake_Stream_Circle : chkF Tryd.prog Tryd.f37 ir_chasemake_Stream_Circle rs_chasemake_Stream_Circle 101 = true := by kernel_rfl


section
variable {E : Envt}
abbrev tCircle : Nat := 63
abbrev Par := List UInt8 × Int × Int
def par (q : Par) : List PV := [.str q.1, int q.2.1, int q.2.2]
def pS : List (List UInt8) := [[97, 105, 100, 64, 111, 117, 114, 115, 46, 100, 101], [97, 110, 110, 64, 102, 105, 114, 109, 46, 100, 101], [108, 97, 119, 64, 111, 117, 114, 115, 46, 100, 101], [122, 64, 122, 46, 100, 101], [97, 64, 97, 46, 100, 101], [122]]
def dS : List (List UInt8) := [[102, 105, 114, 109, 46, 100, 101], [120, 46, 102, 105, 114, 109, 46, 100, 101], [111, 117, 114, 115, 46, 100, 101], [100, 101], [97, 46, 98], []]
def t1 : List UInt8 := [108, 101, 103, 97, 108, 32, 97, 100, 118, 105, 99, 101]
def t0 : List UInt8 := [99, 97, 114, 101, 102, 117, 108]
def t2 : List UInt8 := [112, 114, 105, 118, 105, 108, 101, 103, 101, 100, 32, 97, 110, 100, 32, 99, 111, 110, 102, 105, 100, 101, 110, 116, 105, 97, 108]
def allF : List UInt8 := [97, 108, 108, 64, 102, 105, 114, 109, 46, 100, 101]
def p0 : List Par := [([97, 105, 100, 64, 111, 117, 114, 115, 46, 100, 101], 1, 3), ([97, 110, 110, 64, 102, 105, 114, 109, 46, 100, 101], 1, 2), ([108, 97, 119, 64, 111, 117, 114, 115, 46, 100, 101], 1, 1)]
def d0 (y : Int) : List Par := [([102, 105, 114, 109, 46, 100, 101], 1, 4), ([120, 46, 102, 105, 114, 109, 46, 100, 101], y, 2), ([111, 117, 114, 115, 46, 100, 101], 1, 4)]
def circ (P D : List Par) (T X : List (List UInt8)) : List PV := [.sl 3 (P.map par), .sl 3 (D.map par), strs T, strs X]

/-- What the parts of a circle may be. -/
def parOk (S : List (List UInt8)) (q : Par) : Prop := q.1 ∈ S ∧ 0 ≤ q.2.1 ∧ q.2.1 ≤ 4 ∧ 0 ≤ q.2.2 ∧ q.2.2 ≤ 5
def tS : List (List UInt8) := [[], [90, 101, 100], [122, 101, 100], [97], [122, 255], Lib.repeatL [122] 60, Lib.repeatL [122] 61]
def xS : List (List UInt8) := [[], [97, 108, 108, 64, 102, 105, 114, 109, 46, 100, 101], [122, 111, 101, 64, 102, 105, 114, 109, 46, 100, 101]]
def CircOk (P D : List Par) (Ts X : List (List UInt8)) : Prop :=
  P.length ≤ 4 ∧ (∀ p ∈ P, parOk pS p) ∧ D.length ≤ 4 ∧ (∀ p ∈ D, parOk dS p) ∧ (∃ T0 ∈ [[t1], [t0, t1, t2], []], Ts = T0 ∨ ∃ t ∈ tS, Ts = T0 ++ [t]) ∧ (∃ X0 ∈ [[allF], []], X = X0 ∨ ∃ t ∈ xS, X = X0 ++ [t])
theorem p0_ok : ∀ p ∈ p0, parOk pS p := by
  intro p hp
  simp only [p0, List.mem_cons, List.not_mem_nil, or_false] at hp
  rcases hp with rfl | rfl | rfl <;> simp [parOk, pS]
theorem d0_ok {y : Int} (hy : 0 ≤ y ∧ y ≤ 4) : ∀ p ∈ d0 y, parOk dS p := by
  intro p hp
  simp only [d0, List.mem_cons, List.not_mem_nil, or_false] at hp
  rcases hp with rfl | rfl | rfl <;> simp [parOk, dS] <;> omega
theorem Circle_ok (l : List Int) (k : Nat) (hk : k ≤ 900000) (hl : l.length ≤ 9223372036854775807) :
    SCall Tryd.prog E 37 T (stm l k) [] (fun x cs' => ∃ P D Ts X k', CircOk P D Ts X ∧ x = .agg (circ P D Ts X) ∧ cs' = stm l k' ∧ k' ≤ k + 20) := by
  unfold SCall
  refine gcallP mixed Tryd.func37 ck_chasemake_Stream_Circle ?_
  simp only [a0, l0, OS.ao, List.map_cons, List.map_nil, List.length_cons, List.length_nil, List.cons_append, List.nil_append, Nat.reduceSub, Nat.reduceAdd, List.replicate_succ, List.replicate_zero, ir_chasemake_Stream_Circle, rs_chasemake_Stream_Circle, ZZ, IsnK_some, Za, Zb, Zc, Zd, Ze, Zf, Zg, Zh, rd, AV.un, AV.unA, AV.ad, Zi, Zj, Zk, Zl, Zm, Zn, Zo, Zp, Zq, Zr, Zs, Zt, Zu, Zv, Zw, Zx, Zy, Zz, Zaa, Zab, Zac, Zad, Zae, Zaf, Zag, Zah, Zai, Zaj, Zak, Zal, Zam, Zan, wk1, wk, Zao, Zap, Zaq, Zar, Zas, Zat, Zau, Zav, AV.kill, AO.kill, AV.thaw, AO.thaw, Zaw, Zax, Zay, Zaz, Zba, Zbb, Zbc, Zbd, Zbe, ite_true, ite_false, reduceCtorEq, Nat.reduceAdd, Nat.reduceMul, Nat.reduceLeDiff, Nat.reduceLT, Nat.reduceEqDiff, forall_const]
  refine drg0 ?_
  simp only [ZZ, IsnK_some, Za, Zb, Zc, Zd, Ze, Zf, Zg, Zh, rd, AV.un, AV.unA, AV.ad, Zi, Zj, Zk, Zl, Zm, Zn, Zo, Zp, Zq, Zr, Zs, Zt, Zu, Zv, Zw, Zx, Zy, Zz, Zaa, Zab, Zac, Zad, Zae, Zaf, Zag, Zah, Zai, Zaj, Zak, Zal, Zam, Zan, wk1, wk, Zao, Zap, Zaq, Zar, Zas, Zat, Zau, Zav, AV.kill, AO.kill, AV.thaw, AO.thaw, Zaw, Zax, Zay, Zaz, Zba, Zbb, Zbc, Zbd, Zbe, ite_true, ite_false, reduceCtorEq, Nat.reduceAdd, Nat.reduceMul, Nat.reduceLeDiff, Nat.reduceLT, Nat.reduceEqDiff, forall_const]
  refine useD (Pick_ok l k [2, 1] (by omega) hl (by simp) (by simp)) ⟨_, _, 2, rfl, by simp, rfl⟩ rfl rfl rfl (by simp only [ZZ, IsnK_some, Za, Zb, Zc, Zd, Ze, Zf, Zg, Zh, rd, AV.un, AV.unA, AV.ad, Zi, Zj, Zk, Zl, Zm, Zn, Zo, Zp, Zq, Zr, Zs, Zt, Zu, Zv, Zw, Zx, Zy, Zz, Zaa, Zab, Zac, Zad, Zae, Zaf, Zag, Zah, Zai, Zaj, Zak, Zal, Zam, Zan, wk1, wk, Zao, Zap, Zaq, Zar, Zas, Zat, Zau, Zav, AV.kill, AO.kill, AV.thaw, AO.thaw, Zaw, Zax, Zay, Zaz, Zba, Zbb, Zbc, Zbd, Zbe, ite_true, ite_false, reduceCtorEq, Nat.reduceAdd, Nat.reduceMul, Nat.reduceLeDiff, Nat.reduceLT, Nat.reduceEqDiff, forall_const]) (fun _ => ⟨0, rfl⟩) ?_
  rintro x cs' ⟨y, rfl, hy, rfl⟩
  have hy' : 0 ≤ y ∧ y ≤ 4 := by simp at hy; omega
  simp only [ZZ, IsnK_some, Za, Zb, Zc, Zd, Ze, Zf, Zg, Zh, rd, AV.un, AV.unA, AV.ad, Zi, Zj, Zk, Zl, Zm, Zn, Zo, Zp, Zq, Zr, Zs, Zt, Zu, Zv, Zw, Zx, Zy, Zz, Zaa, Zab, Zac, Zad, Zae, Zaf, Zag, Zah, Zai, Zaj, Zak, Zal, Zam, Zan, wk1, wk, Zao, Zap, Zaq, Zar, Zas, Zat, Zau, Zav, AV.kill, AO.kill, AV.thaw, AO.thaw, Zaw, Zax, Zay, Zaz, Zba, Zbb, Zbc, Zbd, Zbe, ite_true, ite_false, reduceCtorEq, Nat.reduceAdd, Nat.reduceMul, Nat.reduceLeDiff, Nat.reduceLT, Nat.reduceEqDiff, forall_const]
  refine useD (Next_ok l (k + 1) 3 (by omega) hl (by decide)) ⟨_, _, 0, rfl, rfl⟩ rfl rfl rfl (by simp only [ZZ, IsnK_some, Za, Zb, Zc, Zd, Ze, Zf, Zg, Zh, rd, AV.un, AV.unA, AV.ad, Zi, Zj, Zk, Zl, Zm, Zn, Zo, Zp, Zq, Zr, Zs, Zt, Zu, Zv, Zw, Zx, Zy, Zz, Zaa, Zab, Zac, Zad, Zae, Zaf, Zag, Zah, Zai, Zaj, Zak, Zal, Zam, Zan, wk1, wk, Zao, Zap, Zaq, Zar, Zas, Zat, Zau, Zav, AV.kill, AO.kill, AV.thaw, AO.thaw, Zaw, Zax, Zay, Zaz, Zba, Zbb, Zbc, Zbd, Zbe, ite_true, ite_false, reduceCtorEq, Nat.reduceAdd, Nat.reduceMul, Nat.reduceLeDiff, Nat.reduceLT, Nat.reduceEqDiff, forall_const]) (fun _ => ⟨0, rfl⟩) ?_
  rintro x cs' ⟨y2, rfl, rfl⟩
  obtain ⟨i, hi, hbi⟩ := below_idx y2 3 (by omega)
  replace hbi : below y2 3 = i := hbi
  rw [hbi]
  obtain ⟨T0, hT0, hg⟩ : ∃ T0 : List (List UInt8), T0 ∈ [[t1], [t0, t1, t2], []] ∧ ([[PV.sl 1 [[.str [108, 101, 103, 97, 108, 32, 97, 100, 118, 105, 99, 101]]]], [PV.sl 1 [[.str [99, 97, 114, 101, 102, 117, 108]], [.str [108, 101, 103, 97, 108, 32, 97, 100, 118, 105, 99, 101]], [.str [112, 114, 105, 118, 105, 108, 101, 103, 101, 100, 32, 97, 110, 100, 32, 99, 111, 110, 102, 105, 100, 101, 110, 116, 105, 97, 108]]]], [PV.sl 1 []]] : List (List PV)).getD i [] = [.sl 1 (T0.map fun x => [PV.str x])] := by
    match i, hi with
    | 0, _ => exact ⟨[t1], by simp, rfl⟩
    | 1, _ => exact ⟨[t0, t1, t2], by simp, rfl⟩
    | 2, _ => exact ⟨[], by simp, rfl⟩
  simp only [ZZ, IsnK_some, Za, Zb, Zc, Zd, Ze, Zf, Zg, Zh, rd, AV.un, AV.unA, AV.ad, Zi, Zj, Zk, Zl, Zm, Zn, Zo, Zp, Zq, Zr, Zs, Zt, Zu, Zv, Zw, Zx, Zy, Zz, Zaa, Zab, Zac, Zad, Zae, Zaf, Zag, Zah, Zai, Zaj, Zak, Zal, Zam, Zan, wk1, wk, Zao, Zap, Zaq, Zar, Zas, Zat, Zau, Zav, AV.kill, AO.kill, AV.thaw, AO.thaw, Zaw, Zax, Zay, Zaz, Zba, Zbb, Zbc, Zbd, Zbe, ite_true, ite_false, reduceCtorEq, Nat.reduceAdd, Nat.reduceMul, Nat.reduceLeDiff, Nat.reduceLT, Nat.reduceEqDiff, forall_const, hg]
  ((repeat' (with_reducible apply And.intro)) <;> try ((first | first | assumption | trivial | exact (fun hq => by rw [hq]; rfl) | exact i64_of (by omega) (by omega) | omega | (simp; done) | (simp; omega) | (intro hsc; have hs0 := hsc; (try have hsd := of_decide_eq_true hsc); (try simp only [Bool.not_eq_true', Bool.or_eq_false_iff, Bool.and_eq_true, Bool.or_eq_true, decide_eq_true_eq, decide_eq_false_iff_not] at hsc); (repeat' (with_reducible apply And.intro)) <;> (first | assumption | trivial | exact (fun hq => by rw [hq]; rfl) | exact i64_of (by omega) (by omega) | omega | (simp; done) | (simp; omega) | (intro hse; simp [hse, hs0]; done) | (intro hse; simp only [hse, hs0, Bool.true_and, Bool.and_true, Bool.not_false, Bool.not_true, Bool.and_self]; done))))))
  refine useD (Next_ok l (k + 1 + 1) 2 (by omega) hl (by decide)) ⟨_, _, 0, rfl, rfl⟩ rfl rfl rfl (by simp only [ZZ, IsnK_some, Za, Zb, Zc, Zd, Ze, Zf, Zg, Zh, rd, AV.un, AV.unA, AV.ad, Zi, Zj, Zk, Zl, Zm, Zn, Zo, Zp, Zq, Zr, Zs, Zt, Zu, Zv, Zw, Zx, Zy, Zz, Zaa, Zab, Zac, Zad, Zae, Zaf, Zag, Zah, Zai, Zaj, Zak, Zal, Zam, Zan, wk1, wk, Zao, Zap, Zaq, Zar, Zas, Zat, Zau, Zav, AV.kill, AO.kill, AV.thaw, AO.thaw, Zaw, Zax, Zay, Zaz, Zba, Zbb, Zbc, Zbd, Zbe, ite_true, ite_false, reduceCtorEq, Nat.reduceAdd, Nat.reduceMul, Nat.reduceLeDiff, Nat.reduceLT, Nat.reduceEqDiff, forall_const]) (fun _ => ⟨0, rfl⟩) ?_
  rintro x cs' ⟨y3, rfl, rfl⟩
  obtain ⟨j, hj, hbj⟩ := below_idx y3 2 (by omega)
  replace hbj : below y3 2 = j := hbj
  rw [hbj]
  obtain ⟨X0, hX0, hg2⟩ : ∃ T0 : List (List UInt8), T0 ∈ [[allF], []] ∧ ([[PV.sl 1 [[.str [97, 108, 108, 64, 102, 105, 114, 109, 46, 100, 101]]]], [PV.sl 1 []]] : List (List PV)).getD j [] = [.sl 1 (T0.map fun x => [PV.str x])] := by
    match j, hj with
    | 0, _ => exact ⟨[allF], by simp, rfl⟩
    | 1, _ => exact ⟨[], by simp, rfl⟩
  simp only [ZZ, IsnK_some, Za, Zb, Zc, Zd, Ze, Zf, Zg, Zh, rd, AV.un, AV.unA, AV.ad, Zi, Zj, Zk, Zl, Zm, Zn, Zo, Zp, Zq, Zr, Zs, Zt, Zu, Zv, Zw, Zx, Zy, Zz, Zaa, Zab, Zac, Zad, Zae, Zaf, Zag, Zah, Zai, Zaj, Zak, Zal, Zam, Zan, wk1, wk, Zao, Zap, Zaq, Zar, Zas, Zat, Zau, Zav, AV.kill, AO.kill, AV.thaw, AO.thaw, Zaw, Zax, Zay, Zaz, Zba, Zbb, Zbc, Zbd, Zbe, ite_true, ite_false, reduceCtorEq, Nat.reduceAdd, Nat.reduceMul, Nat.reduceLeDiff, Nat.reduceLT, Nat.reduceEqDiff, forall_const, hg2]
  ((repeat' (with_reducible apply And.intro)) <;> try ((first | first | assumption | trivial | exact (fun hq => by rw [hq]; rfl) | exact i64_of (by omega) (by omega) | omega | (simp; done) | (simp; omega) | (intro hsc; have hs0 := hsc; (try have hsd := of_decide_eq_true hsc); (try simp only [Bool.not_eq_true', Bool.or_eq_false_iff, Bool.and_eq_true, Bool.or_eq_true, decide_eq_true_eq, decide_eq_false_iff_not] at hsc); (repeat' (with_reducible apply And.intro)) <;> (first | assumption | trivial | exact (fun hq => by rw [hq]; rfl) | exact i64_of (by omega) (by omega) | omega | (simp; done) | (simp; omega) | (intro hse; simp [hse, hs0]; done) | (intro hse; simp only [hse, hs0, Bool.true_and, Bool.and_true, Bool.not_false, Bool.not_true, Bool.and_self]; done))))))
  refine useS (Flip_ok l (k + 1 + 1 + 1) 4 (by omega) hl (by decide)) rfl rfl rfl (by simp only [ZZ, IsnK_some, Za, Zb, Zc, Zd, Ze, Zf, Zg, Zh, rd, AV.un, AV.unA, AV.ad, Zi, Zj, Zk, Zl, Zm, Zn, Zo, Zp, Zq, Zr, Zs, Zt, Zu, Zv, Zw, Zx, Zy, Zz, Zaa, Zab, Zac, Zad, Zae, Zaf, Zag, Zah, Zai, Zaj, Zak, Zal, Zam, Zan, wk1, wk, Zao, Zap, Zaq, Zar, Zas, Zat, Zau, Zav, AV.kill, AO.kill, AV.thaw, AO.thaw, Zaw, Zax, Zay, Zaz, Zba, Zbb, Zbc, Zbd, Zbe, ite_true, ite_false, reduceCtorEq, Nat.reduceAdd, Nat.reduceMul, Nat.reduceLeDiff, Nat.reduceLT, Nat.reduceEqDiff, forall_const]) ?_
  rintro x cs' ⟨b, rfl, rfl⟩
  simp only [ZZ, IsnK_some, Za, Zb, Zc, Zd, Ze, Zf, Zg, Zh, rd, AV.un, AV.unA, AV.ad, Zi, Zj, Zk, Zl, Zm, Zn, Zo, Zp, Zq, Zr, Zs, Zt, Zu, Zv, Zw, Zx, Zy, Zz, Zaa, Zab, Zac, Zad, Zae, Zaf, Zag, Zah, Zai, Zaj, Zak, Zal, Zam, Zan, wk1, wk, Zao, Zap, Zaq, Zar, Zas, Zat, Zau, Zav, AV.kill, AO.kill, AV.thaw, AO.thaw, Zaw, Zax, Zay, Zaz, Zba, Zbb, Zbc, Zbd, Zbe, ite_true, ite_false, reduceCtorEq, Nat.reduceAdd, Nat.reduceMul, Nat.reduceLeDiff, Nat.reduceLT, Nat.reduceEqDiff, forall_const]
  refine br_join (fun fr L => ∃ (P : List Par) (k' : Nat), P.length ≤ 3 ∧ (∀ p ∈ P, p ∈ p0) ∧ k' ≤ k + 5 ∧ fr = [.adr (.b 0) 0, .any, .adr (.l 2) 0, .adr (.l 3) 0, .any, .any, .any, .any, .any, .any, .any, .any, .any, .any, .row (.l 14), .any, .any, .any, .any, .any, .any, .any, .any, .any, .any, .any, .any, .any, .any, .any, .any, .any, .any, .any, .any, .any, .any, .any, .any, .any, .any, .any, .any, .any, .any, .any, .any, .any, .any, .any, .any, .any, .any, .any, .any, .any, .any, .any, .any, .any, .any, .any, .any, .any, .any, .any, .any, .any, .any, .any, .any, .any, .any, .any, .any, .any, .any, .any, .any, .any, .any, .any, .any, .any, .any, .any, .any, .any, .any, .any, .any, .any, .any, .any, .any, .any, .any, .any, .any, .any, .any] ∧ L = [(.b 0, .box ((stm l (k')).map .p) T), (.l 2, .box [.p (.nl 3), .p (.nl 3), .p (.nl 1), .p (.nl 1)] tCircle), (.l 14, .row ((d0 y).map par) tDomain 3 true), (.l 3, .box [.p (.sl 3 ((P).map par)), .row (.l 14), .p (.sl 1 ((T0).map fun x => [PV.str x])), .p (.sl 1 ((X0).map fun x => [PV.str x]))] tCircle)]) ?_ ?_ ?_
  · intro _
    simp only [ZZ, IsnK_some, Za, Zb, Zc, Zd, Ze, Zf, Zg, Zh, rd, AV.un, AV.unA, AV.ad, Zi, Zj, Zk, Zl, Zm, Zn, Zo, Zp, Zq, Zr, Zs, Zt, Zu, Zv, Zw, Zx, Zy, Zz, Zaa, Zab, Zac, Zad, Zae, Zaf, Zag, Zah, Zai, Zaj, Zak, Zal, Zam, Zan, wk1, wk, Zao, Zap, Zaq, Zar, Zas, Zat, Zau, Zav, AV.kill, AO.kill, AV.thaw, AO.thaw, Zaw, Zax, Zay, Zaz, Zba, Zbb, Zbc, Zbd, Zbe, ite_true, ite_false, reduceCtorEq, Nat.reduceAdd, Nat.reduceMul, Nat.reduceLeDiff, Nat.reduceLT, Nat.reduceEqDiff, forall_const]
    refine drg0 ?_
    simp only [ZZ, IsnK_some, Za, Zb, Zc, Zd, Ze, Zf, Zg, Zh, rd, AV.un, AV.unA, AV.ad, Zi, Zj, Zk, Zl, Zm, Zn, Zo, Zp, Zq, Zr, Zs, Zt, Zu, Zv, Zw, Zx, Zy, Zz, Zaa, Zab, Zac, Zad, Zae, Zaf, Zag, Zah, Zai, Zaj, Zak, Zal, Zam, Zan, wk1, wk, Zao, Zap, Zaq, Zar, Zas, Zat, Zau, Zav, AV.kill, AO.kill, AV.thaw, AO.thaw, Zaw, Zax, Zay, Zaz, Zba, Zbb, Zbc, Zbd, Zbe, ite_true, ite_false, reduceCtorEq, Nat.reduceAdd, Nat.reduceMul, Nat.reduceLeDiff, Nat.reduceLT, Nat.reduceEqDiff, forall_const]
    refine useD (Next_ok l (k + 1 + 1 + 1 + 1) 2 (by omega) hl (by decide)) ⟨_, _, 0, rfl, rfl⟩ rfl rfl rfl (by simp only [ZZ, IsnK_some, Za, Zb, Zc, Zd, Ze, Zf, Zg, Zh, rd, AV.un, AV.unA, AV.ad, Zi, Zj, Zk, Zl, Zm, Zn, Zo, Zp, Zq, Zr, Zs, Zt, Zu, Zv, Zw, Zx, Zy, Zz, Zaa, Zab, Zac, Zad, Zae, Zaf, Zag, Zah, Zai, Zaj, Zak, Zal, Zam, Zan, wk1, wk, Zao, Zap, Zaq, Zar, Zas, Zat, Zau, Zav, AV.kill, AO.kill, AV.thaw, AO.thaw, Zaw, Zax, Zay, Zaz, Zba, Zbb, Zbc, Zbd, Zbe, ite_true, ite_false, reduceCtorEq, Nat.reduceAdd, Nat.reduceMul, Nat.reduceLeDiff, Nat.reduceLT, Nat.reduceEqDiff, forall_const]) (fun _ => ⟨0, rfl⟩) ?_
    rintro x cs' ⟨y4, rfl, rfl⟩
    obtain ⟨j2, hj2, hbj2⟩ := below_idx y4 2 (by omega)
    replace hbj2 : below y4 2 = j2 := hbj2
    rw [hbj2]
    simp only [ZZ, IsnK_some, Za, Zb, Zc, Zd, Ze, Zf, Zg, Zh, rd, AV.un, AV.unA, AV.ad, Zi, Zj, Zk, Zl, Zm, Zn, Zo, Zp, Zq, Zr, Zs, Zt, Zu, Zv, Zw, Zx, Zy, Zz, Zaa, Zab, Zac, Zad, Zae, Zaf, Zag, Zah, Zai, Zaj, Zak, Zal, Zam, Zan, wk1, wk, Zao, Zap, Zaq, Zar, Zas, Zat, Zau, Zav, AV.kill, AO.kill, AV.thaw, AO.thaw, Zaw, Zax, Zay, Zaz, Zba, Zbb, Zbc, Zbd, Zbe, ite_true, ite_false, reduceCtorEq, Nat.reduceAdd, Nat.reduceMul, Nat.reduceLeDiff, Nat.reduceLT, Nat.reduceEqDiff, forall_const]
    ((repeat' (with_reducible apply And.intro)) <;> try ((first | first | assumption | trivial | exact (fun hq => by rw [hq]; rfl) | exact i64_of (by omega) (by omega) | omega | (simp; done) | (simp; omega) | (intro hsc; have hs0 := hsc; (try have hsd := of_decide_eq_true hsc); (try simp only [Bool.not_eq_true', Bool.or_eq_false_iff, Bool.and_eq_true, Bool.or_eq_true, decide_eq_true_eq, decide_eq_false_iff_not] at hsc); (repeat' (with_reducible apply And.intro)) <;> (first | assumption | trivial | exact (fun hq => by rw [hq]; rfl) | exact i64_of (by omega) (by omega) | omega | (simp; done) | (simp; omega) | (intro hse; simp [hse, hs0]; done) | (intro hse; simp only [hse, hs0, Bool.true_and, Bool.and_true, Bool.not_false, Bool.not_true, Bool.and_self]; done))))))
    refine to_mid [.adr (.b 0) 0, .any, .adr (.l 2) 0, .adr (.l 3) 0, .any, .any, .any, .any, .any, .any, .any, .any, .any, .any, .row (.l 14), .any, .any, .any, .any, .any, .any, .any, .any, .any, .any, .any, .any, .any, .any, .any, .any, .any, .any, .any, .any, .any, .any, .any, .any, .any, .any, .any, .any, .any, .any, .any, .any, .any, .any, .any, .any, .any, .any, .any, .any, .any, .any, .any, .any, .any, .any, .any, .any, .any, .any, .any, .any, .any, .any, .any, .any, .any, .any, .any, .any, .any, .any, .any, .any, .any, .any, .any, .any, .any, .any, .any, .any, .any, .any, .any, .any, .any, .any, .any, .any, .any, .any, .any, .any, .any, .any] [(.b 0, .box ((stm l (k + 1 + 1 + 1 + 1 + 1)).map .p) T), (.l 2, .box [.p (.nl 3), .p (.nl 3), .p (.nl 1), .p (.nl 1)] tCircle), (.l 14, .row ((d0 y).map par) tDomain 3 true), (.l 3, .box [.p (.sl 3 ((p0.drop j2).map par)), .row (.l 14), .p (.sl 1 ((T0).map fun x => [PV.str x])), .p (.sl 1 ((X0).map fun x => [PV.str x]))] tCircle)] (by (simp only [ZZ, IsnK_some, Za, Zb, Zc, Zd, Ze, Zf, Zg, Zh, rd, AV.un, AV.unA, AV.ad, Zi, Zj, Zk, Zl, Zm, Zn, Zo, Zp, Zq, Zr, Zs, Zt, Zu, Zv, Zw, Zx, Zy, Zz, Zaa, Zab, Zac, Zad, Zae, Zaf, Zag, Zah, Zai, Zaj, Zak, Zal, Zam, Zan, wk1, wk, Zao, Zap, Zaq, Zar, Zas, Zat, Zau, Zav, AV.kill, AO.kill, AV.thaw, AO.thaw, Zaw, Zax, Zay, Zaz, Zba, Zbb, Zbc, Zbd, Zbe, ite_true, ite_false, reduceCtorEq, Nat.reduceAdd, Nat.reduceMul, Nat.reduceLeDiff, Nat.reduceLT, Nat.reduceEqDiff, forall_const]; try trivial)) (by simp only [ZZ, IsnK_some, Za, Zb, Zc, Zd, Ze, Zf, Zg, Zh, rd, AV.un, AV.unA, AV.ad, Zi, Zj, Zk, Zl, Zm, Zn, Zo, Zp, Zq, Zr, Zs, Zt, Zu, Zv, Zw, Zx, Zy, Zz, Zaa, Zab, Zac, Zad, Zae, Zaf, Zag, Zah, Zai, Zaj, Zak, Zal, Zam, Zan, wk1, wk, Zao, Zap, Zaq, Zar, Zas, Zat, Zau, Zav, AV.kill, AO.kill, AV.thaw, AO.thaw, Zaw, Zax, Zay, Zaz, Zba, Zbb, Zbc, Zbd, Zbe, ite_true, ite_false, reduceCtorEq, Nat.reduceAdd, Nat.reduceMul, Nat.reduceLeDiff, Nat.reduceLT, Nat.reduceEqDiff, forall_const]; exact ⟨rfl, by rw [List.map_drop]; rfl⟩) ⟨_, _, ?_, fun p hp => List.mem_of_mem_drop hp, by omega, rfl, rfl⟩
    simp [p0]
  · intro _
    simp only [ZZ, IsnK_some, Za, Zb, Zc, Zd, Ze, Zf, Zg, Zh, rd, AV.un, AV.unA, AV.ad, Zi, Zj, Zk, Zl, Zm, Zn, Zo, Zp, Zq, Zr, Zs, Zt, Zu, Zv, Zw, Zx, Zy, Zz, Zaa, Zab, Zac, Zad, Zae, Zaf, Zag, Zah, Zai, Zaj, Zak, Zal, Zam, Zan, wk1, wk, Zao, Zap, Zaq, Zar, Zas, Zat, Zau, Zav, AV.kill, AO.kill, AV.thaw, AO.thaw, Zaw, Zax, Zay, Zaz, Zba, Zbb, Zbc, Zbd, Zbe, ite_true, ite_false, reduceCtorEq, Nat.reduceAdd, Nat.reduceMul, Nat.reduceLeDiff, Nat.reduceLT, Nat.reduceEqDiff, forall_const]
    refine to_mid [.adr (.b 0) 0, .any, .adr (.l 2) 0, .adr (.l 3) 0, .any, .any, .any, .any, .any, .any, .any, .any, .any, .any, .row (.l 14), .any, .any, .any, .any, .any, .any, .any, .any, .any, .any, .any, .any, .any, .any, .any, .any, .any, .any, .any, .any, .any, .any, .any, .any, .any, .any, .any, .any, .any, .any, .any, .any, .any, .any, .any, .any, .any, .any, .any, .any, .any, .any, .any, .any, .any, .any, .any, .any, .any, .any, .any, .any, .any, .any, .any, .any, .any, .any, .any, .any, .any, .any, .any, .any, .any, .any, .any, .any, .any, .any, .any, .any, .any, .any, .any, .any, .any, .any, .any, .any, .any, .any, .any, .any, .any, .any] [(.b 0, .box ((stm l (k + 1 + 1 + 1 + 1)).map .p) T), (.l 2, .box [.p (.nl 3), .p (.nl 3), .p (.nl 1), .p (.nl 1)] tCircle), (.l 14, .row ((d0 y).map par) tDomain 3 true), (.l 3, .box [.p (.sl 3 ((p0).map par)), .row (.l 14), .p (.sl 1 ((T0).map fun x => [PV.str x])), .p (.sl 1 ((X0).map fun x => [PV.str x]))] tCircle)] (by (simp only [ZZ, IsnK_some, Za, Zb, Zc, Zd, Ze, Zf, Zg, Zh, rd, AV.un, AV.unA, AV.ad, Zi, Zj, Zk, Zl, Zm, Zn, Zo, Zp, Zq, Zr, Zs, Zt, Zu, Zv, Zw, Zx, Zy, Zz, Zaa, Zab, Zac, Zad, Zae, Zaf, Zag, Zah, Zai, Zaj, Zak, Zal, Zam, Zan, wk1, wk, Zao, Zap, Zaq, Zar, Zas, Zat, Zau, Zav, AV.kill, AO.kill, AV.thaw, AO.thaw, Zaw, Zax, Zay, Zaz, Zba, Zbb, Zbc, Zbd, Zbe, ite_true, ite_false, reduceCtorEq, Nat.reduceAdd, Nat.reduceMul, Nat.reduceLeDiff, Nat.reduceLT, Nat.reduceEqDiff, forall_const]; try trivial)) (by simp only [ZZ, IsnK_some, Za, Zb, Zc, Zd, Ze, Zf, Zg, Zh, rd, AV.un, AV.unA, AV.ad, Zi, Zj, Zk, Zl, Zm, Zn, Zo, Zp, Zq, Zr, Zs, Zt, Zu, Zv, Zw, Zx, Zy, Zz, Zaa, Zab, Zac, Zad, Zae, Zaf, Zag, Zah, Zai, Zaj, Zak, Zal, Zam, Zan, wk1, wk, Zao, Zap, Zaq, Zar, Zas, Zat, Zau, Zav, AV.kill, AO.kill, AV.thaw, AO.thaw, Zaw, Zax, Zay, Zaz, Zba, Zbb, Zbc, Zbd, Zbe, ite_true, ite_false, reduceCtorEq, Nat.reduceAdd, Nat.reduceMul, Nat.reduceLeDiff, Nat.reduceLT, Nat.reduceEqDiff, forall_const, par, p0, d0]) ⟨_, _, by decide, fun p hp => hp, by omega, rfl, rfl⟩
  · rintro fr L ⟨P, k', hP, hPm, hk', rfl, rfl⟩
    simp only [ZZ, IsnK_some, Za, Zb, Zc, Zd, Ze, Zf, Zg, Zh, rd, AV.un, AV.unA, AV.ad, Zi, Zj, Zk, Zl, Zm, Zn, Zo, Zp, Zq, Zr, Zs, Zt, Zu, Zv, Zw, Zx, Zy, Zz, Zaa, Zab, Zac, Zad, Zae, Zaf, Zag, Zah, Zai, Zaj, Zak, Zal, Zam, Zan, wk1, wk, Zao, Zap, Zaq, Zar, Zas, Zat, Zau, Zav, AV.kill, AO.kill, AV.thaw, AO.thaw, Zaw, Zax, Zay, Zaz, Zba, Zbb, Zbc, Zbd, Zbe, ite_true, ite_false, reduceCtorEq, Nat.reduceAdd, Nat.reduceMul, Nat.reduceLeDiff, Nat.reduceLT, Nat.reduceEqDiff, forall_const]
    have hPo : ∀ p ∈ P, parOk pS p := fun p hp => p0_ok p (hPm p hp)
    have hDo : ∀ p ∈ d0 y, parOk dS p := d0_ok hy'
    have hTl : T0.length ≤ 3 := by simp only [List.mem_cons, List.not_mem_nil, or_false] at hT0; rcases hT0 with rfl | rfl | rfl <;> simp
    have hXl : X0.length ≤ 3 := by simp only [List.mem_cons, List.not_mem_nil, or_false] at hX0; rcases hX0 with rfl | rfl <;> simp
    clear hPm
    refine useS (Flip_ok l k' 12 (by omega) hl (by decide)) rfl rfl rfl (by simp only [ZZ, IsnK_some, Za, Zb, Zc, Zd, Ze, Zf, Zg, Zh, rd, AV.un, AV.unA, AV.ad, Zi, Zj, Zk, Zl, Zm, Zn, Zo, Zp, Zq, Zr, Zs, Zt, Zu, Zv, Zw, Zx, Zy, Zz, Zaa, Zab, Zac, Zad, Zae, Zaf, Zag, Zah, Zai, Zaj, Zak, Zal, Zam, Zan, wk1, wk, Zao, Zap, Zaq, Zar, Zas, Zat, Zau, Zav, AV.kill, AO.kill, AV.thaw, AO.thaw, Zaw, Zax, Zay, Zaz, Zba, Zbb, Zbc, Zbd, Zbe, ite_true, ite_false, reduceCtorEq, Nat.reduceAdd, Nat.reduceMul, Nat.reduceLeDiff, Nat.reduceLT, Nat.reduceEqDiff, forall_const]) ?_
    rintro x cs' ⟨b2, rfl, rfl⟩
    simp only [ZZ, IsnK_some, Za, Zb, Zc, Zd, Ze, Zf, Zg, Zh, rd, AV.un, AV.unA, AV.ad, Zi, Zj, Zk, Zl, Zm, Zn, Zo, Zp, Zq, Zr, Zs, Zt, Zu, Zv, Zw, Zx, Zy, Zz, Zaa, Zab, Zac, Zad, Zae, Zaf, Zag, Zah, Zai, Zaj, Zak, Zal, Zam, Zan, wk1, wk, Zao, Zap, Zaq, Zar, Zas, Zat, Zau, Zav, AV.kill, AO.kill, AV.thaw, AO.thaw, Zaw, Zax, Zay, Zaz, Zba, Zbb, Zbc, Zbd, Zbe, ite_true, ite_false, reduceCtorEq, Nat.reduceAdd, Nat.reduceMul, Nat.reduceLeDiff, Nat.reduceLT, Nat.reduceEqDiff, forall_const]
    refine br_join (fun fr L => ∃ (P D : List Par) (Ts X : List (List UInt8)) (k' : Nat), CircOk P D Ts X ∧ k' ≤ k + 15 ∧ ((fr = [.adr (.b 0) 0, .any, .adr (.l 2) 0, .adr (.l 3) 0, .any, .any, .any, .any, .any, .any, .any, .any, .any, .any, .row (.l 14), .any, .any, .any, .any, .any, .any, .any, .any, .any, .any, .any, .any, .any, .any, .any, .any, .any, .any, .any, .any, .any, .any, .any, .any, .any, .any, .any, .any, .any, .any, .any, .any, .any, .any, .any, .any, .any, .any, .any, .any, .any, .any, .any, .any, .any, .any, .any, .any, .any, .any, .any, .any, .any, .any, .any, .any, .any, .any, .any, .any, .any, .any, .any, .any, .any, .any, .any, .any, .any, .any, .any, .any, .any, .any, .any, .any, .any, .any, .any, .any, .any, .any, .any, .any, .any, .any] ∧ L = [(.b 0, .box ((stm l (k')).map .p) T), (.l 2, .box [.p (.nl 3), .p (.nl 3), .p (.nl 1), .p (.nl 1)] tCircle), (.l 14, .row ((D).map par) tDomain 3 true), (.l 3, .box [.p (.sl 3 ((P).map par)), .row (.l 14), .p (.sl 1 ((Ts).map fun x => [PV.str x])), .p (.sl 1 ((X).map fun x => [PV.str x]))] tCircle)]) ∨ (fr = [.adr (.b 0) 0, .any, .adr (.l 2) 0, .adr (.l 3) 0, .any, .any, .any, .any, .any, .any, .any, .any, .any, .any, .any, .any, .any, .any, .any, .any, .any, .any, .any, .any, .any, .any, .any, .any, .any, .any, .any, .any, .any, .any, .any, .any, .any, .any, .any, .any, .any, .any, .any, .any, .any, .any, .any, .any, .any, .any, .any, .any, .any, .any, .any, .any, .any, .any, .any, .any, .any, .any, .any, .any, .any, .any, .any, .any, .any, .any, .any, .any, .any, .any, .any, .any, .any, .any, .any, .any, .any, .any, .any, .any, .any, .any, .any, .any, .any, .any, .any, .any, .any, .any, .any, .any, .any, .any, .any, .any, .any] ∧ L = [(.b 0, .box ((stm l (k')).map .p) T), (.l 2, .box [.p (.nl 3), .p (.nl 3), .p (.nl 1), .p (.nl 1)] tCircle), (.l 3, .box [.p (.sl 3 ((P).map par)), .p (.sl 3 ((D).map par)), .p (.sl 1 ((Ts).map fun x => [PV.str x])), .p (.sl 1 ((X).map fun x => [PV.str x]))] tCircle)]))) ?_ ?_ ?_
    · intro _
      simp only [ZZ, IsnK_some, Za, Zb, Zc, Zd, Ze, Zf, Zg, Zh, rd, AV.un, AV.unA, AV.ad, Zi, Zj, Zk, Zl, Zm, Zn, Zo, Zp, Zq, Zr, Zs, Zt, Zu, Zv, Zw, Zx, Zy, Zz, Zaa, Zab, Zac, Zad, Zae, Zaf, Zag, Zah, Zai, Zaj, Zak, Zal, Zam, Zan, wk1, wk, Zao, Zap, Zaq, Zar, Zas, Zat, Zau, Zav, AV.kill, AO.kill, AV.thaw, AO.thaw, Zaw, Zax, Zay, Zaz, Zba, Zbb, Zbc, Zbd, Zbe, ite_true, ite_false, reduceCtorEq, Nat.reduceAdd, Nat.reduceMul, Nat.reduceLeDiff, Nat.reduceLT, Nat.reduceEqDiff, forall_const]
      refine useS (Next_ok l (k' + 1) 6 (by omega) hl (by decide)) rfl rfl rfl (by simp only [ZZ, IsnK_some, Za, Zb, Zc, Zd, Ze, Zf, Zg, Zh, rd, AV.un, AV.unA, AV.ad, Zi, Zj, Zk, Zl, Zm, Zn, Zo, Zp, Zq, Zr, Zs, Zt, Zu, Zv, Zw, Zx, Zy, Zz, Zaa, Zab, Zac, Zad, Zae, Zaf, Zag, Zah, Zai, Zaj, Zak, Zal, Zam, Zan, wk1, wk, Zao, Zap, Zaq, Zar, Zas, Zat, Zau, Zav, AV.kill, AO.kill, AV.thaw, AO.thaw, Zaw, Zax, Zay, Zaz, Zba, Zbb, Zbc, Zbd, Zbe, ite_true, ite_false, reduceCtorEq, Nat.reduceAdd, Nat.reduceMul, Nat.reduceLeDiff, Nat.reduceLT, Nat.reduceEqDiff, forall_const]) ?_
      rintro x cs' ⟨y6, rfl, rfl⟩
      generalize below y6 6 = m
      simp only [ZZ, IsnK_some, Za, Zb, Zc, Zd, Ze, Zf, Zg, Zh, rd, AV.un, AV.unA, AV.ad, Zi, Zj, Zk, Zl, Zm, Zn, Zo, Zp, Zq, Zr, Zs, Zt, Zu, Zv, Zw, Zx, Zy, Zz, Zaa, Zab, Zac, Zad, Zae, Zaf, Zag, Zah, Zai, Zaj, Zak, Zal, Zam, Zan, wk1, wk, Zao, Zap, Zaq, Zar, Zas, Zat, Zau, Zav, AV.kill, AO.kill, AV.thaw, AO.thaw, Zaw, Zax, Zay, Zaz, Zba, Zbb, Zbc, Zbd, Zbe, ite_true, ite_false, reduceCtorEq, Nat.reduceAdd, Nat.reduceMul, Nat.reduceLeDiff, Nat.reduceLT, Nat.reduceEqDiff, forall_const]
      refine br ?_ ?_
      · intro _
        simp only [ZZ, IsnK_some, Za, Zb, Zc, Zd, Ze, Zf, Zg, Zh, rd, AV.un, AV.unA, AV.ad, Zi, Zj, Zk, Zl, Zm, Zn, Zo, Zp, Zq, Zr, Zs, Zt, Zu, Zv, Zw, Zx, Zy, Zz, Zaa, Zab, Zac, Zad, Zae, Zaf, Zag, Zah, Zai, Zaj, Zak, Zal, Zam, Zan, wk1, wk, Zao, Zap, Zaq, Zar, Zas, Zat, Zau, Zav, AV.kill, AO.kill, AV.thaw, AO.thaw, Zaw, Zax, Zay, Zaz, Zba, Zbb, Zbc, Zbd, Zbe, ite_true, ite_false, reduceCtorEq, Nat.reduceAdd, Nat.reduceMul, Nat.reduceLeDiff, Nat.reduceLT, Nat.reduceEqDiff, forall_const]
        refine useF (CloneP_ok (P.map par) (by simp; omega)) rfl rfl ?_
        rintro es rfl
        simp only [ZZ, IsnK_some, Za, Zb, Zc, Zd, Ze, Zf, Zg, Zh, rd, AV.un, AV.unA, AV.ad, Zi, Zj, Zk, Zl, Zm, Zn, Zo, Zp, Zq, Zr, Zs, Zt, Zu, Zv, Zw, Zx, Zy, Zz, Zaa, Zab, Zac, Zad, Zae, Zaf, Zag, Zah, Zai, Zaj, Zak, Zal, Zam, Zan, wk1, wk, Zao, Zap, Zaq, Zar, Zas, Zat, Zau, Zav, AV.kill, AO.kill, AV.thaw, AO.thaw, Zaw, Zax, Zay, Zaz, Zba, Zbb, Zbc, Zbd, Zbe, ite_true, ite_false, reduceCtorEq, Nat.reduceAdd, Nat.reduceMul, Nat.reduceLeDiff, Nat.reduceLT, Nat.reduceEqDiff, forall_const]
        refine useS (one_ok l (k' + 1 + 1) [[122, 64, 122, 46, 100, 101], [97, 64, 97, 46, 100, 101], [122]] (by omega) hl (by simp) (by simp)) rfl rfl rfl (by simp only [ZZ, IsnK_some, Za, Zb, Zc, Zd, Ze, Zf, Zg, Zh, rd, AV.un, AV.unA, AV.ad, Zi, Zj, Zk, Zl, Zm, Zn, Zo, Zp, Zq, Zr, Zs, Zt, Zu, Zv, Zw, Zx, Zy, Zz, Zaa, Zab, Zac, Zad, Zae, Zaf, Zag, Zah, Zai, Zaj, Zak, Zal, Zam, Zan, wk1, wk, Zao, Zap, Zaq, Zar, Zas, Zat, Zau, Zav, AV.kill, AO.kill, AV.thaw, AO.thaw, Zaw, Zax, Zay, Zaz, Zba, Zbb, Zbc, Zbd, Zbe, ite_true, ite_false, reduceCtorEq, Nat.reduceAdd, Nat.reduceMul, Nat.reduceLeDiff, Nat.reduceLT, Nat.reduceEqDiff, forall_const]) ?_
        rintro x cs' ⟨s, rfl, hs, rfl⟩
        simp only [ZZ, IsnK_some, Za, Zb, Zc, Zd, Ze, Zf, Zg, Zh, rd, AV.un, AV.unA, AV.ad, Zi, Zj, Zk, Zl, Zm, Zn, Zo, Zp, Zq, Zr, Zs, Zt, Zu, Zv, Zw, Zx, Zy, Zz, Zaa, Zab, Zac, Zad, Zae, Zaf, Zag, Zah, Zai, Zaj, Zak, Zal, Zam, Zan, wk1, wk, Zao, Zap, Zaq, Zar, Zas, Zat, Zau, Zav, AV.kill, AO.kill, AV.thaw, AO.thaw, Zaw, Zax, Zay, Zaz, Zba, Zbb, Zbc, Zbd, Zbe, ite_true, ite_false, reduceCtorEq, Nat.reduceAdd, Nat.reduceMul, Nat.reduceLeDiff, Nat.reduceLT, Nat.reduceEqDiff, forall_const]
        refine useS (Range_ok l (k' + 1 + 1 + 1) 0 4 (by omega) hl (by decide) (by decide) (by decide)) rfl rfl rfl (by simp only [ZZ, IsnK_some, Za, Zb, Zc, Zd, Ze, Zf, Zg, Zh, rd, AV.un, AV.unA, AV.ad, Zi, Zj, Zk, Zl, Zm, Zn, Zo, Zp, Zq, Zr, Zs, Zt, Zu, Zv, Zw, Zx, Zy, Zz, Zaa, Zab, Zac, Zad, Zae, Zaf, Zag, Zah, Zai, Zaj, Zak, Zal, Zam, Zan, wk1, wk, Zao, Zap, Zaq, Zar, Zas, Zat, Zau, Zav, AV.kill, AO.kill, AV.thaw, AO.thaw, Zaw, Zax, Zay, Zaz, Zba, Zbb, Zbc, Zbd, Zbe, ite_true, ite_false, reduceCtorEq, Nat.reduceAdd, Nat.reduceMul, Nat.reduceLeDiff, Nat.reduceLT, Nat.reduceEqDiff, forall_const]) ?_
        rintro x cs' ⟨a, rfl, ha0, ha1, rfl⟩
        simp only [ZZ, IsnK_some, Za, Zb, Zc, Zd, Ze, Zf, Zg, Zh, rd, AV.un, AV.unA, AV.ad, Zi, Zj, Zk, Zl, Zm, Zn, Zo, Zp, Zq, Zr, Zs, Zt, Zu, Zv, Zw, Zx, Zy, Zz, Zaa, Zab, Zac, Zad, Zae, Zaf, Zag, Zah, Zai, Zaj, Zak, Zal, Zam, Zan, wk1, wk, Zao, Zap, Zaq, Zar, Zas, Zat, Zau, Zav, AV.kill, AO.kill, AV.thaw, AO.thaw, Zaw, Zax, Zay, Zaz, Zba, Zbb, Zbc, Zbd, Zbe, ite_true, ite_false, reduceCtorEq, Nat.reduceAdd, Nat.reduceMul, Nat.reduceLeDiff, Nat.reduceLT, Nat.reduceEqDiff, forall_const]
        refine useS (Range_ok l (k' + 1 + 1 + 1 + 1) 0 5 (by omega) hl (by decide) (by decide) (by decide)) rfl rfl rfl (by simp only [ZZ, IsnK_some, Za, Zb, Zc, Zd, Ze, Zf, Zg, Zh, rd, AV.un, AV.unA, AV.ad, Zi, Zj, Zk, Zl, Zm, Zn, Zo, Zp, Zq, Zr, Zs, Zt, Zu, Zv, Zw, Zx, Zy, Zz, Zaa, Zab, Zac, Zad, Zae, Zaf, Zag, Zah, Zai, Zaj, Zak, Zal, Zam, Zan, wk1, wk, Zao, Zap, Zaq, Zar, Zas, Zat, Zau, Zav, AV.kill, AO.kill, AV.thaw, AO.thaw, Zaw, Zax, Zay, Zaz, Zba, Zbb, Zbc, Zbd, Zbe, ite_true, ite_false, reduceCtorEq, Nat.reduceAdd, Nat.reduceMul, Nat.reduceLeDiff, Nat.reduceLT, Nat.reduceEqDiff, forall_const]) ?_
        rintro x cs' ⟨c, rfl, hc0, hc1, rfl⟩
        simp only [ZZ, IsnK_some, Za, Zb, Zc, Zd, Ze, Zf, Zg, Zh, rd, AV.un, AV.unA, AV.ad, Zi, Zj, Zk, Zl, Zm, Zn, Zo, Zp, Zq, Zr, Zs, Zt, Zu, Zv, Zw, Zx, Zy, Zz, Zaa, Zab, Zac, Zad, Zae, Zaf, Zag, Zah, Zai, Zaj, Zak, Zal, Zam, Zan, wk1, wk, Zao, Zap, Zaq, Zar, Zas, Zat, Zau, Zav, AV.kill, AO.kill, AV.thaw, AO.thaw, Zaw, Zax, Zay, Zaz, Zba, Zbb, Zbc, Zbd, Zbe, ite_true, ite_false, reduceCtorEq, Nat.reduceAdd, Nat.reduceMul, Nat.reduceLeDiff, Nat.reduceLT, Nat.reduceEqDiff, forall_const]
        refine ⟨by simp; omega, to_mid [.adr (.b 0) 0, .any, .adr (.l 2) 0, .adr (.l 3) 0, .any, .any, .any, .any, .any, .any, .any, .any, .any, .any, .row (.l 14), .any, .any, .any, .any, .any, .any, .any, .any, .any, .any, .any, .any, .any, .any, .any, .any, .any, .any, .any, .any, .any, .any, .any, .any, .any, .any, .any, .any, .any, .any, .any, .any, .any, .any, .any, .any, .any, .any, .any, .any, .any, .any, .any, .any, .any, .any, .any, .any, .any, .any, .any, .any, .any, .any, .any, .any, .any, .any, .any, .any, .any, .any, .any, .any, .any, .any, .any, .any, .any, .any, .any, .any, .any, .any, .any, .any, .any, .any, .any, .any, .any, .any, .any, .any, .any, .any] [(.b 0, .box ((stm l (k' + 1 + 1 + 1 + 1 + 1)).map .p) T), (.l 2, .box [.p (.nl 3), .p (.nl 3), .p (.nl 1), .p (.nl 1)] tCircle), (.l 14, .row ((d0 y).map par) tDomain 3 true), (.l 3, .box [.p (.sl 3 ((P ++ [(s, a, c)]).map par)), .row (.l 14), .p (.sl 1 ((T0).map fun x => [PV.str x])), .p (.sl 1 ((X0).map fun x => [PV.str x]))] tCircle)] (by (simp only [ZZ, IsnK_some, Za, Zb, Zc, Zd, Ze, Zf, Zg, Zh, rd, AV.un, AV.unA, AV.ad, Zi, Zj, Zk, Zl, Zm, Zn, Zo, Zp, Zq, Zr, Zs, Zt, Zu, Zv, Zw, Zx, Zy, Zz, Zaa, Zab, Zac, Zad, Zae, Zaf, Zag, Zah, Zai, Zaj, Zak, Zal, Zam, Zan, wk1, wk, Zao, Zap, Zaq, Zar, Zas, Zat, Zau, Zav, AV.kill, AO.kill, AV.thaw, AO.thaw, Zaw, Zax, Zay, Zaz, Zba, Zbb, Zbc, Zbd, Zbe, ite_true, ite_false, reduceCtorEq, Nat.reduceAdd, Nat.reduceMul, Nat.reduceLeDiff, Nat.reduceLT, Nat.reduceEqDiff, forall_const]; try trivial)) (by rw [List.map_append]; simp only [ZZ, IsnK_some, Za, Zb, Zc, Zd, Ze, Zf, Zg, Zh, rd, AV.un, AV.unA, AV.ad, Zi, Zj, Zk, Zl, Zm, Zn, Zo, Zp, Zq, Zr, Zs, Zt, Zu, Zv, Zw, Zx, Zy, Zz, Zaa, Zab, Zac, Zad, Zae, Zaf, Zag, Zah, Zai, Zaj, Zak, Zal, Zam, Zan, wk1, wk, Zao, Zap, Zaq, Zar, Zas, Zat, Zau, Zav, AV.kill, AO.kill, AV.thaw, AO.thaw, Zaw, Zax, Zay, Zaz, Zba, Zbb, Zbc, Zbd, Zbe, ite_true, ite_false, reduceCtorEq, Nat.reduceAdd, Nat.reduceMul, Nat.reduceLeDiff, Nat.reduceLT, Nat.reduceEqDiff, forall_const, par]) ⟨_, _, _, _, _, ?_, by omega, .inl ⟨rfl, rfl⟩⟩⟩
        refine ⟨by simp; omega, fun p hp => ?_, by simp [d0], hDo, ⟨T0, hT0, .inl rfl⟩, ⟨X0, hX0, .inl rfl⟩⟩
        rcases List.mem_append.1 hp with h | h
        · exact hPo p h
        · simp only [List.mem_singleton] at h
          subst h
          exact ⟨by simp only [List.mem_cons, List.not_mem_nil, or_false] at hs; rcases hs with rfl | rfl | rfl <;> simp [pS], ha0, ha1, hc0, hc1⟩
      · intro _
        simp only [ZZ, IsnK_some, Za, Zb, Zc, Zd, Ze, Zf, Zg, Zh, rd, AV.un, AV.unA, AV.ad, Zi, Zj, Zk, Zl, Zm, Zn, Zo, Zp, Zq, Zr, Zs, Zt, Zu, Zv, Zw, Zx, Zy, Zz, Zaa, Zab, Zac, Zad, Zae, Zaf, Zag, Zah, Zai, Zaj, Zak, Zal, Zam, Zan, wk1, wk, Zao, Zap, Zaq, Zar, Zas, Zat, Zau, Zav, AV.kill, AO.kill, AV.thaw, AO.thaw, Zaw, Zax, Zay, Zaz, Zba, Zbb, Zbc, Zbd, Zbe, ite_true, ite_false, reduceCtorEq, Nat.reduceAdd, Nat.reduceMul, Nat.reduceLeDiff, Nat.reduceLT, Nat.reduceEqDiff, forall_const]
        refine br ?_ ?_
        · intro _
          simp only [ZZ, IsnK_some, Za, Zb, Zc, Zd, Ze, Zf, Zg, Zh, rd, AV.un, AV.unA, AV.ad, Zi, Zj, Zk, Zl, Zm, Zn, Zo, Zp, Zq, Zr, Zs, Zt, Zu, Zv, Zw, Zx, Zy, Zz, Zaa, Zab, Zac, Zad, Zae, Zaf, Zag, Zah, Zai, Zaj, Zak, Zal, Zam, Zan, wk1, wk, Zao, Zap, Zaq, Zar, Zas, Zat, Zau, Zav, AV.kill, AO.kill, AV.thaw, AO.thaw, Zaw, Zax, Zay, Zaz, Zba, Zbb, Zbc, Zbd, Zbe, ite_true, ite_false, reduceCtorEq, Nat.reduceAdd, Nat.reduceMul, Nat.reduceLeDiff, Nat.reduceLT, Nat.reduceEqDiff, forall_const]
          refine useF (CloneD_ok ((d0 y).map par) (by simp [d0])) rfl rfl ?_
          rintro es rfl
          simp only [ZZ, IsnK_some, Za, Zb, Zc, Zd, Ze, Zf, Zg, Zh, rd, AV.un, AV.unA, AV.ad, Zi, Zj, Zk, Zl, Zm, Zn, Zo, Zp, Zq, Zr, Zs, Zt, Zu, Zv, Zw, Zx, Zy, Zz, Zaa, Zab, Zac, Zad, Zae, Zaf, Zag, Zah, Zai, Zaj, Zak, Zal, Zam, Zan, wk1, wk, Zao, Zap, Zaq, Zar, Zas, Zat, Zau, Zav, AV.kill, AO.kill, AV.thaw, AO.thaw, Zaw, Zax, Zay, Zaz, Zba, Zbb, Zbc, Zbd, Zbe, ite_true, ite_false, reduceCtorEq, Nat.reduceAdd, Nat.reduceMul, Nat.reduceLeDiff, Nat.reduceLT, Nat.reduceEqDiff, forall_const]
          refine useS (one_ok l (k' + 1 + 1) [[102, 105, 114, 109, 46, 100, 101], [100, 101], [97, 46, 98], []] (by omega) hl (by simp) (by simp)) rfl rfl rfl (by simp only [ZZ, IsnK_some, Za, Zb, Zc, Zd, Ze, Zf, Zg, Zh, rd, AV.un, AV.unA, AV.ad, Zi, Zj, Zk, Zl, Zm, Zn, Zo, Zp, Zq, Zr, Zs, Zt, Zu, Zv, Zw, Zx, Zy, Zz, Zaa, Zab, Zac, Zad, Zae, Zaf, Zag, Zah, Zai, Zaj, Zak, Zal, Zam, Zan, wk1, wk, Zao, Zap, Zaq, Zar, Zas, Zat, Zau, Zav, AV.kill, AO.kill, AV.thaw, AO.thaw, Zaw, Zax, Zay, Zaz, Zba, Zbb, Zbc, Zbd, Zbe, ite_true, ite_false, reduceCtorEq, Nat.reduceAdd, Nat.reduceMul, Nat.reduceLeDiff, Nat.reduceLT, Nat.reduceEqDiff, forall_const]) ?_
          rintro x cs' ⟨s, rfl, hs, rfl⟩
          simp only [ZZ, IsnK_some, Za, Zb, Zc, Zd, Ze, Zf, Zg, Zh, rd, AV.un, AV.unA, AV.ad, Zi, Zj, Zk, Zl, Zm, Zn, Zo, Zp, Zq, Zr, Zs, Zt, Zu, Zv, Zw, Zx, Zy, Zz, Zaa, Zab, Zac, Zad, Zae, Zaf, Zag, Zah, Zai, Zaj, Zak, Zal, Zam, Zan, wk1, wk, Zao, Zap, Zaq, Zar, Zas, Zat, Zau, Zav, AV.kill, AO.kill, AV.thaw, AO.thaw, Zaw, Zax, Zay, Zaz, Zba, Zbb, Zbc, Zbd, Zbe, ite_true, ite_false, reduceCtorEq, Nat.reduceAdd, Nat.reduceMul, Nat.reduceLeDiff, Nat.reduceLT, Nat.reduceEqDiff, forall_const]
          refine useS (Range_ok l (k' + 1 + 1 + 1) 0 4 (by omega) hl (by decide) (by decide) (by decide)) rfl rfl rfl (by simp only [ZZ, IsnK_some, Za, Zb, Zc, Zd, Ze, Zf, Zg, Zh, rd, AV.un, AV.unA, AV.ad, Zi, Zj, Zk, Zl, Zm, Zn, Zo, Zp, Zq, Zr, Zs, Zt, Zu, Zv, Zw, Zx, Zy, Zz, Zaa, Zab, Zac, Zad, Zae, Zaf, Zag, Zah, Zai, Zaj, Zak, Zal, Zam, Zan, wk1, wk, Zao, Zap, Zaq, Zar, Zas, Zat, Zau, Zav, AV.kill, AO.kill, AV.thaw, AO.thaw, Zaw, Zax, Zay, Zaz, Zba, Zbb, Zbc, Zbd, Zbe, ite_true, ite_false, reduceCtorEq, Nat.reduceAdd, Nat.reduceMul, Nat.reduceLeDiff, Nat.reduceLT, Nat.reduceEqDiff, forall_const]) ?_
          rintro x cs' ⟨a, rfl, ha0, ha1, rfl⟩
          simp only [ZZ, IsnK_some, Za, Zb, Zc, Zd, Ze, Zf, Zg, Zh, rd, AV.un, AV.unA, AV.ad, Zi, Zj, Zk, Zl, Zm, Zn, Zo, Zp, Zq, Zr, Zs, Zt, Zu, Zv, Zw, Zx, Zy, Zz, Zaa, Zab, Zac, Zad, Zae, Zaf, Zag, Zah, Zai, Zaj, Zak, Zal, Zam, Zan, wk1, wk, Zao, Zap, Zaq, Zar, Zas, Zat, Zau, Zav, AV.kill, AO.kill, AV.thaw, AO.thaw, Zaw, Zax, Zay, Zaz, Zba, Zbb, Zbc, Zbd, Zbe, ite_true, ite_false, reduceCtorEq, Nat.reduceAdd, Nat.reduceMul, Nat.reduceLeDiff, Nat.reduceLT, Nat.reduceEqDiff, forall_const]
          refine useS (Range_ok l (k' + 1 + 1 + 1 + 1) 0 5 (by omega) hl (by decide) (by decide) (by decide)) rfl rfl rfl (by simp only [ZZ, IsnK_some, Za, Zb, Zc, Zd, Ze, Zf, Zg, Zh, rd, AV.un, AV.unA, AV.ad, Zi, Zj, Zk, Zl, Zm, Zn, Zo, Zp, Zq, Zr, Zs, Zt, Zu, Zv, Zw, Zx, Zy, Zz, Zaa, Zab, Zac, Zad, Zae, Zaf, Zag, Zah, Zai, Zaj, Zak, Zal, Zam, Zan, wk1, wk, Zao, Zap, Zaq, Zar, Zas, Zat, Zau, Zav, AV.kill, AO.kill, AV.thaw, AO.thaw, Zaw, Zax, Zay, Zaz, Zba, Zbb, Zbc, Zbd, Zbe, ite_true, ite_false, reduceCtorEq, Nat.reduceAdd, Nat.reduceMul, Nat.reduceLeDiff, Nat.reduceLT, Nat.reduceEqDiff, forall_const]) ?_
          rintro x cs' ⟨c, rfl, hc0, hc1, rfl⟩
          simp only [ZZ, IsnK_some, Za, Zb, Zc, Zd, Ze, Zf, Zg, Zh, rd, AV.un, AV.unA, AV.ad, Zi, Zj, Zk, Zl, Zm, Zn, Zo, Zp, Zq, Zr, Zs, Zt, Zu, Zv, Zw, Zx, Zy, Zz, Zaa, Zab, Zac, Zad, Zae, Zaf, Zag, Zah, Zai, Zaj, Zak, Zal, Zam, Zan, wk1, wk, Zao, Zap, Zaq, Zar, Zas, Zat, Zau, Zav, AV.kill, AO.kill, AV.thaw, AO.thaw, Zaw, Zax, Zay, Zaz, Zba, Zbb, Zbc, Zbd, Zbe, ite_true, ite_false, reduceCtorEq, Nat.reduceAdd, Nat.reduceMul, Nat.reduceLeDiff, Nat.reduceLT, Nat.reduceEqDiff, forall_const]
          refine ⟨by simp [d0], to_mid [.adr (.b 0) 0, .any, .adr (.l 2) 0, .adr (.l 3) 0, .any, .any, .any, .any, .any, .any, .any, .any, .any, .any, .any, .any, .any, .any, .any, .any, .any, .any, .any, .any, .any, .any, .any, .any, .any, .any, .any, .any, .any, .any, .any, .any, .any, .any, .any, .any, .any, .any, .any, .any, .any, .any, .any, .any, .any, .any, .any, .any, .any, .any, .any, .any, .any, .any, .any, .any, .any, .any, .any, .any, .any, .any, .any, .any, .any, .any, .any, .any, .any, .any, .any, .any, .any, .any, .any, .any, .any, .any, .any, .any, .any, .any, .any, .any, .any, .any, .any, .any, .any, .any, .any, .any, .any, .any, .any, .any, .any] [(.b 0, .box ((stm l (k' + 1 + 1 + 1 + 1 + 1)).map .p) T), (.l 2, .box [.p (.nl 3), .p (.nl 3), .p (.nl 1), .p (.nl 1)] tCircle), (.l 3, .box [.p (.sl 3 ((P).map par)), .p (.sl 3 ((d0 y ++ [(s, a, c)]).map par)), .p (.sl 1 ((T0).map fun x => [PV.str x])), .p (.sl 1 ((X0).map fun x => [PV.str x]))] tCircle)] (by (simp only [ZZ, IsnK_some, Za, Zb, Zc, Zd, Ze, Zf, Zg, Zh, rd, AV.un, AV.unA, AV.ad, Zi, Zj, Zk, Zl, Zm, Zn, Zo, Zp, Zq, Zr, Zs, Zt, Zu, Zv, Zw, Zx, Zy, Zz, Zaa, Zab, Zac, Zad, Zae, Zaf, Zag, Zah, Zai, Zaj, Zak, Zal, Zam, Zan, wk1, wk, Zao, Zap, Zaq, Zar, Zas, Zat, Zau, Zav, AV.kill, AO.kill, AV.thaw, AO.thaw, Zaw, Zax, Zay, Zaz, Zba, Zbb, Zbc, Zbd, Zbe, ite_true, ite_false, reduceCtorEq, Nat.reduceAdd, Nat.reduceMul, Nat.reduceLeDiff, Nat.reduceLT, Nat.reduceEqDiff, forall_const]; try trivial)) (by rw [List.map_append]; simp only [ZZ, IsnK_some, Za, Zb, Zc, Zd, Ze, Zf, Zg, Zh, rd, AV.un, AV.unA, AV.ad, Zi, Zj, Zk, Zl, Zm, Zn, Zo, Zp, Zq, Zr, Zs, Zt, Zu, Zv, Zw, Zx, Zy, Zz, Zaa, Zab, Zac, Zad, Zae, Zaf, Zag, Zah, Zai, Zaj, Zak, Zal, Zam, Zan, wk1, wk, Zao, Zap, Zaq, Zar, Zas, Zat, Zau, Zav, AV.kill, AO.kill, AV.thaw, AO.thaw, Zaw, Zax, Zay, Zaz, Zba, Zbb, Zbc, Zbd, Zbe, ite_true, ite_false, reduceCtorEq, Nat.reduceAdd, Nat.reduceMul, Nat.reduceLeDiff, Nat.reduceLT, Nat.reduceEqDiff, forall_const, par]) ⟨_, _, _, _, _, ?_, by omega, .inr ⟨rfl, rfl⟩⟩⟩
          refine ⟨by omega, hPo, by simp [d0], fun p hp => ?_, ⟨T0, hT0, .inl rfl⟩, ⟨X0, hX0, .inl rfl⟩⟩
          rcases List.mem_append.1 hp with h | h
          · exact hDo p h
          · simp only [List.mem_singleton] at h
            subst h
            exact ⟨by simp only [List.mem_cons, List.not_mem_nil, or_false] at hs; rcases hs with rfl | rfl | rfl | rfl <;> simp [dS], ha0, ha1, hc0, hc1⟩
        · intro _
          simp only [ZZ, IsnK_some, Za, Zb, Zc, Zd, Ze, Zf, Zg, Zh, rd, AV.un, AV.unA, AV.ad, Zi, Zj, Zk, Zl, Zm, Zn, Zo, Zp, Zq, Zr, Zs, Zt, Zu, Zv, Zw, Zx, Zy, Zz, Zaa, Zab, Zac, Zad, Zae, Zaf, Zag, Zah, Zai, Zaj, Zak, Zal, Zam, Zan, wk1, wk, Zao, Zap, Zaq, Zar, Zas, Zat, Zau, Zav, AV.kill, AO.kill, AV.thaw, AO.thaw, Zaw, Zax, Zay, Zaz, Zba, Zbb, Zbc, Zbd, Zbe, ite_true, ite_false, reduceCtorEq, Nat.reduceAdd, Nat.reduceMul, Nat.reduceLeDiff, Nat.reduceLT, Nat.reduceEqDiff, forall_const]
          refine br ?_ ?_
          · intro _
            simp only [ZZ, IsnK_some, Za, Zb, Zc, Zd, Ze, Zf, Zg, Zh, rd, AV.un, AV.unA, AV.ad, Zi, Zj, Zk, Zl, Zm, Zn, Zo, Zp, Zq, Zr, Zs, Zt, Zu, Zv, Zw, Zx, Zy, Zz, Zaa, Zab, Zac, Zad, Zae, Zaf, Zag, Zah, Zai, Zaj, Zak, Zal, Zam, Zan, wk1, wk, Zao, Zap, Zaq, Zar, Zas, Zat, Zau, Zav, AV.kill, AO.kill, AV.thaw, AO.thaw, Zaw, Zax, Zay, Zaz, Zba, Zbb, Zbc, Zbd, Zbe, ite_true, ite_false, reduceCtorEq, Nat.reduceAdd, Nat.reduceMul, Nat.reduceLeDiff, Nat.reduceLT, Nat.reduceEqDiff, forall_const]
            refine useF (CloneS_ok (T0.map fun x => [PV.str x]) (by simp; omega)) rfl rfl ?_
            rintro es rfl
            simp only [ZZ, IsnK_some, Za, Zb, Zc, Zd, Ze, Zf, Zg, Zh, rd, AV.un, AV.unA, AV.ad, Zi, Zj, Zk, Zl, Zm, Zn, Zo, Zp, Zq, Zr, Zs, Zt, Zu, Zv, Zw, Zx, Zy, Zz, Zaa, Zab, Zac, Zad, Zae, Zaf, Zag, Zah, Zai, Zaj, Zak, Zal, Zam, Zan, wk1, wk, Zao, Zap, Zaq, Zar, Zas, Zat, Zau, Zav, AV.kill, AO.kill, AV.thaw, AO.thaw, Zaw, Zax, Zay, Zaz, Zba, Zbb, Zbc, Zbd, Zbe, ite_true, ite_false, reduceCtorEq, Nat.reduceAdd, Nat.reduceMul, Nat.reduceLeDiff, Nat.reduceLT, Nat.reduceEqDiff, forall_const]
            refine use1 (RepeatG_ok [122] 60 (by omega) (by simp)) rfl (.inl rfl) ?_
            simp only [ZZ, IsnK_some, Za, Zb, Zc, Zd, Ze, Zf, Zg, Zh, rd, AV.un, AV.unA, AV.ad, Zi, Zj, Zk, Zl, Zm, Zn, Zo, Zp, Zq, Zr, Zs, Zt, Zu, Zv, Zw, Zx, Zy, Zz, Zaa, Zab, Zac, Zad, Zae, Zaf, Zag, Zah, Zai, Zaj, Zak, Zal, Zam, Zan, wk1, wk, Zao, Zap, Zaq, Zar, Zas, Zat, Zau, Zav, AV.kill, AO.kill, AV.thaw, AO.thaw, Zaw, Zax, Zay, Zaz, Zba, Zbb, Zbc, Zbd, Zbe, ite_true, ite_false, reduceCtorEq, Nat.reduceAdd, Nat.reduceMul, Nat.reduceLeDiff, Nat.reduceLT, Nat.reduceEqDiff, forall_const]
            refine use1 (RepeatG_ok [122] 61 (by omega) (by simp)) rfl (.inl rfl) ?_
            simp only [ZZ, IsnK_some, Za, Zb, Zc, Zd, Ze, Zf, Zg, Zh, rd, AV.un, AV.unA, AV.ad, Zi, Zj, Zk, Zl, Zm, Zn, Zo, Zp, Zq, Zr, Zs, Zt, Zu, Zv, Zw, Zx, Zy, Zz, Zaa, Zab, Zac, Zad, Zae, Zaf, Zag, Zah, Zai, Zaj, Zak, Zal, Zam, Zan, wk1, wk, Zao, Zap, Zaq, Zar, Zas, Zat, Zau, Zav, AV.kill, AO.kill, AV.thaw, AO.thaw, Zaw, Zax, Zay, Zaz, Zba, Zbb, Zbc, Zbd, Zbe, ite_true, ite_false, reduceCtorEq, Nat.reduceAdd, Nat.reduceMul, Nat.reduceLeDiff, Nat.reduceLT, Nat.reduceEqDiff, forall_const]
            refine useS (one_ok l (k' + 1 + 1) [[], [90, 101, 100], [122, 101, 100], [97], [122, 255], Lib.repeatL [122] 60, Lib.repeatL [122] 61] (by omega) hl (by simp) (by simp)) rfl rfl rfl (by simp only [ZZ, IsnK_some, Za, Zb, Zc, Zd, Ze, Zf, Zg, Zh, rd, AV.un, AV.unA, AV.ad, Zi, Zj, Zk, Zl, Zm, Zn, Zo, Zp, Zq, Zr, Zs, Zt, Zu, Zv, Zw, Zx, Zy, Zz, Zaa, Zab, Zac, Zad, Zae, Zaf, Zag, Zah, Zai, Zaj, Zak, Zal, Zam, Zan, wk1, wk, Zao, Zap, Zaq, Zar, Zas, Zat, Zau, Zav, AV.kill, AO.kill, AV.thaw, AO.thaw, Zaw, Zax, Zay, Zaz, Zba, Zbb, Zbc, Zbd, Zbe, ite_true, ite_false, reduceCtorEq, Nat.reduceAdd, Nat.reduceMul, Nat.reduceLeDiff, Nat.reduceLT, Nat.reduceEqDiff, forall_const]) ?_
            rintro x cs' ⟨s, rfl, hs, rfl⟩
            simp only [ZZ, IsnK_some, Za, Zb, Zc, Zd, Ze, Zf, Zg, Zh, rd, AV.un, AV.unA, AV.ad, Zi, Zj, Zk, Zl, Zm, Zn, Zo, Zp, Zq, Zr, Zs, Zt, Zu, Zv, Zw, Zx, Zy, Zz, Zaa, Zab, Zac, Zad, Zae, Zaf, Zag, Zah, Zai, Zaj, Zak, Zal, Zam, Zan, wk1, wk, Zao, Zap, Zaq, Zar, Zas, Zat, Zau, Zav, AV.kill, AO.kill, AV.thaw, AO.thaw, Zaw, Zax, Zay, Zaz, Zba, Zbb, Zbc, Zbd, Zbe, ite_true, ite_false, reduceCtorEq, Nat.reduceAdd, Nat.reduceMul, Nat.reduceLeDiff, Nat.reduceLT, Nat.reduceEqDiff, forall_const]
            refine ⟨by simp; omega, to_mid [.adr (.b 0) 0, .any, .adr (.l 2) 0, .adr (.l 3) 0, .any, .any, .any, .any, .any, .any, .any, .any, .any, .any, .row (.l 14), .any, .any, .any, .any, .any, .any, .any, .any, .any, .any, .any, .any, .any, .any, .any, .any, .any, .any, .any, .any, .any, .any, .any, .any, .any, .any, .any, .any, .any, .any, .any, .any, .any, .any, .any, .any, .any, .any, .any, .any, .any, .any, .any, .any, .any, .any, .any, .any, .any, .any, .any, .any, .any, .any, .any, .any, .any, .any, .any, .any, .any, .any, .any, .any, .any, .any, .any, .any, .any, .any, .any, .any, .any, .any, .any, .any, .any, .any, .any, .any, .any, .any, .any, .any, .any, .any] [(.b 0, .box ((stm l (k' + 1 + 1 + 1)).map .p) T), (.l 2, .box [.p (.nl 3), .p (.nl 3), .p (.nl 1), .p (.nl 1)] tCircle), (.l 14, .row ((d0 y).map par) tDomain 3 true), (.l 3, .box [.p (.sl 3 ((P).map par)), .row (.l 14), .p (.sl 1 ((T0 ++ [s]).map fun x => [PV.str x])), .p (.sl 1 ((X0).map fun x => [PV.str x]))] tCircle)] (by (simp only [ZZ, IsnK_some, Za, Zb, Zc, Zd, Ze, Zf, Zg, Zh, rd, AV.un, AV.unA, AV.ad, Zi, Zj, Zk, Zl, Zm, Zn, Zo, Zp, Zq, Zr, Zs, Zt, Zu, Zv, Zw, Zx, Zy, Zz, Zaa, Zab, Zac, Zad, Zae, Zaf, Zag, Zah, Zai, Zaj, Zak, Zal, Zam, Zan, wk1, wk, Zao, Zap, Zaq, Zar, Zas, Zat, Zau, Zav, AV.kill, AO.kill, AV.thaw, AO.thaw, Zaw, Zax, Zay, Zaz, Zba, Zbb, Zbc, Zbd, Zbe, ite_true, ite_false, reduceCtorEq, Nat.reduceAdd, Nat.reduceMul, Nat.reduceLeDiff, Nat.reduceLT, Nat.reduceEqDiff, forall_const]; try trivial)) (by rw [List.map_append]; simp only [ZZ, IsnK_some, Za, Zb, Zc, Zd, Ze, Zf, Zg, Zh, rd, AV.un, AV.unA, AV.ad, Zi, Zj, Zk, Zl, Zm, Zn, Zo, Zp, Zq, Zr, Zs, Zt, Zu, Zv, Zw, Zx, Zy, Zz, Zaa, Zab, Zac, Zad, Zae, Zaf, Zag, Zah, Zai, Zaj, Zak, Zal, Zam, Zan, wk1, wk, Zao, Zap, Zaq, Zar, Zas, Zat, Zau, Zav, AV.kill, AO.kill, AV.thaw, AO.thaw, Zaw, Zax, Zay, Zaz, Zba, Zbb, Zbc, Zbd, Zbe, ite_true, ite_false, reduceCtorEq, Nat.reduceAdd, Nat.reduceMul, Nat.reduceLeDiff, Nat.reduceLT, Nat.reduceEqDiff, forall_const]) ⟨_, _, _, _, _, ?_, by omega, .inl ⟨rfl, rfl⟩⟩⟩
            exact ⟨by omega, hPo, by simp [d0], hDo, ⟨T0, hT0, .inr ⟨s, hs, rfl⟩⟩, ⟨X0, hX0, .inl rfl⟩⟩
          · intro _
            simp only [ZZ, IsnK_some, Za, Zb, Zc, Zd, Ze, Zf, Zg, Zh, rd, AV.un, AV.unA, AV.ad, Zi, Zj, Zk, Zl, Zm, Zn, Zo, Zp, Zq, Zr, Zs, Zt, Zu, Zv, Zw, Zx, Zy, Zz, Zaa, Zab, Zac, Zad, Zae, Zaf, Zag, Zah, Zai, Zaj, Zak, Zal, Zam, Zan, wk1, wk, Zao, Zap, Zaq, Zar, Zas, Zat, Zau, Zav, AV.kill, AO.kill, AV.thaw, AO.thaw, Zaw, Zax, Zay, Zaz, Zba, Zbb, Zbc, Zbd, Zbe, ite_true, ite_false, reduceCtorEq, Nat.reduceAdd, Nat.reduceMul, Nat.reduceLeDiff, Nat.reduceLT, Nat.reduceEqDiff, forall_const]
            refine br ?_ ?_
            · intro _
              simp only [ZZ, IsnK_some, Za, Zb, Zc, Zd, Ze, Zf, Zg, Zh, rd, AV.un, AV.unA, AV.ad, Zi, Zj, Zk, Zl, Zm, Zn, Zo, Zp, Zq, Zr, Zs, Zt, Zu, Zv, Zw, Zx, Zy, Zz, Zaa, Zab, Zac, Zad, Zae, Zaf, Zag, Zah, Zai, Zaj, Zak, Zal, Zam, Zan, wk1, wk, Zao, Zap, Zaq, Zar, Zas, Zat, Zau, Zav, AV.kill, AO.kill, AV.thaw, AO.thaw, Zaw, Zax, Zay, Zaz, Zba, Zbb, Zbc, Zbd, Zbe, ite_true, ite_false, reduceCtorEq, Nat.reduceAdd, Nat.reduceMul, Nat.reduceLeDiff, Nat.reduceLT, Nat.reduceEqDiff, forall_const]
              refine useF (CloneS_ok (X0.map fun x => [PV.str x]) (by simp; omega)) rfl rfl ?_
              rintro es rfl
              simp only [ZZ, IsnK_some, Za, Zb, Zc, Zd, Ze, Zf, Zg, Zh, rd, AV.un, AV.unA, AV.ad, Zi, Zj, Zk, Zl, Zm, Zn, Zo, Zp, Zq, Zr, Zs, Zt, Zu, Zv, Zw, Zx, Zy, Zz, Zaa, Zab, Zac, Zad, Zae, Zaf, Zag, Zah, Zai, Zaj, Zak, Zal, Zam, Zan, wk1, wk, Zao, Zap, Zaq, Zar, Zas, Zat, Zau, Zav, AV.kill, AO.kill, AV.thaw, AO.thaw, Zaw, Zax, Zay, Zaz, Zba, Zbb, Zbc, Zbd, Zbe, ite_true, ite_false, reduceCtorEq, Nat.reduceAdd, Nat.reduceMul, Nat.reduceLeDiff, Nat.reduceLT, Nat.reduceEqDiff, forall_const]
              refine useS (one_ok l (k' + 1 + 1) [[], [97, 108, 108, 64, 102, 105, 114, 109, 46, 100, 101], [122, 111, 101, 64, 102, 105, 114, 109, 46, 100, 101]] (by omega) hl (by simp) (by simp)) rfl rfl rfl (by simp only [ZZ, IsnK_some, Za, Zb, Zc, Zd, Ze, Zf, Zg, Zh, rd, AV.un, AV.unA, AV.ad, Zi, Zj, Zk, Zl, Zm, Zn, Zo, Zp, Zq, Zr, Zs, Zt, Zu, Zv, Zw, Zx, Zy, Zz, Zaa, Zab, Zac, Zad, Zae, Zaf, Zag, Zah, Zai, Zaj, Zak, Zal, Zam, Zan, wk1, wk, Zao, Zap, Zaq, Zar, Zas, Zat, Zau, Zav, AV.kill, AO.kill, AV.thaw, AO.thaw, Zaw, Zax, Zay, Zaz, Zba, Zbb, Zbc, Zbd, Zbe, ite_true, ite_false, reduceCtorEq, Nat.reduceAdd, Nat.reduceMul, Nat.reduceLeDiff, Nat.reduceLT, Nat.reduceEqDiff, forall_const]) ?_
              rintro x cs' ⟨s, rfl, hs, rfl⟩
              simp only [ZZ, IsnK_some, Za, Zb, Zc, Zd, Ze, Zf, Zg, Zh, rd, AV.un, AV.unA, AV.ad, Zi, Zj, Zk, Zl, Zm, Zn, Zo, Zp, Zq, Zr, Zs, Zt, Zu, Zv, Zw, Zx, Zy, Zz, Zaa, Zab, Zac, Zad, Zae, Zaf, Zag, Zah, Zai, Zaj, Zak, Zal, Zam, Zan, wk1, wk, Zao, Zap, Zaq, Zar, Zas, Zat, Zau, Zav, AV.kill, AO.kill, AV.thaw, AO.thaw, Zaw, Zax, Zay, Zaz, Zba, Zbb, Zbc, Zbd, Zbe, ite_true, ite_false, reduceCtorEq, Nat.reduceAdd, Nat.reduceMul, Nat.reduceLeDiff, Nat.reduceLT, Nat.reduceEqDiff, forall_const]
              refine ⟨by simp; omega, to_mid [.adr (.b 0) 0, .any, .adr (.l 2) 0, .adr (.l 3) 0, .any, .any, .any, .any, .any, .any, .any, .any, .any, .any, .row (.l 14), .any, .any, .any, .any, .any, .any, .any, .any, .any, .any, .any, .any, .any, .any, .any, .any, .any, .any, .any, .any, .any, .any, .any, .any, .any, .any, .any, .any, .any, .any, .any, .any, .any, .any, .any, .any, .any, .any, .any, .any, .any, .any, .any, .any, .any, .any, .any, .any, .any, .any, .any, .any, .any, .any, .any, .any, .any, .any, .any, .any, .any, .any, .any, .any, .any, .any, .any, .any, .any, .any, .any, .any, .any, .any, .any, .any, .any, .any, .any, .any, .any, .any, .any, .any, .any, .any] [(.b 0, .box ((stm l (k' + 1 + 1 + 1)).map .p) T), (.l 2, .box [.p (.nl 3), .p (.nl 3), .p (.nl 1), .p (.nl 1)] tCircle), (.l 14, .row ((d0 y).map par) tDomain 3 true), (.l 3, .box [.p (.sl 3 ((P).map par)), .row (.l 14), .p (.sl 1 ((T0).map fun x => [PV.str x])), .p (.sl 1 ((X0 ++ [s]).map fun x => [PV.str x]))] tCircle)] (by (simp only [ZZ, IsnK_some, Za, Zb, Zc, Zd, Ze, Zf, Zg, Zh, rd, AV.un, AV.unA, AV.ad, Zi, Zj, Zk, Zl, Zm, Zn, Zo, Zp, Zq, Zr, Zs, Zt, Zu, Zv, Zw, Zx, Zy, Zz, Zaa, Zab, Zac, Zad, Zae, Zaf, Zag, Zah, Zai, Zaj, Zak, Zal, Zam, Zan, wk1, wk, Zao, Zap, Zaq, Zar, Zas, Zat, Zau, Zav, AV.kill, AO.kill, AV.thaw, AO.thaw, Zaw, Zax, Zay, Zaz, Zba, Zbb, Zbc, Zbd, Zbe, ite_true, ite_false, reduceCtorEq, Nat.reduceAdd, Nat.reduceMul, Nat.reduceLeDiff, Nat.reduceLT, Nat.reduceEqDiff, forall_const]; try trivial)) (by rw [List.map_append]; simp only [ZZ, IsnK_some, Za, Zb, Zc, Zd, Ze, Zf, Zg, Zh, rd, AV.un, AV.unA, AV.ad, Zi, Zj, Zk, Zl, Zm, Zn, Zo, Zp, Zq, Zr, Zs, Zt, Zu, Zv, Zw, Zx, Zy, Zz, Zaa, Zab, Zac, Zad, Zae, Zaf, Zag, Zah, Zai, Zaj, Zak, Zal, Zam, Zan, wk1, wk, Zao, Zap, Zaq, Zar, Zas, Zat, Zau, Zav, AV.kill, AO.kill, AV.thaw, AO.thaw, Zaw, Zax, Zay, Zaz, Zba, Zbb, Zbc, Zbd, Zbe, ite_true, ite_false, reduceCtorEq, Nat.reduceAdd, Nat.reduceMul, Nat.reduceLeDiff, Nat.reduceLT, Nat.reduceEqDiff, forall_const]) ⟨_, _, _, _, _, ?_, by omega, .inl ⟨rfl, rfl⟩⟩⟩
              exact ⟨by omega, hPo, by simp [d0], hDo, ⟨T0, hT0, .inl rfl⟩, ⟨X0, hX0, .inr ⟨s, hs, rfl⟩⟩⟩
            · intro _
              simp only [ZZ, IsnK_some, Za, Zb, Zc, Zd, Ze, Zf, Zg, Zh, rd, AV.un, AV.unA, AV.ad, Zi, Zj, Zk, Zl, Zm, Zn, Zo, Zp, Zq, Zr, Zs, Zt, Zu, Zv, Zw, Zx, Zy, Zz, Zaa, Zab, Zac, Zad, Zae, Zaf, Zag, Zah, Zai, Zaj, Zak, Zal, Zam, Zan, wk1, wk, Zao, Zap, Zaq, Zar, Zas, Zat, Zau, Zav, AV.kill, AO.kill, AV.thaw, AO.thaw, Zaw, Zax, Zay, Zaz, Zba, Zbb, Zbc, Zbd, Zbe, ite_true, ite_false, reduceCtorEq, Nat.reduceAdd, Nat.reduceMul, Nat.reduceLeDiff, Nat.reduceLT, Nat.reduceEqDiff, forall_const]
              refine useR (Reverse3_ok _ _ _ _ _ _ _ _ _) rfl rfl rfl (by simp only [ZZ, IsnK_some, Za, Zb, Zc, Zd, Ze, Zf, Zg, Zh, rd, AV.un, AV.unA, AV.ad, Zi, Zj, Zk, Zl, Zm, Zn, Zo, Zp, Zq, Zr, Zs, Zt, Zu, Zv, Zw, Zx, Zy, Zz, Zaa, Zab, Zac, Zad, Zae, Zaf, Zag, Zah, Zai, Zaj, Zak, Zal, Zam, Zan, wk1, wk, Zao, Zap, Zaq, Zar, Zas, Zat, Zau, Zav, AV.kill, AO.kill, AV.thaw, AO.thaw, Zaw, Zax, Zay, Zaz, Zba, Zbb, Zbc, Zbd, Zbe, ite_true, ite_false, reduceCtorEq, Nat.reduceAdd, Nat.reduceMul, Nat.reduceLeDiff, Nat.reduceLT, Nat.reduceEqDiff, forall_const]) ?_
              rintro x es' rfl
              simp only [ZZ, IsnK_some, Za, Zb, Zc, Zd, Ze, Zf, Zg, Zh, rd, AV.un, AV.unA, AV.ad, Zi, Zj, Zk, Zl, Zm, Zn, Zo, Zp, Zq, Zr, Zs, Zt, Zu, Zv, Zw, Zx, Zy, Zz, Zaa, Zab, Zac, Zad, Zae, Zaf, Zag, Zah, Zai, Zaj, Zak, Zal, Zam, Zan, wk1, wk, Zao, Zap, Zaq, Zar, Zas, Zat, Zau, Zav, AV.kill, AO.kill, AV.thaw, AO.thaw, Zaw, Zax, Zay, Zaz, Zba, Zbb, Zbc, Zbd, Zbe, ite_true, ite_false, reduceCtorEq, Nat.reduceAdd, Nat.reduceMul, Nat.reduceLeDiff, Nat.reduceLT, Nat.reduceEqDiff, forall_const]
              refine to_mid [.adr (.b 0) 0, .any, .adr (.l 2) 0, .adr (.l 3) 0, .any, .any, .any, .any, .any, .any, .any, .any, .any, .any, .row (.l 14), .any, .any, .any, .any, .any, .any, .any, .any, .any, .any, .any, .any, .any, .any, .any, .any, .any, .any, .any, .any, .any, .any, .any, .any, .any, .any, .any, .any, .any, .any, .any, .any, .any, .any, .any, .any, .any, .any, .any, .any, .any, .any, .any, .any, .any, .any, .any, .any, .any, .any, .any, .any, .any, .any, .any, .any, .any, .any, .any, .any, .any, .any, .any, .any, .any, .any, .any, .any, .any, .any, .any, .any, .any, .any, .any, .any, .any, .any, .any, .any, .any, .any, .any, .any, .any, .any] [(.b 0, .box ((stm l (k' + 1 + 1)).map .p) T), (.l 2, .box [.p (.nl 3), .p (.nl 3), .p (.nl 1), .p (.nl 1)] tCircle), (.l 14, .row (((d0 y).reverse).map par) tDomain 3 true), (.l 3, .box [.p (.sl 3 ((P).map par)), .row (.l 14), .p (.sl 1 ((T0).map fun x => [PV.str x])), .p (.sl 1 ((X0).map fun x => [PV.str x]))] tCircle)] (by (simp only [ZZ, IsnK_some, Za, Zb, Zc, Zd, Ze, Zf, Zg, Zh, rd, AV.un, AV.unA, AV.ad, Zi, Zj, Zk, Zl, Zm, Zn, Zo, Zp, Zq, Zr, Zs, Zt, Zu, Zv, Zw, Zx, Zy, Zz, Zaa, Zab, Zac, Zad, Zae, Zaf, Zag, Zah, Zai, Zaj, Zak, Zal, Zam, Zan, wk1, wk, Zao, Zap, Zaq, Zar, Zas, Zat, Zau, Zav, AV.kill, AO.kill, AV.thaw, AO.thaw, Zaw, Zax, Zay, Zaz, Zba, Zbb, Zbc, Zbd, Zbe, ite_true, ite_false, reduceCtorEq, Nat.reduceAdd, Nat.reduceMul, Nat.reduceLeDiff, Nat.reduceLT, Nat.reduceEqDiff, forall_const]; try trivial)) (by simp only [ZZ, IsnK_some, Za, Zb, Zc, Zd, Ze, Zf, Zg, Zh, rd, AV.un, AV.unA, AV.ad, Zi, Zj, Zk, Zl, Zm, Zn, Zo, Zp, Zq, Zr, Zs, Zt, Zu, Zv, Zw, Zx, Zy, Zz, Zaa, Zab, Zac, Zad, Zae, Zaf, Zag, Zah, Zai, Zaj, Zak, Zal, Zam, Zan, wk1, wk, Zao, Zap, Zaq, Zar, Zas, Zat, Zau, Zav, AV.kill, AO.kill, AV.thaw, AO.thaw, Zaw, Zax, Zay, Zaz, Zba, Zbb, Zbc, Zbd, Zbe, ite_true, ite_false, reduceCtorEq, Nat.reduceAdd, Nat.reduceMul, Nat.reduceLeDiff, Nat.reduceLT, Nat.reduceEqDiff, forall_const]; rfl) ⟨_, _, _, _, _, ?_, by omega, .inl ⟨rfl, rfl⟩⟩
              exact ⟨by omega, hPo, by simp [d0], fun p hp => hDo p (List.mem_reverse.1 hp), ⟨T0, hT0, .inl rfl⟩, ⟨X0, hX0, .inl rfl⟩⟩
    · intro _
      simp only [ZZ, IsnK_some, Za, Zb, Zc, Zd, Ze, Zf, Zg, Zh, rd, AV.un, AV.unA, AV.ad, Zi, Zj, Zk, Zl, Zm, Zn, Zo, Zp, Zq, Zr, Zs, Zt, Zu, Zv, Zw, Zx, Zy, Zz, Zaa, Zab, Zac, Zad, Zae, Zaf, Zag, Zah, Zai, Zaj, Zak, Zal, Zam, Zan, wk1, wk, Zao, Zap, Zaq, Zar, Zas, Zat, Zau, Zav, AV.kill, AO.kill, AV.thaw, AO.thaw, Zaw, Zax, Zay, Zaz, Zba, Zbb, Zbc, Zbd, Zbe, ite_true, ite_false, reduceCtorEq, Nat.reduceAdd, Nat.reduceMul, Nat.reduceLeDiff, Nat.reduceLT, Nat.reduceEqDiff, forall_const]
      refine to_mid [.adr (.b 0) 0, .any, .adr (.l 2) 0, .adr (.l 3) 0, .any, .any, .any, .any, .any, .any, .any, .any, .any, .any, .row (.l 14), .any, .any, .any, .any, .any, .any, .any, .any, .any, .any, .any, .any, .any, .any, .any, .any, .any, .any, .any, .any, .any, .any, .any, .any, .any, .any, .any, .any, .any, .any, .any, .any, .any, .any, .any, .any, .any, .any, .any, .any, .any, .any, .any, .any, .any, .any, .any, .any, .any, .any, .any, .any, .any, .any, .any, .any, .any, .any, .any, .any, .any, .any, .any, .any, .any, .any, .any, .any, .any, .any, .any, .any, .any, .any, .any, .any, .any, .any, .any, .any, .any, .any, .any, .any, .any, .any] [(.b 0, .box ((stm l (k' + 1)).map .p) T), (.l 2, .box [.p (.nl 3), .p (.nl 3), .p (.nl 1), .p (.nl 1)] tCircle), (.l 14, .row ((d0 y).map par) tDomain 3 true), (.l 3, .box [.p (.sl 3 ((P).map par)), .row (.l 14), .p (.sl 1 ((T0).map fun x => [PV.str x])), .p (.sl 1 ((X0).map fun x => [PV.str x]))] tCircle)] (by (simp only [ZZ, IsnK_some, Za, Zb, Zc, Zd, Ze, Zf, Zg, Zh, rd, AV.un, AV.unA, AV.ad, Zi, Zj, Zk, Zl, Zm, Zn, Zo, Zp, Zq, Zr, Zs, Zt, Zu, Zv, Zw, Zx, Zy, Zz, Zaa, Zab, Zac, Zad, Zae, Zaf, Zag, Zah, Zai, Zaj, Zak, Zal, Zam, Zan, wk1, wk, Zao, Zap, Zaq, Zar, Zas, Zat, Zau, Zav, AV.kill, AO.kill, AV.thaw, AO.thaw, Zaw, Zax, Zay, Zaz, Zba, Zbb, Zbc, Zbd, Zbe, ite_true, ite_false, reduceCtorEq, Nat.reduceAdd, Nat.reduceMul, Nat.reduceLeDiff, Nat.reduceLT, Nat.reduceEqDiff, forall_const]; try trivial)) (by simp only [ZZ, IsnK_some, Za, Zb, Zc, Zd, Ze, Zf, Zg, Zh, rd, AV.un, AV.unA, AV.ad, Zi, Zj, Zk, Zl, Zm, Zn, Zo, Zp, Zq, Zr, Zs, Zt, Zu, Zv, Zw, Zx, Zy, Zz, Zaa, Zab, Zac, Zad, Zae, Zaf, Zag, Zah, Zai, Zaj, Zak, Zal, Zam, Zan, wk1, wk, Zao, Zap, Zaq, Zar, Zas, Zat, Zau, Zav, AV.kill, AO.kill, AV.thaw, AO.thaw, Zaw, Zax, Zay, Zaz, Zba, Zbb, Zbc, Zbd, Zbe, ite_true, ite_false, reduceCtorEq, Nat.reduceAdd, Nat.reduceMul, Nat.reduceLeDiff, Nat.reduceLT, Nat.reduceEqDiff, forall_const]) ⟨_, _, _, _, _, ?_, by omega, .inl ⟨rfl, rfl⟩⟩
      exact ⟨by omega, hPo, by simp [d0], hDo, ⟨T0, hT0, .inl rfl⟩, ⟨X0, hX0, .inl rfl⟩⟩
    · rintro fr L ⟨P, D, Ts, X, k2, hC, hk2, ⟨rfl, rfl⟩ | ⟨rfl, rfl⟩⟩
      · simp only [ZZ, IsnK_some, Za, Zb, Zc, Zd, Ze, Zf, Zg, Zh, rd, AV.un, AV.unA, AV.ad, Zi, Zj, Zk, Zl, Zm, Zn, Zo, Zp, Zq, Zr, Zs, Zt, Zu, Zv, Zw, Zx, Zy, Zz, Zaa, Zab, Zac, Zad, Zae, Zaf, Zag, Zah, Zai, Zaj, Zak, Zal, Zam, Zan, wk1, wk, Zao, Zap, Zaq, Zar, Zas, Zat, Zau, Zav, AV.kill, AO.kill, AV.thaw, AO.thaw, Zaw, Zax, Zay, Zaz, Zba, Zbb, Zbc, Zbd, Zbe, ite_true, ite_false, reduceCtorEq, Nat.reduceAdd, Nat.reduceMul, Nat.reduceLeDiff, Nat.reduceLT, Nat.reduceEqDiff, forall_const]
        exact fin_S (stm l k2) rfl ⟨P, D, Ts, X, k2, hC, rfl, rfl, by omega⟩
      · simp only [ZZ, IsnK_some, Za, Zb, Zc, Zd, Ze, Zf, Zg, Zh, rd, AV.un, AV.unA, AV.ad, Zi, Zj, Zk, Zl, Zm, Zn, Zo, Zp, Zq, Zr, Zs, Zt, Zu, Zv, Zw, Zx, Zy, Zz, Zaa, Zab, Zac, Zad, Zae, Zaf, Zag, Zah, Zai, Zaj, Zak, Zal, Zam, Zan, wk1, wk, Zao, Zap, Zaq, Zar, Zas, Zat, Zau, Zav, AV.kill, AO.kill, AV.thaw, AO.thaw, Zaw, Zax, Zay, Zaz, Zba, Zbb, Zbc, Zbd, Zbe, ite_true, ite_false, reduceCtorEq, Nat.reduceAdd, Nat.reduceMul, Nat.reduceLeDiff, Nat.reduceLT, Nat.reduceEqDiff, forall_const]
        exact fin_S (stm l k2) rfl ⟨P, D, Ts, X, k2, hC, rfl, rfl, by omega⟩
end
end Go.Proofs.YtndjmidmfmcbkaaDoor

/- The terms of a circle. -/
namespace Go.Proofs.YtndjmidmfmcbkaaDoor
set_option linter.unusedVariables false
set_option linter.unusedSimpArgs false
set_option linter.defProp false

/- (*paperchase/chasemake.Stream).Terms -/
def ir_chasemake_Stream_Terms : IC :=
  (.seq (.reg [⟨some 2, .mov (.c (.nl 1)), none⟩])
    (.seq (.reg [⟨some 4, .mov (.t 0), none⟩,
      ⟨some 5, .call 37 [.t 4], none⟩,
      ⟨some 3, .alc 63 [.nl 3, .nl 3, .nl 1, .nl 1], none⟩,
      ⟨none, .st 4 (.t 3) (.t 5), none⟩])
    (.seq (.reg [⟨some 6, .fla 2 (.t 3), none⟩,
      ⟨some 7, .ld 1 false (.t 6), none⟩,
      ⟨some 2, .mov (.t 7), none⟩])
    .ret)))
def rs_chasemake_Stream_Terms : List IRes := [.t 2]
theorem ck_chasemake_Stream_Terms : chkF Tryd.prog Tryd.f7 ir_chasemake_Stream_Terms rs_chasemake_Stream_Terms 8 = true := by kernel_rfl


section
variable {E : Envt}
/-- What the terms may be. -/
def TermsOk (Ts : List (List UInt8)) : Prop := ∃ T0 ∈ [[t1], [t0, t1, t2], []], Ts = T0 ∨ ∃ t ∈ tS, Ts = T0 ++ [t]
theorem Terms_ok (l : List Int) (k : Nat) (hk : k ≤ 900000) (hl : l.length ≤ 9223372036854775807) :
    SCall Tryd.prog E 7 T (stm l k) [] (fun x cs' => ∃ Ts k', TermsOk Ts ∧ x = strs Ts ∧ cs' = stm l k' ∧ k' ≤ k + 20) := by
  unfold SCall
  refine gcallP mixed Tryd.func7 ck_chasemake_Stream_Terms ?_
  simp only [a0, l0, OS.ao, List.map_cons, List.map_nil, List.length_cons, List.length_nil, List.cons_append, List.nil_append, Nat.reduceSub, Nat.reduceAdd, List.replicate_succ, List.replicate_zero, ir_chasemake_Stream_Terms, rs_chasemake_Stream_Terms, ZZ, IsnK_some, Za, Zb, Zc, Zd, Ze, Zf, Zg, Zh, rd, AV.un, AV.unA, AV.ad, Zi, Zj, Zk, Zl, Zm, Zn, Zo, Zp, Zq, Zr, Zs, Zt, Zu, Zv, Zw, Zx, Zy, Zz, Zaa, Zab, Zac, Zad, Zae, Zaf, Zag, Zah, Zai, Zaj, Zak, Zal, Zam, Zan, wk1, wk, Zao, Zap, Zaq, Zar, Zas, Zat, Zau, Zav, AV.kill, AO.kill, AV.thaw, AO.thaw, Zaw, Zax, Zay, Zaz, Zba, Zbb, Zbc, Zbd, Zbe, ite_true, ite_false, reduceCtorEq, Nat.reduceAdd, Nat.reduceMul, Nat.reduceLeDiff, Nat.reduceLT, Nat.reduceEqDiff, forall_const]
  refine useS (Circle_ok l k hk hl) rfl rfl rfl (by simp only [ZZ, IsnK_some, Za, Zb, Zc, Zd, Ze, Zf, Zg, Zh, rd, AV.un, AV.unA, AV.ad, Zi, Zj, Zk, Zl, Zm, Zn, Zo, Zp, Zq, Zr, Zs, Zt, Zu, Zv, Zw, Zx, Zy, Zz, Zaa, Zab, Zac, Zad, Zae, Zaf, Zag, Zah, Zai, Zaj, Zak, Zal, Zam, Zan, wk1, wk, Zao, Zap, Zaq, Zar, Zas, Zat, Zau, Zav, AV.kill, AO.kill, AV.thaw, AO.thaw, Zaw, Zax, Zay, Zaz, Zba, Zbb, Zbc, Zbd, Zbe, ite_true, ite_false, reduceCtorEq, Nat.reduceAdd, Nat.reduceMul, Nat.reduceLeDiff, Nat.reduceLT, Nat.reduceEqDiff, forall_const]) ?_
  rintro x cs' ⟨P, D, Ts, X, k', hC, rfl, rfl, hk'⟩
  simp only [ZZ, IsnK_some, Za, Zb, Zc, Zd, Ze, Zf, Zg, Zh, rd, AV.un, AV.unA, AV.ad, Zi, Zj, Zk, Zl, Zm, Zn, Zo, Zp, Zq, Zr, Zs, Zt, Zu, Zv, Zw, Zx, Zy, Zz, Zaa, Zab, Zac, Zad, Zae, Zaf, Zag, Zah, Zai, Zaj, Zak, Zal, Zam, Zan, wk1, wk, Zao, Zap, Zaq, Zar, Zas, Zat, Zau, Zav, AV.kill, AO.kill, AV.thaw, AO.thaw, Zaw, Zax, Zay, Zaz, Zba, Zbb, Zbc, Zbd, Zbe, ite_true, ite_false, reduceCtorEq, Nat.reduceAdd, Nat.reduceMul, Nat.reduceLeDiff, Nat.reduceLT, Nat.reduceEqDiff, forall_const, circ, strs]
  exact fin_S (stm l k') rfl ⟨Ts, k', hC.2.2.2.2.1, rfl, rfl, hk'⟩
end
end Go.Proofs.YtndjmidmfmcbkaaDoor

/- The body of a mail: what the maker makes. -/
namespace Go.Proofs.YtndjmidmfmcbkaaDoor
set_option linter.unusedVariables false
set_option linter.unusedSimpArgs false
set_option linter.defProp false

/- (*paperchase/chasemake.Stream).body -/
def ir_chasemake_Stream_body_L0 : IC :=
  (.seq (.reg [⟨some 7, .bin .lss (.t 6) (.t 5), none⟩])
    (.seq (.cond (.t 7) .skip (.exit 0))
    (.seq (.block 1 (.seq (.reg [⟨some 8, .mov (.t 3), none⟩,
      ⟨some 9, .mov (.t 0), none⟩,
      ⟨some 10, .bsl 1 [.c (.str []), .c (.str []), .c (.str [62, 32]), .c (.str [62, 32]), .c (.str [62, 32, 62, 32]), .c (.str [62]), .c (.str [62, 62, 32])], none⟩,
      ⟨some 11, .call 41 [.t 9, .t 10], none⟩,
      ⟨some 12, .mov (.t 0), none⟩,
      ⟨some 13, .bsl 1 [.c (.str [98, 101, 32, 99, 97, 114, 101, 102, 117, 108]), .c (.str [116, 104, 105, 115, 32, 105, 115, 32, 108, 101, 103, 97, 108, 32, 97, 100, 118, 105, 99, 101]), .c (.str [108, 117, 110, 99, 104, 63]), .c (.str []), .c (.str [32]), .c (.str [66, 101, 32, 32, 67, 97, 114, 101, 102, 117, 108, 32]), .c (.str [111, 110, 101, 32, 109, 111, 114, 101]), .c (.str [112, 114, 105, 118, 105, 108, 101, 103, 101, 100, 32, 97, 110, 100, 32, 99, 111, 110, 102, 105, 100, 101, 110, 116, 105, 97, 108]), .c (.str [195, 169, 116, 195, 169, 32, 108, 101, 103, 97, 108, 32, 97, 100, 118, 105, 99, 101])], none⟩,
      ⟨some 14, .call 41 [.t 12, .t 13], none⟩,
      ⟨some 15, .bin .add (.t 11) (.t 14), none⟩,
      ⟨some 16, .bin .add (.t 15) (.c (.str [10])), none⟩,
      ⟨some 17, .bin .add (.t 8) (.t 16), none⟩,
      ⟨some 3, .mov (.t 17), none⟩])
    (.seq (.reg [⟨some 18, .mov (.t 0), none⟩,
      ⟨some 19, .call 17 [.t 18, .c (.int .i64 5)], none⟩])
    (.cond (.t 19) (.reg [⟨some 20, .mov (.t 3), none⟩,
      ⟨some 21, .mov (.t 0), none⟩,
      ⟨some 22, .bsl 1 [.c (.str []), .c (.str [62, 32])], none⟩,
      ⟨some 23, .call 41 [.t 21, .t 22], none⟩,
      ⟨some 24, .mov (.t 0), none⟩,
      ⟨some 25, .bsl 1 [.c (.str [66, 111, 32, 119, 114, 111, 116, 101, 58]), .c (.str [79, 110, 32, 77, 111, 110, 100, 97, 121, 32, 65, 110, 110, 32, 119, 114, 111, 116, 101, 58]), .c (.str [119, 114, 111, 116, 101, 58]), .c (.str [67, 121, 32, 115, 99, 104, 114, 105, 101, 98, 58]), .c (.str [45, 45, 45, 45, 45, 79, 114, 105, 103, 105, 110, 97, 108, 32, 77, 101, 115, 115, 97, 103, 101, 45, 45, 45, 45, 45])], none⟩,
      ⟨some 26, .call 41 [.t 24, .t 25], none⟩,
      ⟨some 27, .bin .add (.t 23) (.t 26), none⟩,
      ⟨some 28, .bin .add (.t 27) (.c (.str [10])), none⟩,
      ⟨some 29, .bin .add (.t 20) (.t 28), none⟩,
      ⟨some 3, .mov (.t 29), none⟩]) .skip))))
    (.cut (.reg [⟨some 30, .bin .add (.t 6) (.c (.int .i64 1)), none⟩,
      ⟨some 6, .mov (.t 30), none⟩])))))
def ir_chasemake_Stream_body : IC :=
  (.seq (.reg [⟨some 2, .mov (.c (.str [])), none⟩])
    (.seq (.reg [⟨some 3, .mov (.c (.str [])), none⟩])
    (.seq (.seq (.reg [⟨some 4, .mov (.t 0), none⟩,
      ⟨some 5, .call 39 [.t 4, .c (.int .i64 7)], none⟩,
      ⟨some 6, .mov (.c (.int .i64 0)), none⟩])
    (.block 0 (.loop ir_chasemake_Stream_body_L0)))
    (.seq (.reg [⟨some 31, .mov (.t 3), none⟩,
      ⟨some 2, .mov (.t 31), none⟩])
    .ret))))
def rs_chasemake_Stream_body : List IRes := [.t 2]
theorem ck_chasemake_Stream_body : chkF Tryd.prog Tryd.f38 ir_chasemake_Stream_body rs_chasemake_Stream_body 32 = true := by kernel_rfl


section
variable {E : Envt}
def bA : List (List UInt8) := [[], [], [62, 32], [62, 32], [62, 32, 62, 32], [62], [62, 62, 32]]
def bB : List (List UInt8) := [[98, 101, 32, 99, 97, 114, 101, 102, 117, 108], [116, 104, 105, 115, 32, 105, 115, 32, 108, 101, 103, 97, 108, 32, 97, 100, 118, 105, 99, 101], [108, 117, 110, 99, 104, 63], [], [32], [66, 101, 32, 32, 67, 97, 114, 101, 102, 117, 108, 32], [111, 110, 101, 32, 109, 111, 114, 101], [112, 114, 105, 118, 105, 108, 101, 103, 101, 100, 32, 97, 110, 100, 32, 99, 111, 110, 102, 105, 100, 101, 110, 116, 105, 97, 108], [195, 169, 116, 195, 169, 32, 108, 101, 103, 97, 108, 32, 97, 100, 118, 105, 99, 101]]
def bC : List (List UInt8) := [[], [62, 32]]
def bD : List (List UInt8) := [[66, 111, 32, 119, 114, 111, 116, 101, 58], [79, 110, 32, 77, 111, 110, 100, 97, 121, 32, 65, 110, 110, 32, 119, 114, 111, 116, 101, 58], [119, 114, 111, 116, 101, 58], [67, 121, 32, 115, 99, 104, 114, 105, 101, 98, 58], [45, 45, 45, 45, 45, 79, 114, 105, 103, 105, 110, 97, 108, 32, 77, 101, 115, 115, 97, 103, 101, 45, 45, 45, 45, 45]]
theorem bA_len : ∀ s ∈ bA, s.length ≤ 60 := by decide
theorem bB_len : ∀ s ∈ bB, s.length ≤ 60 := by decide
theorem bC_len : ∀ s ∈ bC, s.length ≤ 60 := by decide
theorem bD_len : ∀ s ∈ bD, s.length ≤ 60 := by decide
theorem body_ok (l : List Int) (k : Nat) (hk : k ≤ 900000) (hl : l.length ≤ 9223372036854775807) :
    SCall Tryd.prog E 38 T (stm l k) [] (fun x cs' => ∃ s k', x = .str s ∧ s.length ≤ 2000 ∧ cs' = stm l k' ∧ k' ≤ k + 40) := by
  unfold SCall
  refine gcallP mixed Tryd.func38 ck_chasemake_Stream_body ?_
  simp only [a0, l0, OS.ao, List.map_cons, List.map_nil, List.length_cons, List.length_nil, List.cons_append, List.nil_append, Nat.reduceSub, Nat.reduceAdd, List.replicate_succ, List.replicate_zero, ir_chasemake_Stream_body, rs_chasemake_Stream_body, ZZ, IsnK_some, Za, Zb, Zc, Zd, Ze, Zf, Zg, Zh, rd, AV.un, AV.unA, AV.ad, Zi, Zj, Zk, Zl, Zm, Zn, Zo, Zp, Zq, Zr, Zs, Zt, Zu, Zv, Zw, Zx, Zy, Zz, Zaa, Zab, Zac, Zad, Zae, Zaf, Zag, Zah, Zai, Zaj, Zak, Zal, Zam, Zan, wk1, wk, Zao, Zap, Zaq, Zar, Zas, Zat, Zau, Zav, AV.kill, AO.kill, AV.thaw, AO.thaw, Zaw, Zax, Zay, Zaz, Zba, Zbb, Zbc, Zbd, Zbe, ite_true, ite_false, reduceCtorEq, Nat.reduceAdd, Nat.reduceMul, Nat.reduceLeDiff, Nat.reduceLT, Nat.reduceEqDiff, forall_const]
  refine useS (Next_ok l k 7 (by omega) hl (by decide)) rfl rfl rfl (by simp only [ZZ, IsnK_some, Za, Zb, Zc, Zd, Ze, Zf, Zg, Zh, rd, AV.un, AV.unA, AV.ad, Zi, Zj, Zk, Zl, Zm, Zn, Zo, Zp, Zq, Zr, Zs, Zt, Zu, Zv, Zw, Zx, Zy, Zz, Zaa, Zab, Zac, Zad, Zae, Zaf, Zag, Zah, Zai, Zaj, Zak, Zal, Zam, Zan, wk1, wk, Zao, Zap, Zaq, Zar, Zas, Zat, Zau, Zav, AV.kill, AO.kill, AV.thaw, AO.thaw, Zaw, Zax, Zay, Zaz, Zba, Zbb, Zbc, Zbd, Zbe, ite_true, ite_false, reduceCtorEq, Nat.reduceAdd, Nat.reduceMul, Nat.reduceLeDiff, Nat.reduceLT, Nat.reduceEqDiff, forall_const]) ?_
  rintro x cs' ⟨y, rfl, rfl⟩
  have b1 := below_lo y 7
  have b2 := below_hi y 7 (by omega)
  generalize below y 7 = m at *
  simp only [ZZ, IsnK_some, Za, Zb, Zc, Zd, Ze, Zf, Zg, Zh, rd, AV.un, AV.unA, AV.ad, Zi, Zj, Zk, Zl, Zm, Zn, Zo, Zp, Zq, Zr, Zs, Zt, Zu, Zv, Zw, Zx, Zy, Zz, Zaa, Zab, Zac, Zad, Zae, Zaf, Zag, Zah, Zai, Zaj, Zak, Zal, Zam, Zan, wk1, wk, Zao, Zap, Zaq, Zar, Zas, Zat, Zau, Zav, AV.kill, AO.kill, AV.thaw, AO.thaw, Zaw, Zax, Zay, Zaz, Zba, Zbb, Zbc, Zbd, Zbe, ite_true, ite_false, reduceCtorEq, Nat.reduceAdd, Nat.reduceMul, Nat.reduceLeDiff, Nat.reduceLT, Nat.reduceEqDiff, forall_const]
  refine loop_intro (fun n fr L => ∃ (i k' : Nat) (s : List UInt8), n = 7 - i ∧ i ≤ 7 ∧ k' ≤ k + 1 + 5 * i ∧ s.length ≤ 250 * i ∧ fr = [.adr (.b 0) 0, .any, .any, .p (.str s), .any, .p (int m), .p (int (i : Nat)), .any, .any, .any, .any, .any, .any, .any, .any, .any, .any, .any, .any, .any, .any, .any, .any, .any, .any, .any, .any, .any, .any, .any, .any, .any] ∧ L = [(.b 0, .box ((stm l k').map .p) T)]) 7 [.adr (.b 0) 0, .any, .any, .p (.str []), .any, .p (int m), .p (int (0 : Nat)), .any, .any, .any, .any, .any, .any, .any, .any, .any, .any, .any, .any, .any, .any, .any, .any, .any, .any, .any, .any, .any, .any, .any, .any, .any] [(.b 0, .box ((stm l (k + 1)).map .p) T)] (by (simp only [ZZ, IsnK_some, Za, Zb, Zc, Zd, Ze, Zf, Zg, Zh, rd, AV.un, AV.unA, AV.ad, Zi, Zj, Zk, Zl, Zm, Zn, Zo, Zp, Zq, Zr, Zs, Zt, Zu, Zv, Zw, Zx, Zy, Zz, Zaa, Zab, Zac, Zad, Zae, Zaf, Zag, Zah, Zai, Zaj, Zak, Zal, Zam, Zan, wk1, wk, Zao, Zap, Zaq, Zar, Zas, Zat, Zau, Zav, AV.kill, AO.kill, AV.thaw, AO.thaw, Zaw, Zax, Zay, Zaz, Zba, Zbb, Zbc, Zbd, Zbe, ite_true, ite_false, reduceCtorEq, Nat.reduceAdd, Nat.reduceMul, Nat.reduceLeDiff, Nat.reduceLT, Nat.reduceEqDiff, forall_const]; try trivial)) (by simp only [ZZ, IsnK_some, Za, Zb, Zc, Zd, Ze, Zf, Zg, Zh, rd, AV.un, AV.unA, AV.ad, Zi, Zj, Zk, Zl, Zm, Zn, Zo, Zp, Zq, Zr, Zs, Zt, Zu, Zv, Zw, Zx, Zy, Zz, Zaa, Zab, Zac, Zad, Zae, Zaf, Zag, Zah, Zai, Zaj, Zak, Zal, Zam, Zan, wk1, wk, Zao, Zap, Zaq, Zar, Zas, Zat, Zau, Zav, AV.kill, AO.kill, AV.thaw, AO.thaw, Zaw, Zax, Zay, Zaz, Zba, Zbb, Zbc, Zbd, Zbe, ite_true, ite_false, reduceCtorEq, Nat.reduceAdd, Nat.reduceMul, Nat.reduceLeDiff, Nat.reduceLT, Nat.reduceEqDiff, forall_const]) ⟨0, k + 1, [], by omega, by omega, by omega, by simp, rfl, rfl⟩ ?_
  rintro n fr L ⟨i, k', s, rfl, hi, hk', hs, rfl, rfl⟩
  simp only [ir_chasemake_Stream_body_L0, ZZ, IsnK_some, Za, Zb, Zc, Zd, Ze, Zf, Zg, Zh, rd, AV.un, AV.unA, AV.ad, Zi, Zj, Zk, Zl, Zm, Zn, Zo, Zp, Zq, Zr, Zs, Zt, Zu, Zv, Zw, Zx, Zy, Zz, Zaa, Zab, Zac, Zad, Zae, Zaf, Zag, Zah, Zai, Zaj, Zak, Zal, Zam, Zan, wk1, wk, Zao, Zap, Zaq, Zar, Zas, Zat, Zau, Zav, AV.kill, AO.kill, AV.thaw, AO.thaw, Zaw, Zax, Zay, Zaz, Zba, Zbb, Zbc, Zbd, Zbe, ite_true, ite_false, reduceCtorEq, Nat.reduceAdd, Nat.reduceMul, Nat.reduceLeDiff, Nat.reduceLT, Nat.reduceEqDiff, forall_const]
  refine br ?_ ?_
  · intro h
    have hlt : (i : Int) < m := of_decide_eq_true h
    simp only [ZZ, IsnK_some, Za, Zb, Zc, Zd, Ze, Zf, Zg, Zh, rd, AV.un, AV.unA, AV.ad, Zi, Zj, Zk, Zl, Zm, Zn, Zo, Zp, Zq, Zr, Zs, Zt, Zu, Zv, Zw, Zx, Zy, Zz, Zaa, Zab, Zac, Zad, Zae, Zaf, Zag, Zah, Zai, Zaj, Zak, Zal, Zam, Zan, wk1, wk, Zao, Zap, Zaq, Zar, Zas, Zat, Zau, Zav, AV.kill, AO.kill, AV.thaw, AO.thaw, Zaw, Zax, Zay, Zaz, Zba, Zbb, Zbc, Zbd, Zbe, ite_true, ite_false, reduceCtorEq, Nat.reduceAdd, Nat.reduceMul, Nat.reduceLeDiff, Nat.reduceLT, Nat.reduceEqDiff, forall_const]
    refine useS (one_ok l k' bA (by omega) hl (by decide) (by decide)) rfl rfl rfl (by simp only [ZZ, IsnK_some, Za, Zb, Zc, Zd, Ze, Zf, Zg, Zh, rd, AV.un, AV.unA, AV.ad, Zi, Zj, Zk, Zl, Zm, Zn, Zo, Zp, Zq, Zr, Zs, Zt, Zu, Zv, Zw, Zx, Zy, Zz, Zaa, Zab, Zac, Zad, Zae, Zaf, Zag, Zah, Zai, Zaj, Zak, Zal, Zam, Zan, wk1, wk, Zao, Zap, Zaq, Zar, Zas, Zat, Zau, Zav, AV.kill, AO.kill, AV.thaw, AO.thaw, Zaw, Zax, Zay, Zaz, Zba, Zbb, Zbc, Zbd, Zbe, ite_true, ite_false, reduceCtorEq, Nat.reduceAdd, Nat.reduceMul, Nat.reduceLeDiff, Nat.reduceLT, Nat.reduceEqDiff, forall_const]) ?_
    rintro x cs' ⟨u, rfl, hu, rfl⟩
    have hu := bA_len u hu
    simp only [ZZ, IsnK_some, Za, Zb, Zc, Zd, Ze, Zf, Zg, Zh, rd, AV.un, AV.unA, AV.ad, Zi, Zj, Zk, Zl, Zm, Zn, Zo, Zp, Zq, Zr, Zs, Zt, Zu, Zv, Zw, Zx, Zy, Zz, Zaa, Zab, Zac, Zad, Zae, Zaf, Zag, Zah, Zai, Zaj, Zak, Zal, Zam, Zan, wk1, wk, Zao, Zap, Zaq, Zar, Zas, Zat, Zau, Zav, AV.kill, AO.kill, AV.thaw, AO.thaw, Zaw, Zax, Zay, Zaz, Zba, Zbb, Zbc, Zbd, Zbe, ite_true, ite_false, reduceCtorEq, Nat.reduceAdd, Nat.reduceMul, Nat.reduceLeDiff, Nat.reduceLT, Nat.reduceEqDiff, forall_const]
    refine useS (one_ok l (k' + 1) bB (by omega) hl (by decide) (by decide)) rfl rfl rfl (by simp only [ZZ, IsnK_some, Za, Zb, Zc, Zd, Ze, Zf, Zg, Zh, rd, AV.un, AV.unA, AV.ad, Zi, Zj, Zk, Zl, Zm, Zn, Zo, Zp, Zq, Zr, Zs, Zt, Zu, Zv, Zw, Zx, Zy, Zz, Zaa, Zab, Zac, Zad, Zae, Zaf, Zag, Zah, Zai, Zaj, Zak, Zal, Zam, Zan, wk1, wk, Zao, Zap, Zaq, Zar, Zas, Zat, Zau, Zav, AV.kill, AO.kill, AV.thaw, AO.thaw, Zaw, Zax, Zay, Zaz, Zba, Zbb, Zbc, Zbd, Zbe, ite_true, ite_false, reduceCtorEq, Nat.reduceAdd, Nat.reduceMul, Nat.reduceLeDiff, Nat.reduceLT, Nat.reduceEqDiff, forall_const]) ?_
    rintro x cs' ⟨v, rfl, hv, rfl⟩
    have hv := bB_len v hv
    simp only [ZZ, IsnK_some, Za, Zb, Zc, Zd, Ze, Zf, Zg, Zh, rd, AV.un, AV.unA, AV.ad, Zi, Zj, Zk, Zl, Zm, Zn, Zo, Zp, Zq, Zr, Zs, Zt, Zu, Zv, Zw, Zx, Zy, Zz, Zaa, Zab, Zac, Zad, Zae, Zaf, Zag, Zah, Zai, Zaj, Zak, Zal, Zam, Zan, wk1, wk, Zao, Zap, Zaq, Zar, Zas, Zat, Zau, Zav, AV.kill, AO.kill, AV.thaw, AO.thaw, Zaw, Zax, Zay, Zaz, Zba, Zbb, Zbc, Zbd, Zbe, ite_true, ite_false, reduceCtorEq, Nat.reduceAdd, Nat.reduceMul, Nat.reduceLeDiff, Nat.reduceLT, Nat.reduceEqDiff, forall_const]
    refine ⟨by simp; omega, by simp; omega, by simp; omega, ?_⟩
    refine useS (Flip_ok l (k' + 1 + 1) 5 (by omega) hl (by decide)) rfl rfl rfl (by simp only [ZZ, IsnK_some, Za, Zb, Zc, Zd, Ze, Zf, Zg, Zh, rd, AV.un, AV.unA, AV.ad, Zi, Zj, Zk, Zl, Zm, Zn, Zo, Zp, Zq, Zr, Zs, Zt, Zu, Zv, Zw, Zx, Zy, Zz, Zaa, Zab, Zac, Zad, Zae, Zaf, Zag, Zah, Zai, Zaj, Zak, Zal, Zam, Zan, wk1, wk, Zao, Zap, Zaq, Zar, Zas, Zat, Zau, Zav, AV.kill, AO.kill, AV.thaw, AO.thaw, Zaw, Zax, Zay, Zaz, Zba, Zbb, Zbc, Zbd, Zbe, ite_true, ite_false, reduceCtorEq, Nat.reduceAdd, Nat.reduceMul, Nat.reduceLeDiff, Nat.reduceLT, Nat.reduceEqDiff, forall_const]) ?_
    rintro x cs' ⟨b, rfl, rfl⟩
    simp only [ZZ, IsnK_some, Za, Zb, Zc, Zd, Ze, Zf, Zg, Zh, rd, AV.un, AV.unA, AV.ad, Zi, Zj, Zk, Zl, Zm, Zn, Zo, Zp, Zq, Zr, Zs, Zt, Zu, Zv, Zw, Zx, Zy, Zz, Zaa, Zab, Zac, Zad, Zae, Zaf, Zag, Zah, Zai, Zaj, Zak, Zal, Zam, Zan, wk1, wk, Zao, Zap, Zaq, Zar, Zas, Zat, Zau, Zav, AV.kill, AO.kill, AV.thaw, AO.thaw, Zaw, Zax, Zay, Zaz, Zba, Zbb, Zbc, Zbd, Zbe, ite_true, ite_false, reduceCtorEq, Nat.reduceAdd, Nat.reduceMul, Nat.reduceLeDiff, Nat.reduceLT, Nat.reduceEqDiff, forall_const]
    refine br ?_ ?_
    · intro _
      simp only [ZZ, IsnK_some, Za, Zb, Zc, Zd, Ze, Zf, Zg, Zh, rd, AV.un, AV.unA, AV.ad, Zi, Zj, Zk, Zl, Zm, Zn, Zo, Zp, Zq, Zr, Zs, Zt, Zu, Zv, Zw, Zx, Zy, Zz, Zaa, Zab, Zac, Zad, Zae, Zaf, Zag, Zah, Zai, Zaj, Zak, Zal, Zam, Zan, wk1, wk, Zao, Zap, Zaq, Zar, Zas, Zat, Zau, Zav, AV.kill, AO.kill, AV.thaw, AO.thaw, Zaw, Zax, Zay, Zaz, Zba, Zbb, Zbc, Zbd, Zbe, ite_true, ite_false, reduceCtorEq, Nat.reduceAdd, Nat.reduceMul, Nat.reduceLeDiff, Nat.reduceLT, Nat.reduceEqDiff, forall_const]
      refine useS (one_ok l (k' + 1 + 1 + 1) bC (by omega) hl (by decide) (by decide)) rfl rfl rfl (by simp only [ZZ, IsnK_some, Za, Zb, Zc, Zd, Ze, Zf, Zg, Zh, rd, AV.un, AV.unA, AV.ad, Zi, Zj, Zk, Zl, Zm, Zn, Zo, Zp, Zq, Zr, Zs, Zt, Zu, Zv, Zw, Zx, Zy, Zz, Zaa, Zab, Zac, Zad, Zae, Zaf, Zag, Zah, Zai, Zaj, Zak, Zal, Zam, Zan, wk1, wk, Zao, Zap, Zaq, Zar, Zas, Zat, Zau, Zav, AV.kill, AO.kill, AV.thaw, AO.thaw, Zaw, Zax, Zay, Zaz, Zba, Zbb, Zbc, Zbd, Zbe, ite_true, ite_false, reduceCtorEq, Nat.reduceAdd, Nat.reduceMul, Nat.reduceLeDiff, Nat.reduceLT, Nat.reduceEqDiff, forall_const]) ?_
      rintro x cs' ⟨u2, rfl, hu2, rfl⟩
      have hu2 := bC_len u2 hu2
      simp only [ZZ, IsnK_some, Za, Zb, Zc, Zd, Ze, Zf, Zg, Zh, rd, AV.un, AV.unA, AV.ad, Zi, Zj, Zk, Zl, Zm, Zn, Zo, Zp, Zq, Zr, Zs, Zt, Zu, Zv, Zw, Zx, Zy, Zz, Zaa, Zab, Zac, Zad, Zae, Zaf, Zag, Zah, Zai, Zaj, Zak, Zal, Zam, Zan, wk1, wk, Zao, Zap, Zaq, Zar, Zas, Zat, Zau, Zav, AV.kill, AO.kill, AV.thaw, AO.thaw, Zaw, Zax, Zay, Zaz, Zba, Zbb, Zbc, Zbd, Zbe, ite_true, ite_false, reduceCtorEq, Nat.reduceAdd, Nat.reduceMul, Nat.reduceLeDiff, Nat.reduceLT, Nat.reduceEqDiff, forall_const]
      refine useS (one_ok l (k' + 1 + 1 + 1 + 1) bD (by omega) hl (by decide) (by decide)) rfl rfl rfl (by simp only [ZZ, IsnK_some, Za, Zb, Zc, Zd, Ze, Zf, Zg, Zh, rd, AV.un, AV.unA, AV.ad, Zi, Zj, Zk, Zl, Zm, Zn, Zo, Zp, Zq, Zr, Zs, Zt, Zu, Zv, Zw, Zx, Zy, Zz, Zaa, Zab, Zac, Zad, Zae, Zaf, Zag, Zah, Zai, Zaj, Zak, Zal, Zam, Zan, wk1, wk, Zao, Zap, Zaq, Zar, Zas, Zat, Zau, Zav, AV.kill, AO.kill, AV.thaw, AO.thaw, Zaw, Zax, Zay, Zaz, Zba, Zbb, Zbc, Zbd, Zbe, ite_true, ite_false, reduceCtorEq, Nat.reduceAdd, Nat.reduceMul, Nat.reduceLeDiff, Nat.reduceLT, Nat.reduceEqDiff, forall_const]) ?_
      rintro x cs' ⟨v2, rfl, hv2, rfl⟩
      have hv2 := bD_len v2 hv2
      simp only [ZZ, IsnK_some, Za, Zb, Zc, Zd, Ze, Zf, Zg, Zh, rd, AV.un, AV.unA, AV.ad, Zi, Zj, Zk, Zl, Zm, Zn, Zo, Zp, Zq, Zr, Zs, Zt, Zu, Zv, Zw, Zx, Zy, Zz, Zaa, Zab, Zac, Zad, Zae, Zaf, Zag, Zah, Zai, Zaj, Zak, Zal, Zam, Zan, wk1, wk, Zao, Zap, Zaq, Zar, Zas, Zat, Zau, Zav, AV.kill, AO.kill, AV.thaw, AO.thaw, Zaw, Zax, Zay, Zaz, Zba, Zbb, Zbc, Zbd, Zbe, ite_true, ite_false, reduceCtorEq, Nat.reduceAdd, Nat.reduceMul, Nat.reduceLeDiff, Nat.reduceLT, Nat.reduceEqDiff, forall_const]
      refine ⟨by simp; omega, by simp; omega, by simp; omega, ?_⟩
      refine cut_same (by simp only [ZZ, IsnK_some, Za, Zb, Zc, Zd, Ze, Zf, Zg, Zh, rd, AV.un, AV.unA, AV.ad, Zi, Zj, Zk, Zl, Zm, Zn, Zo, Zp, Zq, Zr, Zs, Zt, Zu, Zv, Zw, Zx, Zy, Zz, Zaa, Zab, Zac, Zad, Zae, Zaf, Zag, Zah, Zai, Zaj, Zak, Zal, Zam, Zan, wk1, wk, Zao, Zap, Zaq, Zar, Zas, Zat, Zau, Zav, AV.kill, AO.kill, AV.thaw, AO.thaw, Zaw, Zax, Zay, Zaz, Zba, Zbb, Zbc, Zbd, Zbe, ite_true, ite_false, reduceCtorEq, Nat.reduceAdd, Nat.reduceMul, Nat.reduceLeDiff, Nat.reduceLT, Nat.reduceEqDiff, forall_const]) ?_
      simp only [ZZ, IsnK_some, Za, Zb, Zc, Zd, Ze, Zf, Zg, Zh, rd, AV.un, AV.unA, AV.ad, Zi, Zj, Zk, Zl, Zm, Zn, Zo, Zp, Zq, Zr, Zs, Zt, Zu, Zv, Zw, Zx, Zy, Zz, Zaa, Zab, Zac, Zad, Zae, Zaf, Zag, Zah, Zai, Zaj, Zak, Zal, Zam, Zan, wk1, wk, Zao, Zap, Zaq, Zar, Zas, Zat, Zau, Zav, AV.kill, AO.kill, AV.thaw, AO.thaw, Zaw, Zax, Zay, Zaz, Zba, Zbb, Zbc, Zbd, Zbe, ite_true, ite_false, reduceCtorEq, Nat.reduceAdd, Nat.reduceMul, Nat.reduceLeDiff, Nat.reduceLT, Nat.reduceEqDiff, forall_const]
      refine ⟨i64_of (by omega) (by omega), end_round (7 - (i + 1)) [.adr (.b 0) 0, .any, .any, .p (.str (s ++ (u ++ v ++ [10]) ++ (u2 ++ v2 ++ [10]))), .any, .p (int m), .p (int ((i + 1 : Nat))), .any, .any, .any, .any, .any, .any, .any, .any, .any, .any, .any, .any, .any, .any, .any, .any, .any, .any, .any, .any, .any, .any, .any, .any, .any] [(.b 0, .box ((stm l (k' + 1 + 1 + 1 + 1 + 1)).map .p) T)] (by omega) (by (simp only [ZZ, IsnK_some, Za, Zb, Zc, Zd, Ze, Zf, Zg, Zh, rd, AV.un, AV.unA, AV.ad, Zi, Zj, Zk, Zl, Zm, Zn, Zo, Zp, Zq, Zr, Zs, Zt, Zu, Zv, Zw, Zx, Zy, Zz, Zaa, Zab, Zac, Zad, Zae, Zaf, Zag, Zah, Zai, Zaj, Zak, Zal, Zam, Zan, wk1, wk, Zao, Zap, Zaq, Zar, Zas, Zat, Zau, Zav, AV.kill, AO.kill, AV.thaw, AO.thaw, Zaw, Zax, Zay, Zaz, Zba, Zbb, Zbc, Zbd, Zbe, ite_true, ite_false, reduceCtorEq, Nat.reduceAdd, Nat.reduceMul, Nat.reduceLeDiff, Nat.reduceLT, Nat.reduceEqDiff, forall_const]; try trivial)) (by simp only [ZZ, IsnK_some, Za, Zb, Zc, Zd, Ze, Zf, Zg, Zh, rd, AV.un, AV.unA, AV.ad, Zi, Zj, Zk, Zl, Zm, Zn, Zo, Zp, Zq, Zr, Zs, Zt, Zu, Zv, Zw, Zx, Zy, Zz, Zaa, Zab, Zac, Zad, Zae, Zaf, Zag, Zah, Zai, Zaj, Zak, Zal, Zam, Zan, wk1, wk, Zao, Zap, Zaq, Zar, Zas, Zat, Zau, Zav, AV.kill, AO.kill, AV.thaw, AO.thaw, Zaw, Zax, Zay, Zaz, Zba, Zbb, Zbc, Zbd, Zbe, ite_true, ite_false, reduceCtorEq, Nat.reduceAdd, Nat.reduceMul, Nat.reduceLeDiff, Nat.reduceLT, Nat.reduceEqDiff, forall_const]) ⟨i + 1, k' + 1 + 1 + 1 + 1 + 1, _, rfl, by omega, by omega, by simp; omega, rfl, rfl⟩⟩
    · intro _
      simp only [ZZ, IsnK_some, Za, Zb, Zc, Zd, Ze, Zf, Zg, Zh, rd, AV.un, AV.unA, AV.ad, Zi, Zj, Zk, Zl, Zm, Zn, Zo, Zp, Zq, Zr, Zs, Zt, Zu, Zv, Zw, Zx, Zy, Zz, Zaa, Zab, Zac, Zad, Zae, Zaf, Zag, Zah, Zai, Zaj, Zak, Zal, Zam, Zan, wk1, wk, Zao, Zap, Zaq, Zar, Zas, Zat, Zau, Zav, AV.kill, AO.kill, AV.thaw, AO.thaw, Zaw, Zax, Zay, Zaz, Zba, Zbb, Zbc, Zbd, Zbe, ite_true, ite_false, reduceCtorEq, Nat.reduceAdd, Nat.reduceMul, Nat.reduceLeDiff, Nat.reduceLT, Nat.reduceEqDiff, forall_const]
      refine cut_same (by simp only [ZZ, IsnK_some, Za, Zb, Zc, Zd, Ze, Zf, Zg, Zh, rd, AV.un, AV.unA, AV.ad, Zi, Zj, Zk, Zl, Zm, Zn, Zo, Zp, Zq, Zr, Zs, Zt, Zu, Zv, Zw, Zx, Zy, Zz, Zaa, Zab, Zac, Zad, Zae, Zaf, Zag, Zah, Zai, Zaj, Zak, Zal, Zam, Zan, wk1, wk, Zao, Zap, Zaq, Zar, Zas, Zat, Zau, Zav, AV.kill, AO.kill, AV.thaw, AO.thaw, Zaw, Zax, Zay, Zaz, Zba, Zbb, Zbc, Zbd, Zbe, ite_true, ite_false, reduceCtorEq, Nat.reduceAdd, Nat.reduceMul, Nat.reduceLeDiff, Nat.reduceLT, Nat.reduceEqDiff, forall_const]) ?_
      simp only [ZZ, IsnK_some, Za, Zb, Zc, Zd, Ze, Zf, Zg, Zh, rd, AV.un, AV.unA, AV.ad, Zi, Zj, Zk, Zl, Zm, Zn, Zo, Zp, Zq, Zr, Zs, Zt, Zu, Zv, Zw, Zx, Zy, Zz, Zaa, Zab, Zac, Zad, Zae, Zaf, Zag, Zah, Zai, Zaj, Zak, Zal, Zam, Zan, wk1, wk, Zao, Zap, Zaq, Zar, Zas, Zat, Zau, Zav, AV.kill, AO.kill, AV.thaw, AO.thaw, Zaw, Zax, Zay, Zaz, Zba, Zbb, Zbc, Zbd, Zbe, ite_true, ite_false, reduceCtorEq, Nat.reduceAdd, Nat.reduceMul, Nat.reduceLeDiff, Nat.reduceLT, Nat.reduceEqDiff, forall_const]
      refine ⟨i64_of (by omega) (by omega), end_round (7 - (i + 1)) [.adr (.b 0) 0, .any, .any, .p (.str (s ++ (u ++ v ++ [10]))), .any, .p (int m), .p (int ((i + 1 : Nat))), .any, .any, .any, .any, .any, .any, .any, .any, .any, .any, .any, .any, .any, .any, .any, .any, .any, .any, .any, .any, .any, .any, .any, .any, .any] [(.b 0, .box ((stm l (k' + 1 + 1 + 1)).map .p) T)] (by omega) (by (simp only [ZZ, IsnK_some, Za, Zb, Zc, Zd, Ze, Zf, Zg, Zh, rd, AV.un, AV.unA, AV.ad, Zi, Zj, Zk, Zl, Zm, Zn, Zo, Zp, Zq, Zr, Zs, Zt, Zu, Zv, Zw, Zx, Zy, Zz, Zaa, Zab, Zac, Zad, Zae, Zaf, Zag, Zah, Zai, Zaj, Zak, Zal, Zam, Zan, wk1, wk, Zao, Zap, Zaq, Zar, Zas, Zat, Zau, Zav, AV.kill, AO.kill, AV.thaw, AO.thaw, Zaw, Zax, Zay, Zaz, Zba, Zbb, Zbc, Zbd, Zbe, ite_true, ite_false, reduceCtorEq, Nat.reduceAdd, Nat.reduceMul, Nat.reduceLeDiff, Nat.reduceLT, Nat.reduceEqDiff, forall_const]; try trivial)) (by simp only [ZZ, IsnK_some, Za, Zb, Zc, Zd, Ze, Zf, Zg, Zh, rd, AV.un, AV.unA, AV.ad, Zi, Zj, Zk, Zl, Zm, Zn, Zo, Zp, Zq, Zr, Zs, Zt, Zu, Zv, Zw, Zx, Zy, Zz, Zaa, Zab, Zac, Zad, Zae, Zaf, Zag, Zah, Zai, Zaj, Zak, Zal, Zam, Zan, wk1, wk, Zao, Zap, Zaq, Zar, Zas, Zat, Zau, Zav, AV.kill, AO.kill, AV.thaw, AO.thaw, Zaw, Zax, Zay, Zaz, Zba, Zbb, Zbc, Zbd, Zbe, ite_true, ite_false, reduceCtorEq, Nat.reduceAdd, Nat.reduceMul, Nat.reduceLeDiff, Nat.reduceLT, Nat.reduceEqDiff, forall_const]) ⟨i + 1, k' + 1 + 1 + 1, _, rfl, by omega, by omega, by simp; omega, rfl, rfl⟩⟩
  · intro h
    simp only [ZZ, IsnK_some, Za, Zb, Zc, Zd, Ze, Zf, Zg, Zh, rd, AV.un, AV.unA, AV.ad, Zi, Zj, Zk, Zl, Zm, Zn, Zo, Zp, Zq, Zr, Zs, Zt, Zu, Zv, Zw, Zx, Zy, Zz, Zaa, Zab, Zac, Zad, Zae, Zaf, Zag, Zah, Zai, Zaj, Zak, Zal, Zam, Zan, wk1, wk, Zao, Zap, Zaq, Zar, Zas, Zat, Zau, Zav, AV.kill, AO.kill, AV.thaw, AO.thaw, Zaw, Zax, Zay, Zaz, Zba, Zbb, Zbc, Zbd, Zbe, ite_true, ite_false, reduceCtorEq, Nat.reduceAdd, Nat.reduceMul, Nat.reduceLeDiff, Nat.reduceLT, Nat.reduceEqDiff, forall_const]
    exact fin_S (stm l k') rfl ⟨s, k', rfl, by omega, rfl, by omega⟩
end
end Go.Proofs.YtndjmidmfmcbkaaDoor

/- Spans: the checks, few, cmp.Or, slices.Equal. -/
namespace Go.Proofs.YtndjmidmfmcbkaaDoor
set_option linter.unusedVariables false
set_option linter.unusedSimpArgs false
set_option linter.defProp false

/- paperchase/privilege.CheckSpans -/
def ir_privilege_CheckSpans_L0 : IC :=
  (.seq (.reg [⟨some 25, .bin .lss (.t 24) (.t 23), none⟩])
    (.seq (.cond (.t 25) .skip (.exit 0))
    (.seq (.block 1 (.seq (.reg [⟨some 26, .mov (.t 24), none⟩,
      ⟨some 27, .ixa 2 (.t 22) (.t 24), none⟩,
      ⟨some 28, .ld 2 true (.t 27), none⟩,
      ⟨some 7, .alc 77 [.int .i64 0, .int .i64 0], none⟩,
      ⟨some 6, .mov (.t 26), none⟩,
      ⟨none, .st 2 (.t 7) (.t 28), none⟩])
    (.seq (.drg [⟨some 29, .fla 0 (.t 7), none⟩,
      ⟨some 30, .ld 1 false (.t 29), none⟩,
      ⟨some 31, .bin .lss (.t 30) (.c (.int .i64 0)), none⟩,
      ⟨some 32, .mov (.t 31), none⟩,
      ⟨some 33, .fla 0 (.t 7), (some (32, false))⟩,
      ⟨some 34, .ld 1 false (.t 33), (some (32, false))⟩,
      ⟨some 35, .fla 1 (.t 7), (some (32, false))⟩,
      ⟨some 36, .ld 1 false (.t 35), (some (32, false))⟩,
      ⟨some 37, .bin .geq (.t 34) (.t 36), (some (32, false))⟩,
      ⟨some 38, .pick (.t 32) (.c (.bool true)) (.t 37), none⟩,
      ⟨some 39, .mov (.t 38), none⟩,
      ⟨some 40, .fla 1 (.t 7), (some (39, false))⟩,
      ⟨some 41, .ld 1 false (.t 40), (some (39, false))⟩,
      ⟨some 42, .mov (.t 1), (some (39, false))⟩,
      ⟨some 43, .bin .gtr (.t 41) (.t 42), (some (39, false))⟩,
      ⟨some 44, .pick (.t 39) (.c (.bool true)) (.t 43), none⟩,
      ⟨some 45, .pcall 0 49 [.t 44, .c (.int .i64 1)], none⟩,
      ⟨some 46, .mov (.t 6), none⟩,
      ⟨some 47, .bin .gtr (.t 46) (.c (.int .i64 0)), none⟩,
      ⟨some 48, .mov (.t 47), none⟩,
      ⟨some 49, .fla 0 (.t 7), (some (48, true))⟩,
      ⟨some 50, .ld 1 false (.t 49), (some (48, true))⟩,
      ⟨some 51, .mov (.t 0), (some (48, true))⟩,
      ⟨some 52, .mov (.t 6), (some (48, true))⟩,
      ⟨some 53, .mx (.t 52) (.c (.int .i64 1)), (some (48, true))⟩,
      ⟨some 54, .bin .sub (.t 53) (.c (.int .i64 1)), (some (48, true))⟩,
      ⟨some 55, .ixa 2 (.t 51) (.t 54), (some (48, true))⟩,
      ⟨some 56, .fla 1 (.t 55), (some (48, true))⟩,
      ⟨some 57, .ld 1 false (.t 56), (some (48, true))⟩,
      ⟨some 58, .bin .leq (.t 50) (.t 57), (some (48, true))⟩,
      ⟨some 59, .pick (.t 48) (.t 58) (.c (.bool false)), none⟩,
      ⟨some 60, .pcall 1 49 [.t 59, .c (.int .i64 7)], none⟩,
      ⟨some 61, .bsl 1 [.t 45, .t 60], none⟩,
      ⟨some 62, .pcall 2 48 [.t 61], none⟩,
      ⟨some 8, .mov (.t 62), none⟩])
    (.seq (.reg [⟨some 63, .mov (.t 8), none⟩,
      ⟨some 64, .bin .neq (.t 63) (.c (.int .i64 0)), none⟩])
    (.cond (.t 64) (.seq (.reg [⟨some 65, .mov (.t 8), none⟩,
      ⟨some 4, .mov (.t 65), none⟩])
    .ret) .skip)))))
    (.reg [⟨some 66, .bin .add (.t 24) (.c (.int .i64 1)), none⟩,
      ⟨some 24, .mov (.t 66), none⟩]))))
def ir_privilege_CheckSpans : IC :=
  (.seq (.reg [⟨some 4, .mov (.c (.int .i64 0)), none⟩])
    (.seq (.seq (.reg [⟨some 9, .mov (.t 1), none⟩,
      ⟨some 10, .call 47 [.t 9, .c (.int .i64 0), .c (.int .i64 200000)], none⟩,
      ⟨some 11, .not (.t 10), none⟩,
      ⟨some 12, .call 49 [.t 11, .c (.int .i64 1)], none⟩,
      ⟨some 13, .mov (.t 0), none⟩,
      ⟨some 14, .len (.t 13), none⟩,
      ⟨some 15, .bin .gtr (.t 14) (.c (.int .i64 1000)), none⟩,
      ⟨some 16, .call 49 [.t 15, .c (.int .i64 2)], none⟩,
      ⟨some 17, .bsl 1 [.t 12, .t 16], none⟩,
      ⟨some 18, .call 48 [.t 17], none⟩,
      ⟨some 5, .mov (.t 18), none⟩])
    (.seq (.reg [⟨some 19, .mov (.t 5), none⟩,
      ⟨some 20, .bin .neq (.t 19) (.c (.int .i64 0)), none⟩])
    (.cond (.t 20) (.seq (.reg [⟨some 21, .mov (.t 5), none⟩,
      ⟨some 4, .mov (.t 21), none⟩])
    .ret) .skip)))
    (.seq (.seq (.reg [⟨some 22, .mov (.t 0), none⟩,
      ⟨some 23, .len (.t 22), none⟩,
      ⟨some 24, .mov (.c (.int .i64 0)), none⟩])
    (.block 0 (.loop ir_privilege_CheckSpans_L0)))
    (.seq (.reg [⟨some 4, .mov (.c (.int .i64 0)), none⟩])
    .ret))))
def rs_privilege_CheckSpans : List IRes := [.t 4]
theorem ck_privilege_CheckSpans : chkF Tryd.prog Tryd.f137 ir_privilege_CheckSpans rs_privilege_CheckSpans 67 = true := by kernel_rfl
def spn (p : Int × Int) : List PV := [int p.1, int p.2]
def sps (l : List (Int × Int)) : PV := .sl 2 (l.map spn)

section
variable {E : Envt}

/-- The error of the span at place k. -/
def badS (size : Int) (p : Int × Int) : Bool := decide (p.1 < 0) || decide (p.2 ≤ p.1) || decide (size < p.2)
def errAt (size : Int) (l : List (Int × Int)) (k : Nat) : Int :=
  if badS size (l.getD k (0, 0)) = true then 1 else if 0 < k ∧ (l.getD k (0, 0)).1 ≤ (l.getD (k - 1) (0, 0)).2 then 7 else 0
def spansF (l : List (Int × Int)) (size : Int) : Int :=
  if size < 0 ∨ 200000 < size then 1 else if 1000 < l.length then 2 else firstE ((List.range l.length).map (errAt size l))
theorem errAt_get (size : Int) (l : List (Int × Int)) {k : Nat} (h : k < l.length) : ((List.range l.length).map (errAt size l))[k]? = some (errAt size l k) := by
  rw [List.getElem?_map, List.getElem?_range h]; rfl

theorem CheckSpans_ok (l : List (Int × Int)) (size : Int) (hl : l.length ≤ 1000000) : PCall Tryd.prog E 137 [sps l, int size] (· = int (spansF l size)) := by
  refine pcallF mixed Tryd.func137 ck_privilege_CheckSpans ?_
  simp only [a0, l0, OS.ao, List.map_cons, List.map_nil, List.length_cons, List.length_nil, List.cons_append, List.nil_append, Nat.reduceSub, Nat.reduceAdd, List.replicate_succ, List.replicate_zero, ir_privilege_CheckSpans, rs_privilege_CheckSpans, ZZ, IsnK_some, Za, Zb, Zc, Zd, Ze, Zf, Zg, Zh, rd, AV.un, AV.unA, AV.ad, Zi, Zj, Zk, Zl, Zm, Zn, Zo, Zp, Zq, Zr, Zs, Zt, Zu, Zv, Zw, Zx, Zy, Zz, Zaa, Zab, Zac, Zad, Zae, Zaf, Zag, Zah, Zai, Zaj, Zak, Zal, Zam, Zan, wk1, wk, Zao, Zap, Zaq, Zar, Zas, Zat, Zau, Zav, AV.kill, AO.kill, AV.thaw, AO.thaw, Zaw, Zax, Zay, Zaz, Zba, Zbb, Zbc, Zbd, Zbe, ite_true, ite_false, reduceCtorEq, Nat.reduceAdd, Nat.reduceMul, Nat.reduceLeDiff, Nat.reduceLT, Nat.reduceEqDiff, forall_const]
  simp only [sps, ZZ, IsnK_some, Za, Zb, Zc, Zd, Ze, Zf, Zg, Zh, rd, AV.un, AV.unA, AV.ad, Zi, Zj, Zk, Zl, Zm, Zn, Zo, Zp, Zq, Zr, Zs, Zt, Zu, Zv, Zw, Zx, Zy, Zz, Zaa, Zab, Zac, Zad, Zae, Zaf, Zag, Zah, Zai, Zaj, Zak, Zal, Zam, Zan, wk1, wk, Zao, Zap, Zaq, Zar, Zas, Zat, Zau, Zav, AV.kill, AO.kill, AV.thaw, AO.thaw, Zaw, Zax, Zay, Zaz, Zba, Zbb, Zbc, Zbd, Zbe, ite_true, ite_false, reduceCtorEq, Nat.reduceAdd, Nat.reduceMul, Nat.reduceLeDiff, Nat.reduceLT, Nat.reduceEqDiff, forall_const]
  generalize hes : l.map spn = es
  have hln : es.length = l.length := by rw [← hes]; simp
  refine use1 (In_ok _ _ _) rfl (.inl rfl) ?_
  simp only [ZZ, IsnK_some, Za, Zb, Zc, Zd, Ze, Zf, Zg, Zh, rd, AV.un, AV.unA, AV.ad, Zi, Zj, Zk, Zl, Zm, Zn, Zo, Zp, Zq, Zr, Zs, Zt, Zu, Zv, Zw, Zx, Zy, Zz, Zaa, Zab, Zac, Zad, Zae, Zaf, Zag, Zah, Zai, Zaj, Zak, Zal, Zam, Zan, wk1, wk, Zao, Zap, Zaq, Zar, Zas, Zat, Zau, Zav, AV.kill, AO.kill, AV.thaw, AO.thaw, Zaw, Zax, Zay, Zaz, Zba, Zbb, Zbc, Zbd, Zbe, ite_true, ite_false, reduceCtorEq, Nat.reduceAdd, Nat.reduceMul, Nat.reduceLeDiff, Nat.reduceLT, Nat.reduceEqDiff, forall_const]
  refine use1 (When_ok _ _) rfl (.inl rfl) ?_
  simp only [ZZ, IsnK_some, Za, Zb, Zc, Zd, Ze, Zf, Zg, Zh, rd, AV.un, AV.unA, AV.ad, Zi, Zj, Zk, Zl, Zm, Zn, Zo, Zp, Zq, Zr, Zs, Zt, Zu, Zv, Zw, Zx, Zy, Zz, Zaa, Zab, Zac, Zad, Zae, Zaf, Zag, Zah, Zai, Zaj, Zak, Zal, Zam, Zan, wk1, wk, Zao, Zap, Zaq, Zar, Zas, Zat, Zau, Zav, AV.kill, AO.kill, AV.thaw, AO.thaw, Zaw, Zax, Zay, Zaz, Zba, Zbb, Zbc, Zbd, Zbe, ite_true, ite_false, reduceCtorEq, Nat.reduceAdd, Nat.reduceMul, Nat.reduceLeDiff, Nat.reduceLT, Nat.reduceEqDiff, forall_const]
  refine use1 (When_ok _ _) rfl (.inl rfl) ?_
  simp only [ZZ, IsnK_some, Za, Zb, Zc, Zd, Ze, Zf, Zg, Zh, rd, AV.un, AV.unA, AV.ad, Zi, Zj, Zk, Zl, Zm, Zn, Zo, Zp, Zq, Zr, Zs, Zt, Zu, Zv, Zw, Zx, Zy, Zz, Zaa, Zab, Zac, Zad, Zae, Zaf, Zag, Zah, Zai, Zaj, Zak, Zal, Zam, Zan, wk1, wk, Zao, Zap, Zaq, Zar, Zas, Zat, Zau, Zav, AV.kill, AO.kill, AV.thaw, AO.thaw, Zaw, Zax, Zay, Zaz, Zba, Zbb, Zbc, Zbd, Zbe, ite_true, ite_false, reduceCtorEq, Nat.reduceAdd, Nat.reduceMul, Nat.reduceLeDiff, Nat.reduceLT, Nat.reduceEqDiff, forall_const]
  refine use1 (First_ok [whenE (!inE size 0 200000) 1, whenE (decide (1000 < (es.length : Int))) 2] (by simp)) rfl (.inl rfl) ?_
  simp only [ZZ, IsnK_some, Za, Zb, Zc, Zd, Ze, Zf, Zg, Zh, rd, AV.un, AV.unA, AV.ad, Zi, Zj, Zk, Zl, Zm, Zn, Zo, Zp, Zq, Zr, Zs, Zt, Zu, Zv, Zw, Zx, Zy, Zz, Zaa, Zab, Zac, Zad, Zae, Zaf, Zag, Zah, Zai, Zaj, Zak, Zal, Zam, Zan, wk1, wk, Zao, Zap, Zaq, Zar, Zas, Zat, Zau, Zav, AV.kill, AO.kill, AV.thaw, AO.thaw, Zaw, Zax, Zay, Zaz, Zba, Zbb, Zbc, Zbd, Zbe, ite_true, ite_false, reduceCtorEq, Nat.reduceAdd, Nat.reduceMul, Nat.reduceLeDiff, Nat.reduceLT, Nat.reduceEqDiff, forall_const]
  have h0 : firstE [whenE (!inE size 0 200000) 1, whenE (decide (1000 < (es.length : Int))) 2] = if size < 0 ∨ 200000 < size then 1 else if 1000 < l.length then 2 else 0 := by
    by_cases a1 : size < 0 ∨ 200000 < size
    · have : inE size 0 200000 = false := by simp [inE]; omega
      simp [firstE, whenE, this, a1]
    · have : inE size 0 200000 = true := by simp [inE]; omega
      by_cases a2 : 1000 < l.length
      · have a3 : (1000 : Int) < es.length := by omega
        simp [firstE, whenE, this, a1, a2, a3]
      · have a3 : ¬ (1000 : Int) < es.length := by omega
        simp [firstE, whenE, this, a1, a2, a3]
  rw [h0]
  refine br ?_ ?_
  · intro h
    simp only [ZZ, IsnK_some, Za, Zb, Zc, Zd, Ze, Zf, Zg, Zh, rd, AV.un, AV.unA, AV.ad, Zi, Zj, Zk, Zl, Zm, Zn, Zo, Zp, Zq, Zr, Zs, Zt, Zu, Zv, Zw, Zx, Zy, Zz, Zaa, Zab, Zac, Zad, Zae, Zaf, Zag, Zah, Zai, Zaj, Zak, Zal, Zam, Zan, wk1, wk, Zao, Zap, Zaq, Zar, Zas, Zat, Zau, Zav, AV.kill, AO.kill, AV.thaw, AO.thaw, Zaw, Zax, Zay, Zaz, Zba, Zbb, Zbc, Zbd, Zbe, ite_true, ite_false, reduceCtorEq, Nat.reduceAdd, Nat.reduceMul, Nat.reduceLeDiff, Nat.reduceLT, Nat.reduceEqDiff, forall_const]
    have h : ¬ (if size < 0 ∨ 200000 < size then (1 : Int) else if 1000 < l.length then 2 else 0) = 0 := by simpa using h
    unfold spansF
    split at h
    · simp [*]
    · split at h
      · simp [*]
      · exact absurd rfl h
  intro h
  have h : (if size < 0 ∨ 200000 < size then (1 : Int) else if 1000 < l.length then 2 else 0) = 0 := by simpa using h
  have hsz : ¬ (size < 0 ∨ 200000 < size) := by intro h'; rw [if_pos h'] at h; cases h
  have hle : ¬ 1000 < l.length := by intro h'; rw [if_neg hsz, if_pos h'] at h; cases h
  simp only [ZZ, IsnK_some, Za, Zb, Zc, Zd, Ze, Zf, Zg, Zh, rd, AV.un, AV.unA, AV.ad, Zi, Zj, Zk, Zl, Zm, Zn, Zo, Zp, Zq, Zr, Zs, Zt, Zu, Zv, Zw, Zx, Zy, Zz, Zaa, Zab, Zac, Zad, Zae, Zaf, Zag, Zah, Zai, Zaj, Zak, Zal, Zam, Zan, wk1, wk, Zao, Zap, Zaq, Zar, Zas, Zat, Zau, Zav, AV.kill, AO.kill, AV.thaw, AO.thaw, Zaw, Zax, Zay, Zaz, Zba, Zbb, Zbc, Zbd, Zbe, ite_true, ite_false, reduceCtorEq, Nat.reduceAdd, Nat.reduceMul, Nat.reduceLeDiff, Nat.reduceLT, Nat.reduceEqDiff, forall_const]
  have hF : spansF l size = firstE ((List.range l.length).map (errAt size l)) := by simp [spansF, hsz, hle]
  rw [hF]
  have hget := fun {k : Nat} (h : k < l.length) => firstE_drop _ k _ (errAt_get size l h)
  generalize hG : (List.range l.length).map (errAt size l) = G at *
  have hGl : G.length = l.length := by rw [← hG]; simp
  refine loop_intro (fun n fr L => ∃ k : Nat, k ≤ l.length ∧ n = l.length - k ∧ firstE G = firstE (G.drop k) ∧ fr = [.p (.sl 2 es), .p (int size), .any, .any, .any, .any, .any, .any, .any, .any, .any, .any, .any, .any, .any, .any, .any, .any, .any, .any, .any, .any, .p (.sl 2 es), .p (int (es.length : Nat)), .p (int (k : Nat)), .any, .any, .any, .any, .any, .any, .any, .any, .any, .any, .any, .any, .any, .any, .any, .any, .any, .any, .any, .any, .any, .any, .any, .any, .any, .any, .any, .any, .any, .any, .any, .any, .any, .any, .any, .any, .any, .any, .any, .any, .any, .any] ∧ L = []) l.length [.p (.sl 2 es), .p (int size), .any, .any, .any, .any, .any, .any, .any, .any, .any, .any, .any, .any, .any, .any, .any, .any, .any, .any, .any, .any, .p (.sl 2 es), .p (int (es.length : Nat)), .p (int (0 : Nat)), .any, .any, .any, .any, .any, .any, .any, .any, .any, .any, .any, .any, .any, .any, .any, .any, .any, .any, .any, .any, .any, .any, .any, .any, .any, .any, .any, .any, .any, .any, .any, .any, .any, .any, .any, .any, .any, .any, .any, .any, .any, .any] [] (by (simp only [ZZ, IsnK_some, Za, Zb, Zc, Zd, Ze, Zf, Zg, Zh, rd, AV.un, AV.unA, AV.ad, Zi, Zj, Zk, Zl, Zm, Zn, Zo, Zp, Zq, Zr, Zs, Zt, Zu, Zv, Zw, Zx, Zy, Zz, Zaa, Zab, Zac, Zad, Zae, Zaf, Zag, Zah, Zai, Zaj, Zak, Zal, Zam, Zan, wk1, wk, Zao, Zap, Zaq, Zar, Zas, Zat, Zau, Zav, AV.kill, AO.kill, AV.thaw, AO.thaw, Zaw, Zax, Zay, Zaz, Zba, Zbb, Zbc, Zbd, Zbe, ite_true, ite_false, reduceCtorEq, Nat.reduceAdd, Nat.reduceMul, Nat.reduceLeDiff, Nat.reduceLT, Nat.reduceEqDiff, forall_const]; try trivial)) (by simp only [ZZ, IsnK_some, Za, Zb, Zc, Zd, Ze, Zf, Zg, Zh, rd, AV.un, AV.unA, AV.ad, Zi, Zj, Zk, Zl, Zm, Zn, Zo, Zp, Zq, Zr, Zs, Zt, Zu, Zv, Zw, Zx, Zy, Zz, Zaa, Zab, Zac, Zad, Zae, Zaf, Zag, Zah, Zai, Zaj, Zak, Zal, Zam, Zan, wk1, wk, Zao, Zap, Zaq, Zar, Zas, Zat, Zau, Zav, AV.kill, AO.kill, AV.thaw, AO.thaw, Zaw, Zax, Zay, Zaz, Zba, Zbb, Zbc, Zbd, Zbe, ite_true, ite_false, reduceCtorEq, Nat.reduceAdd, Nat.reduceMul, Nat.reduceLeDiff, Nat.reduceLT, Nat.reduceEqDiff, forall_const]) ⟨0, by omega, by omega, rfl, rfl, rfl⟩ ?_
  rintro n fr L ⟨k, hk, rfl, hf, rfl, rfl⟩
  simp only [ir_privilege_CheckSpans_L0, ZZ, IsnK_some, Za, Zb, Zc, Zd, Ze, Zf, Zg, Zh, rd, AV.un, AV.unA, AV.ad, Zi, Zj, Zk, Zl, Zm, Zn, Zo, Zp, Zq, Zr, Zs, Zt, Zu, Zv, Zw, Zx, Zy, Zz, Zaa, Zab, Zac, Zad, Zae, Zaf, Zag, Zah, Zai, Zaj, Zak, Zal, Zam, Zan, wk1, wk, Zao, Zap, Zaq, Zar, Zas, Zat, Zau, Zav, AV.kill, AO.kill, AV.thaw, AO.thaw, Zaw, Zax, Zay, Zaz, Zba, Zbb, Zbc, Zbd, Zbe, ite_true, ite_false, reduceCtorEq, Nat.reduceAdd, Nat.reduceMul, Nat.reduceLeDiff, Nat.reduceLT, Nat.reduceEqDiff, forall_const]
  refine br ?_ ?_
  · intro h
    have hlt : k < l.length := by have := of_decide_eq_true h; omega
    obtain ⟨x, hx⟩ : ∃ x, l[k]? = some x := ⟨_, List.getElem?_eq_getElem hlt⟩
    have hg : es.getD k [] = spn x := by rw [← hes]; exact getD_map hx
    have hd := hget hlt
    have hxd : l.getD k (0, 0) = x := by simp [List.getD, hx]
    obtain ⟨y, hy⟩ : ∃ y, l[k - 1]? = some y := ⟨_, List.getElem?_eq_getElem (by omega)⟩
    have hg2 : es.getD (k - 1) [] = spn y := by rw [← hes]; exact getD_map hy
    have hyd : l.getD (k - 1) (0, 0) = y := by simp [List.getD, hy]
    have hn1 : (max (k : Int) 1 - 1).toNat = k - 1 := by omega
    have he : errAt size l k = if (decide (x.1 < 0) || decide (x.2 ≤ x.1) || decide (size < x.2)) = true then 1 else if 0 < k ∧ x.1 ≤ y.2 then 7 else 0 := by simp only [errAt, badS, hxd, hyd]
    have he2 : firstE [whenE (decide (x.1 < 0) || decide (x.2 ≤ x.1) || decide (size < x.2)) 1, whenE (decide (0 < (k : Int)) && decide (x.1 ≤ y.2)) 7] = errAt size l k := by
      rw [he]
      generalize (decide (x.1 < 0) || decide (x.2 ≤ x.1) || decide (size < x.2)) = b
      cases b with
      | true => simp [firstE, whenE]
      | false =>
        by_cases hq : 0 < k ∧ x.1 ≤ y.2
        · simp [firstE, whenE, hq]
        · simp [firstE, whenE, hq]
    simp only [ZZ, IsnK_some, Za, Zb, Zc, Zd, Ze, Zf, Zg, Zh, rd, AV.un, AV.unA, AV.ad, Zi, Zj, Zk, Zl, Zm, Zn, Zo, Zp, Zq, Zr, Zs, Zt, Zu, Zv, Zw, Zx, Zy, Zz, Zaa, Zab, Zac, Zad, Zae, Zaf, Zag, Zah, Zai, Zaj, Zak, Zal, Zam, Zan, wk1, wk, Zao, Zap, Zaq, Zar, Zas, Zat, Zau, Zav, AV.kill, AO.kill, AV.thaw, AO.thaw, Zaw, Zax, Zay, Zaz, Zba, Zbb, Zbc, Zbd, Zbe, ite_true, ite_false, reduceCtorEq, Nat.reduceAdd, Nat.reduceMul, Nat.reduceLeDiff, Nat.reduceLT, Nat.reduceEqDiff, forall_const, hg, spn]
    ((repeat' (with_reducible apply And.intro)) <;> try ((first | first | assumption | trivial | exact (fun hq => by rw [hq]; rfl) | exact i64_of (by omega) (by omega) | omega | (simp; done) | (simp; omega) | (intro hsc; have hs0 := hsc; (try have hsd := of_decide_eq_true hsc); (try simp only [Bool.not_eq_true', Bool.or_eq_false_iff, Bool.and_eq_true, Bool.or_eq_true, decide_eq_true_eq, decide_eq_false_iff_not] at hsc); (repeat' (with_reducible apply And.intro)) <;> (first | assumption | trivial | exact (fun hq => by rw [hq]; rfl) | exact i64_of (by omega) (by omega) | omega | (simp; done) | (simp; omega) | (intro hse; simp [hse, hs0]; done) | (intro hse; simp only [hse, hs0, Bool.true_and, Bool.and_true, Bool.not_false, Bool.not_true, Bool.and_self]; done))))))
    refine drg3 (x1 := int (whenE (decide (x.1 < 0) || decide (x.2 ≤ x.1) || decide (size < x.2)) 1)) (x2 := int (whenE (decide (0 < (k : Int)) && decide (x.1 ≤ y.2)) 7)) (x3 := int (errAt size l k)) ?_
    simp only [ZZ, IsnK_some, Za, Zb, Zc, Zd, Ze, Zf, Zg, Zh, rd, AV.un, AV.unA, AV.ad, Zi, Zj, Zk, Zl, Zm, Zn, Zo, Zp, Zq, Zr, Zs, Zt, Zu, Zv, Zw, Zx, Zy, Zz, Zaa, Zab, Zac, Zad, Zae, Zaf, Zag, Zah, Zai, Zaj, Zak, Zal, Zam, Zan, wk1, wk, Zao, Zap, Zaq, Zar, Zas, Zat, Zau, Zav, AV.kill, AO.kill, AV.thaw, AO.thaw, Zaw, Zax, Zay, Zaz, Zba, Zbb, Zbc, Zbd, Zbe, ite_true, ite_false, reduceCtorEq, Nat.reduceAdd, Nat.reduceMul, Nat.reduceLeDiff, Nat.reduceLT, Nat.reduceEqDiff, forall_const, hn1, hg2, spn]
    ((repeat' (with_reducible apply And.intro)) <;> try (first | exact usep (When_ok _ _) rfl (.inl rfl) | (rw [← he2]; exact usep (First_ok [_, _] (by simp)) rfl (.inl rfl)) | (first | first | assumption | trivial | exact (fun hq => by rw [hq]; rfl) | exact i64_of (by omega) (by omega) | omega | (simp; done) | (simp; omega) | (intro hsc; have hs0 := hsc; (try have hsd := of_decide_eq_true hsc); (try simp only [Bool.not_eq_true', Bool.or_eq_false_iff, Bool.and_eq_true, Bool.or_eq_true, decide_eq_true_eq, decide_eq_false_iff_not] at hsc); (repeat' (with_reducible apply And.intro)) <;> (first | assumption | trivial | exact (fun hq => by rw [hq]; rfl) | exact i64_of (by omega) (by omega) | omega | (simp; done) | (simp; omega) | (intro hse; simp [hse, hs0]; done) | (intro hse; simp only [hse, hs0, Bool.true_and, Bool.and_true, Bool.not_false, Bool.not_true, Bool.and_self]; done))))))
    refine br ?_ ?_
    · intro h7
      have : ¬ errAt size l k = 0 := by simpa using h7
      simp only [ZZ, IsnK_some, Za, Zb, Zc, Zd, Ze, Zf, Zg, Zh, rd, AV.un, AV.unA, AV.ad, Zi, Zj, Zk, Zl, Zm, Zn, Zo, Zp, Zq, Zr, Zs, Zt, Zu, Zv, Zw, Zx, Zy, Zz, Zaa, Zab, Zac, Zad, Zae, Zaf, Zag, Zah, Zai, Zaj, Zak, Zal, Zam, Zan, wk1, wk, Zao, Zap, Zaq, Zar, Zas, Zat, Zau, Zav, AV.kill, AO.kill, AV.thaw, AO.thaw, Zaw, Zax, Zay, Zaz, Zba, Zbb, Zbc, Zbd, Zbe, ite_true, ite_false, reduceCtorEq, Nat.reduceAdd, Nat.reduceMul, Nat.reduceLeDiff, Nat.reduceLT, Nat.reduceEqDiff, forall_const]
      rw [hf, hd, if_neg this]
    intro h7
    have : errAt size l k = 0 := by simpa using h7
    simp only [ZZ, IsnK_some, Za, Zb, Zc, Zd, Ze, Zf, Zg, Zh, rd, AV.un, AV.unA, AV.ad, Zi, Zj, Zk, Zl, Zm, Zn, Zo, Zp, Zq, Zr, Zs, Zt, Zu, Zv, Zw, Zx, Zy, Zz, Zaa, Zab, Zac, Zad, Zae, Zaf, Zag, Zah, Zai, Zaj, Zak, Zal, Zam, Zan, wk1, wk, Zao, Zap, Zaq, Zar, Zas, Zat, Zau, Zav, AV.kill, AO.kill, AV.thaw, AO.thaw, Zaw, Zax, Zay, Zaz, Zba, Zbb, Zbc, Zbd, Zbe, ite_true, ite_false, reduceCtorEq, Nat.reduceAdd, Nat.reduceMul, Nat.reduceLeDiff, Nat.reduceLT, Nat.reduceEqDiff, forall_const]
    refine ⟨i64_of (by omega) (by omega), ?_⟩
    refine end_round (l.length - (k + 1)) [.p (.sl 2 es), .p (int size), .any, .any, .any, .any, .any, .any, .any, .any, .any, .any, .any, .any, .any, .any, .any, .any, .any, .any, .any, .any, .p (.sl 2 es), .p (int (es.length : Nat)), .p (int ((k + 1 : Nat))), .any, .any, .any, .any, .any, .any, .any, .any, .any, .any, .any, .any, .any, .any, .any, .any, .any, .any, .any, .any, .any, .any, .any, .any, .any, .any, .any, .any, .any, .any, .any, .any, .any, .any, .any, .any, .any, .any, .any, .any, .any, .any] [] (by omega) (by (simp only [ZZ, IsnK_some, Za, Zb, Zc, Zd, Ze, Zf, Zg, Zh, rd, AV.un, AV.unA, AV.ad, Zi, Zj, Zk, Zl, Zm, Zn, Zo, Zp, Zq, Zr, Zs, Zt, Zu, Zv, Zw, Zx, Zy, Zz, Zaa, Zab, Zac, Zad, Zae, Zaf, Zag, Zah, Zai, Zaj, Zak, Zal, Zam, Zan, wk1, wk, Zao, Zap, Zaq, Zar, Zas, Zat, Zau, Zav, AV.kill, AO.kill, AV.thaw, AO.thaw, Zaw, Zax, Zay, Zaz, Zba, Zbb, Zbc, Zbd, Zbe, ite_true, ite_false, reduceCtorEq, Nat.reduceAdd, Nat.reduceMul, Nat.reduceLeDiff, Nat.reduceLT, Nat.reduceEqDiff, forall_const]; try trivial)) (by simp only [ZZ, IsnK_some, Za, Zb, Zc, Zd, Ze, Zf, Zg, Zh, rd, AV.un, AV.unA, AV.ad, Zi, Zj, Zk, Zl, Zm, Zn, Zo, Zp, Zq, Zr, Zs, Zt, Zu, Zv, Zw, Zx, Zy, Zz, Zaa, Zab, Zac, Zad, Zae, Zaf, Zag, Zah, Zai, Zaj, Zak, Zal, Zam, Zan, wk1, wk, Zao, Zap, Zaq, Zar, Zas, Zat, Zau, Zav, AV.kill, AO.kill, AV.thaw, AO.thaw, Zaw, Zax, Zay, Zaz, Zba, Zbb, Zbc, Zbd, Zbe, ite_true, ite_false, reduceCtorEq, Nat.reduceAdd, Nat.reduceMul, Nat.reduceLeDiff, Nat.reduceLT, Nat.reduceEqDiff, forall_const]) ⟨k + 1, by omega, rfl, by rw [hf, hd, if_pos this], rfl, rfl⟩
  · intro h
    have hge : l.length ≤ k := by have := of_decide_eq_false h; omega
    simp only [ZZ, IsnK_some, Za, Zb, Zc, Zd, Ze, Zf, Zg, Zh, rd, AV.un, AV.unA, AV.ad, Zi, Zj, Zk, Zl, Zm, Zn, Zo, Zp, Zq, Zr, Zs, Zt, Zu, Zv, Zw, Zx, Zy, Zz, Zaa, Zab, Zac, Zad, Zae, Zaf, Zag, Zah, Zai, Zaj, Zak, Zal, Zam, Zan, wk1, wk, Zao, Zap, Zaq, Zar, Zas, Zat, Zau, Zav, AV.kill, AO.kill, AV.thaw, AO.thaw, Zaw, Zax, Zay, Zaz, Zba, Zbb, Zbc, Zbd, Zbe, ite_true, ite_false, reduceCtorEq, Nat.reduceAdd, Nat.reduceMul, Nat.reduceLeDiff, Nat.reduceLT, Nat.reduceEqDiff, forall_const]
    rw [hf, List.drop_eq_nil_of_le (by omega)]
    rfl

end
end Go.Proofs.YtndjmidmfmcbkaaDoor

/- Spans: Without. -/
namespace Go.Proofs.YtndjmidmfmcbkaaDoor
set_option linter.unusedVariables false
set_option linter.unusedSimpArgs false
set_option linter.defProp false



section
variable {E : Envt}
end
end Go.Proofs.YtndjmidmfmcbkaaDoor

/- Spans: what makes them. -/
namespace Go.Proofs.YtndjmidmfmcbkaaDoor
set_option linter.unusedVariables false
set_option linter.unusedSimpArgs false
set_option linter.defProp false



section
variable {E : Envt}
abbrev tSpan : Nat := 77
end
end Go.Proofs.YtndjmidmfmcbkaaDoor

/- Spans: the document's answer to Union and Without. -/
namespace Go.Proofs.YtndjmidmfmcbkaaDoor
set_option linter.unusedVariables false
set_option linter.unusedSimpArgs false
set_option linter.defProp false



def cov (l : List (Int × Int)) (j : Nat) : Bool := l.any fun s => decide (s.1 ≤ j) && decide ((j : Int) < s.2)
def bl (p : List Bool) : List (List PV) := p.map fun b => [.bool b]
theorem cov_take {l : List (Int × Int)} {k : Nat} {x : Int × Int} (h : l[k]? = some x) (j : Nat) : cov (l.take (k + 1)) j = (cov (l.take k) j || (decide (x.1 ≤ j) && decide ((j : Int) < x.2))) := by
  unfold cov
  rw [List.take_add_one, h]
  simp

section
variable {E : Envt}
def onAt (p : List Bool) (i : Nat) : Bool := p.getD i false
theorem firstE_mem {l : List Int} (h : firstE l = 0) : ∀ x ∈ l, x = 0 := by
  induction l with
  | nil => intro x hx; cases hx
  | cons a l ih =>
    intro x hx
    simp only [firstE] at h
    split at h
    · rename_i ha
      rcases List.mem_cons.1 hx with rfl | hx
      · exact ha
      · exact ih h x hx
    · rename_i ha; exact absurd h ha
theorem spansF_at {l : List (Int × Int)} {size : Int} (h : spansF l size = 0) {k : Nat} {x : Int × Int} (hx : l[k]? = some x) : 0 ≤ x.1 ∧ x.1 < x.2 ∧ x.2 ≤ size := by
  unfold spansF at h
  split at h
  · cases h
  · split at h
    · cases h
    · have hk := (List.getElem?_eq_some_iff.1 hx).1
      have := firstE_mem h (errAt size l k) (List.mem_of_getElem? (errAt_get size l hk))
      unfold errAt badS at this
      rw [show l.getD k (0, 0) = x from by simp [List.getD, hx]] at this
      split at this
      · cases this
      · rename_i hb
        simp at hb
        omega

end
end Go.Proofs.YtndjmidmfmcbkaaDoor

/- Spans: a right list is told by what it covers (plain). -/
namespace Go.Proofs.YtndjmidmfmcbkaaDoor
set_option linter.unusedVariables false
set_option linter.unusedSimpArgs false
set_option linter.defProp false

def cv (l : List (Int × Int)) (j : Int) : Prop := ∃ s ∈ l, s.1 ≤ j ∧ j < s.2
structure Right (l : List (Int × Int)) : Prop where
  ok : ∀ s ∈ l, s.1 < s.2
  ord : l.Pairwise (fun s t => s.2 < t.1)
theorem Right.tail {s : Int × Int} {l : List (Int × Int)} (h : Right (s :: l)) : Right l := ⟨fun t ht => h.ok t (by simp [ht]), (List.pairwise_cons.1 h.ord).2⟩
theorem Right.head {s : Int × Int} {l : List (Int × Int)} (h : Right (s :: l)) : s.1 < s.2 ∧ ∀ t ∈ l, s.2 < t.1 := ⟨h.ok s (by simp), (List.pairwise_cons.1 h.ord).1⟩

/-- What spansFrom gives. -/
structure FromInv (p : List Bool) (k : Nat) (out : List (Int × Int)) : Prop where
  right : Right out
  bd : ∀ s ∈ out, s.2 ≤ k
  last : onAt p (k - 1) = true → 0 < k → ∃ (i : List (Int × Int)) (y : Int × Int), out = i ++ [y] ∧ y.2 = (k : Int)
  gap : onAt p (k - 1) = false → 0 < k → ∀ s ∈ out, s.2 < k
  cov : ∀ j, cv out j ↔ ∃ i : Nat, j = i ∧ i < k ∧ onAt p i = true

end Go.Proofs.YtndjmidmfmcbkaaDoor

/- Spans: Without covers what a covers and b does not (plain). -/
namespace Go.Proofs.YtndjmidmfmcbkaaDoor
set_option linter.unusedVariables false
set_option linter.unusedSimpArgs false
set_option linter.defProp false

structure InB (s : Int × Int) (o0 b : List (Int × Int)) (st : Int × List (Int × Int)) : Prop where
  lo : s.1 ≤ st.1
  src : st.1 = s.1 ∨ ∃ x ∈ b, st.1 = x.2
  right : Right st.2
  bd : ∀ t ∈ st.2, t.2 < st.1
  hi : ∀ t ∈ st.2, t ∈ o0 ∨ t.2 ≤ s.2
  fre : ∀ j, st.1 ≤ j → j < s.2 → ¬ cv b j
  cov : ∀ j, cv st.2 j ↔ cv o0 j ∨ (s.1 ≤ j ∧ j < st.1 ∧ j < s.2 ∧ ¬ cv b j)

structure InA (b a out : List (Int × Int)) : Prop where
  right : Right out
  bd : ∀ t ∈ out, ∃ s ∈ a, t.2 ≤ s.2
  cov : ∀ j, cv out j ↔ cv a j ∧ ¬ cv b j
theorem spansF_in {l : List (Int × Int)} {size : Int} (h : spansF l size = 0) : ∀ s ∈ l, 0 ≤ s.1 ∧ s.1 < s.2 ∧ s.2 ≤ size := by
  intro s hs
  obtain ⟨i, hi⟩ := List.getElem?_of_mem hs
  exact spansF_at h hi

end Go.Proofs.YtndjmidmfmcbkaaDoor
