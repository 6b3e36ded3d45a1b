
/- Own texts, put together: B1. -/
import Derived.Test.YtejekkhhpkeckaaGreatDoorZ3
import Derived.Test.YtejekkhhpkeckaaGreatDoorProg
import Derived.KernelRfl
/- Contracts of the smallest functions, and of the maker's stream. -/
namespace Go.Proofs.YtejekkhhpkeckaaGreatDoor
set_option linter.unusedVariables false
set_option linter.unusedSimpArgs false
set_option linter.defProp false

theorem mixed : Tryz.prog.follows .mixedOrders = true := by kernel_rfl
abbrev int (n : Int) : PV := .int .i64 n
def ints (l : List Int) : PV := .sl 1 (l.map fun x => [.int .i64 x])
def strs (l : List (List UInt8)) : PV := .sl 1 (l.map fun x => [.str x])
theorem getD_map {α β : Type} {f : α → β} {l : List α} {k : Nat} {x : α} {d : β} (h : l[k]? = some x) : (l.map f).getD k d = f x := by
  simp [List.getD, h]
theorem i64_of {n : Int} (h1 : -9223372036854775808 ≤ n) (h2 : n ≤ 9223372036854775807) : I64 n := ⟨h1, h2⟩

theorem Zl0 {α : Type} {n : Nat} : ([] : List α).take n = [] := by simp
theorem Zl1 {α : Type} {n : Nat} : ([] : List α).drop n = [] := by simp
theorem Zl2 {α : Type} {l : List α} : l ++ [] = l := by simp
theorem Zl3 {p : Prop} : (True ∧ p) = p := by simp
theorem Zl4 {p : Prop} : (p ∧ True) = p := by simp
theorem Zl5 {α : Type} {h : Decidable True} {a b : α} : (if True then a else b) = a := by simp
theorem Zl6 {α : Type} {h : Decidable False} {a b : α} : (if False then a else b) = b := by simp
theorem Zl7 {b : Bool} : (b && true) = b := by simp
theorem Zl8 {b : Bool} : (true && b) = b := rfl
theorem Zl9 : (!true) = false := rfl
theorem Zl10 : (!false) = true := rfl
theorem Zl11 {α : Type} {a b : α} : (bif true then a else b) = a := rfl
theorem Zl12 {α : Type} {a b : α} : (bif false then a else b) = b := rfl
theorem Zl13 {p : Prop} : (p → p) = True := by simp
theorem Zl14 {p : Prop} : (p ∧ p) = p := by simp
theorem Zl15 {p : Prop} : (True → p) = p := by simp
theorem Zl16 {p : Prop} : (p → True) = True := by simp
theorem Zl17 {n : Nat} : 0 + n = n := by simp
theorem Zl18 {n : Nat} : n + 0 = n := rfl
theorem Zl19 {b c : Bool} : (bif b then c else false) = (b && c) := by simp
theorem Zl20 {b c : Bool} : (bif b then true else c) = (b || c) := by simp
theorem Zl21 {n : Nat} : ((n : Int)).toNat = n := rfl
theorem Zl22 : (false = true) = False := by simp
theorem Zl23 {α : Type} {a b : α} : (a ≠ b) = ¬ (a = b) := by simp
theorem Zl24 : (¬ False) = True := by simp
theorem Zl25 : (¬ True) = False := by simp
theorem Zl26 {a b : Nat} : (Key.l a = Key.l b) = (a = b) := by simp
theorem Zl27 {a b : Nat} : (Key.b a = Key.b b) = (a = b) := by simp
theorem Zl28 {α : Type} {a : α} {l : List α} {d : α} : (a :: l).getD 0 d = a := rfl
theorem Zl29 {α : Type} {a : α} {l : List α} {d : α} {n : Nat} : (a :: l).getD (n + 1) d = l.getD n d := rfl
theorem Zl30 {α : Type} {d : α} {n : Nat} : ([] : List α).getD n d = d := rfl
theorem Zl31 {α : Type} {a : α} {l : List α} : (a :: l)[0]? = some a := rfl
theorem Zl32 {α : Type} {a : α} {l : List α} {n : Nat} : (a :: l)[n + 1]? = l[n]? := rfl
theorem Zl33 {α : Type} {a b : α} {l : List α} : (a :: l).set 0 b = b :: l := rfl
theorem Zl34 {α : Type} {a b : α} {l : List α} {n : Nat} : (a :: l).set (n + 1) b = a :: l.set n b := rfl
theorem Zl35 {α β : Type} {f : α → β} {a : α} {l : List α} : (a :: l).map f = f a :: l.map f := rfl
theorem Zl36 {α β : Type} {f : α → β} : [].map f = [] := rfl
theorem Zl37 {α : Type} {a : α} {l : List α} : (a :: l).length = l.length + 1 := rfl
theorem Zl38 {α : Type} : ([] : List α).length = 0 := rfl
theorem Zl39 {α : Type} {p : α → Bool} {a : α} {l : List α} : (a :: l).all p = (p a && l.all p) := rfl
theorem Zl40 {α : Type} {p : α → Bool} : [].all p = true := rfl
theorem Zl41 {α : Type} {a : α} {l : List α} {n : Nat} : (a :: l).take (n + 1) = a :: l.take n := rfl
theorem Zl42 {α : Type} {l : List α} : l.take 0 = [] := rfl
theorem Zl43 {α : Type} {a : α} {l : List α} {n : Nat} : (a :: l).drop (n + 1) = l.drop n := rfl
theorem Zl44 {α : Type} {l : List α} : l.drop 0 = l := rfl
theorem Zl45 {α β : Type} {f : α → β} {a : α} : (some a).map f = some (f a) := rfl
theorem Zl46 {α β : Type} {f : α → β} : (none : Option α).map f = none := rfl
theorem Zl47 {α : Type} {a : α} {l m : List α} : (a :: l) ++ m = a :: (l ++ m) := rfl
theorem Zl48 {α : Type} {l : List α} : [] ++ l = l := rfl
theorem Zl49 {α : Type} {a : α} {l : List α} : (a :: l).isEmpty = false := rfl
theorem Zl50 {α : Type} : ([] : List α).isEmpty = true := rfl
def ZZ := (And.intro (And.intro (And.intro (And.intro (And.intro (And.intro (And.intro @awp_skip @awp_exit) (And.intro @awp_ret (And.intro @awp_seq @awp_block))) (And.intro (And.intro @awp_reg (And.intro @awp_drg @awp_loop)) (And.intro @awp_cond (And.intro @awp_cut @thenC_n)))) (And.intro (And.intro (And.intro @thenC_r (And.intro @thenC_e @blockQ_n)) (And.intro @blockQ_r (And.intro @blockQ_e @roundQ_n))) (And.intro (And.intro @roundQ_r (And.intro @roundQ_e @midQ_n)) (And.intro @midQ_r (And.intro @midQ_e @retQ_r))))) (And.intro (And.intro (And.intro (And.intro @retQ_n (And.intro @retF_r @retF_n)) (And.intro @RetK_some (And.intro @mkRes1 @mkRes2))) (And.intro (And.intro @mkRes3 (And.intro @BrC_true @BrC_false)) (And.intro @OpsK_some (And.intro @GdK_some @GdK_none)))) (And.intro (And.intro (And.intro @StepK_some (And.intro @ops_nil @o_mov)) (And.intro @o_pick (And.intro @o_bin @o_bnb))) (And.intro (And.intro @o_eqa (And.intro @o_not @o_neg)) (And.intro @o_len (And.intro @o_sln @o_mx)))))) (And.intro (And.intro (And.intro (And.intro (And.intro @o_mn (And.intro @o_idx @o_ssl)) (And.intro @o_vsl (And.intro @o_ixa @o_fla))) (And.intro (And.intro @o_fld (And.intro @o_ld @o_ldl)) (And.intro @o_ext (And.intro @o_bld @o_cvi)))) (And.intro (And.intro (And.intro @o_cvs (And.intro @o_b2s @o_bsl)) (And.intro @o_nck (And.intro @o_mkf @o_cap0))) (And.intro (And.intro @o_vsn (And.intro @o_mpl @o_mpn)) (And.intro @o_bldg (And.intro @o_ldg @o_nilr))))) (And.intro (And.intro (And.intro (And.intro @o_alc (And.intro @o_box @o_st)) (And.intro @o_app (And.intro @o_bsr @o_s2b))) (And.intro (And.intro @o_mks (And.intro @o_apz @o_trn)) (And.intro @o_mkm (And.intro @o_mpu @o_stg)))) (And.intro (And.intro (And.intro @o_alcd (And.intro @o_bsrd @o_rng)) (And.intro @o_ent (And.intro @o_mpd @o_cpy))) (And.intro (And.intro @g_mov (And.intro @g_pick @g_bin)) (And.intro @g_bnb (And.intro @g_eqa @g_not))))))) (And.intro (And.intro (And.intro (And.intro (And.intro (And.intro @g_neg (And.intro @g_len @g_sln)) (And.intro @g_mx (And.intro @g_mn @g_idx))) (And.intro (And.intro @g_ssl (And.intro @g_vsl @g_ixa)) (And.intro @g_fla (And.intro @g_fld @g_ld)))) (And.intro (And.intro (And.intro @g_ldl (And.intro @g_ext @g_bld)) (And.intro @g_cvi (And.intro @g_cvs @g_b2s))) (And.intro (And.intro @g_bsl (And.intro @g_nck @g_mkf)) (And.intro @g_cap0 (And.intro @g_vsn @g_mpl))))) (And.intro (And.intro (And.intro (And.intro @g_mpn (And.intro @g_bldg @g_ldg)) (And.intro @ops_call (And.intro @ops_dcall @ops_pcall))) (And.intro (And.intro @ops_pcallg (And.intro @ops_callg @ops_callv)) (And.intro @ops_callvg (And.intro @FnK_some @ops_fz)))) (And.intro (And.intro (And.intro @ops_hole (And.intro @ops_isn @ops_nxt)) (And.intro @FzK_some (And.intro @FzK_none @Zl13))) (And.intro (And.intro @Zl28 (And.intro @Zl29 @Zl30)) (And.intro @Zl31 (And.intro @Zl32 @Zl33)))))) (And.intro (And.intro (And.intro (And.intro (And.intro @Zl34 (And.intro @Zl35 @Zl36)) (And.intro @Zl37 (And.intro @Zl38 @Zl39))) (And.intro (And.intro @Zl40 (And.intro @Zl41 @Zl42)) (And.intro @Zl43 (And.intro @Zl44 @Zl0)))) (And.intro (And.intro (And.intro @Zl1 (And.intro @Zl45 @Zl46)) (And.intro @Zl3 (And.intro @Zl4 @Zl5))) (And.intro (And.intro @Zl6 (And.intro @Zl7 @Zl8)) (And.intro @Zl9 (And.intro @Zl10 @Zl11))))) (And.intro (And.intro (And.intro (And.intro @Zl12 (And.intro @Zl26 @Zl27)) (And.intro @Zl14 (And.intro @Zl15 @Zl16))) (And.intro (And.intro @Zl17 (And.intro @Zl18 @Zl2)) (And.intro @Zl48 (And.intro @Zl47 @Zl19)))) (And.intro (And.intro (And.intro @Zl20 (And.intro @bool_beq_true @bool_beq_false)) (And.intro @map_kill_p (And.intro @map_thaw_p @Zl21))) (And.intro (And.intro @Zl49 (And.intro @Zl50 @Zl22)) (And.intro @Zl23 (And.intro @Zl24 @Zl25))))))))
def YY := (And.intro (And.intro (And.intro (And.intro (And.intro (And.intro (And.intro @FnG_some (And.intro @IsnK_some @Za.eq_1)) (And.intro (And.intro @Zb.eq_1 @Zb.eq_2) (And.intro @Zb.eq_3 @Zc.eq_1))) (And.intro (And.intro (And.intro @Zc.eq_2 @Zd.eq_1) (And.intro @Zd.eq_2 @Zf.eq_1)) (And.intro (And.intro @Zf.eq_2 @Zf.eq_3) (And.intro @Zf.eq_4 @Zf.eq_5)))) (And.intro (And.intro (And.intro (And.intro @Zf.eq_6 @Zf.eq_7) (And.intro @Zf.eq_8 @Zf.eq_9)) (And.intro (And.intro @Zf.eq_10 @Zf.eq_11) (And.intro @Zf.eq_12 @Zf.eq_13))) (And.intro (And.intro (And.intro @Zf.eq_14 @Zf.eq_15) (And.intro @Zf.eq_16 @Zf.eq_17)) (And.intro (And.intro @Zf.eq_18 @Zf.eq_19) (And.intro @Zf.eq_20 @Zf.eq_21))))) (And.intro (And.intro (And.intro (And.intro (And.intro @Zf.eq_22 @Zf.eq_23) (And.intro @Zf.eq_24 @Zf.eq_25)) (And.intro (And.intro @Zf.eq_26 @Zf.eq_27) (And.intro @Zf.eq_28 @Zf.eq_29))) (And.intro (And.intro (And.intro @Zf.eq_30 @Zf.eq_31) (And.intro @Zf.eq_32 @Zf.eq_33)) (And.intro (And.intro @Zf.eq_34 @Zf.eq_35) (And.intro @Zg.eq_1 @Zg.eq_2)))) (And.intro (And.intro (And.intro (And.intro @Zh.eq_1 @Zi.eq_1) (And.intro @Zi.eq_2 @Zi.eq_3)) (And.intro (And.intro @rd.eq_1 @rd.eq_2) (And.intro @rd.eq_3 @rd.eq_4))) (And.intro (And.intro (And.intro @AV.un.eq_1 @AV.un.eq_2) (And.intro @AV.unA.eq_1 @AV.ad.eq_1)) (And.intro (And.intro @AV.ad.eq_2 @Zj.eq_1) (And.intro @Zk.eq_1 @Zk.eq_2)))))) (And.intro (And.intro (And.intro (And.intro (And.intro (And.intro @Zl.eq_1 @Zl.eq_2) (And.intro @Zl.eq_3 @Zm.eq_1)) (And.intro (And.intro @Zm.eq_2 @Zn.eq_1) (And.intro @Zo.eq_1 @Zo.eq_2))) (And.intro (And.intro (And.intro @Zo.eq_3 @Zo.eq_4) (And.intro @Zo.eq_5 @Zp.eq_1)) (And.intro (And.intro @Zp.eq_2 @Zp.eq_3) (And.intro @Zp.eq_4 @Zp.eq_5)))) (And.intro (And.intro (And.intro (And.intro @Zp.eq_6 @Zp.eq_7) (And.intro @Zp.eq_8 @Zp.eq_9)) (And.intro (And.intro @Zp.eq_10 @Zp.eq_11) (And.intro @Zp.eq_12 @Zp.eq_13))) (And.intro (And.intro (And.intro @Zp.eq_14 @Zq.eq_1) (And.intro @Zq.eq_2 @Zq.eq_3)) (And.intro (And.intro @Zr.eq_1 @Zr.eq_2) (And.intro @Zr.eq_3 @Zr.eq_4))))) (And.intro (And.intro (And.intro (And.intro (And.intro @Zr.eq_5 @Zr.eq_6) (And.intro @Zr.eq_7 @Zr.eq_8)) (And.intro (And.intro @Zs.eq_1 @Zs.eq_2) (And.intro @Zs.eq_3 @Zt.eq_1))) (And.intro (And.intro (And.intro @Zu.eq_1 @Zu.eq_2) (And.intro @Zu.eq_3 @Zu.eq_4)) (And.intro (And.intro @Zu.eq_5 @Zv.eq_1) (And.intro @Zv.eq_2 @Zw.eq_1)))) (And.intro (And.intro (And.intro (And.intro @Zw.eq_2 @Zw.eq_3) (And.intro @Zw.eq_4 @Zx.eq_1)) (And.intro (And.intro @Zx.eq_2 @Zx.eq_3) (And.intro @Zy.eq_1 @Zy.eq_2))) (And.intro (And.intro (And.intro @Zy.eq_3 @Zz.eq_1) (And.intro @Zz.eq_2 @Zaa.eq_1)) (And.intro (And.intro @Zab.eq_1 @Zab.eq_2) (And.intro @Zac.eq_1 @Zac.eq_2))))))) (And.intro (And.intro (And.intro (And.intro (And.intro (And.intro @Zad.eq_1 (And.intro @Zad.eq_2 @Zae.eq_1)) (And.intro (And.intro @Zae.eq_2 @Zaf.eq_1) (And.intro @Zaf.eq_2 @Zag.eq_1))) (And.intro (And.intro (And.intro @Zag.eq_2 @Zag.eq_3) (And.intro @Zag.eq_4 @Zag.eq_5)) (And.intro (And.intro @Zah.eq_1 @Zah.eq_2) (And.intro @Zah.eq_3 @Zai.eq_1)))) (And.intro (And.intro (And.intro (And.intro @Zai.eq_2 @Zaj.eq_1) (And.intro @Zaj.eq_2 @Zaj.eq_3)) (And.intro (And.intro @Zak.eq_1 @Zak.eq_2) (And.intro @Zak.eq_3 @Zal.eq_1))) (And.intro (And.intro (And.intro @Zal.eq_2 @Zal.eq_3) (And.intro @Zal.eq_4 @Zam.eq_1)) (And.intro (And.intro @Zan.eq_1 @Zao.eq_1) (And.intro @Zao.eq_2 @wk1.eq_1))))) (And.intro (And.intro (And.intro (And.intro (And.intro @wk1.eq_2 @wk.eq_1) (And.intro @wk.eq_2 @wk.eq_3)) (And.intro (And.intro @Zap.eq_1 @Zap.eq_2) (And.intro @Zap.eq_3 @Zaq.eq_1))) (And.intro (And.intro (And.intro @Zar.eq_1 @Zas.eq_1) (And.intro @Zas.eq_2 @Zat.eq_1)) (And.intro (And.intro @Zat.eq_2 @Zau.eq_1) (And.intro @Zau.eq_2 @Zav.eq_1)))) (And.intro (And.intro (And.intro (And.intro @Zaw.eq_1 @Zaw.eq_2) (And.intro @AV.kill.eq_1 @AV.kill.eq_2)) (And.intro (And.intro @AV.kill.eq_3 @AV.kill.eq_4) (And.intro @AV.kill.eq_5 @AV.kill.eq_6))) (And.intro (And.intro (And.intro @AV.kill.eq_7 @AV.kill.eq_8) (And.intro @AV.kill.eq_9 @AV.kill.eq_10)) (And.intro (And.intro @AO.kill.eq_1 @AO.kill.eq_2) (And.intro @AO.kill.eq_3 @AO.kill.eq_4)))))) (And.intro (And.intro (And.intro (And.intro (And.intro (And.intro @AO.kill.eq_5 @AO.kill.eq_6) (And.intro @AV.thaw.eq_1 @AV.thaw.eq_2)) (And.intro (And.intro @AV.thaw.eq_3 @AV.thaw.eq_4) (And.intro @AV.thaw.eq_5 @AV.thaw.eq_6))) (And.intro (And.intro (And.intro @AV.thaw.eq_7 @AV.thaw.eq_8) (And.intro @AV.thaw.eq_9 @AV.thaw.eq_10)) (And.intro (And.intro @Zax.eq_1 @Zax.eq_2) (And.intro @AO.thaw.eq_1 @AO.thaw.eq_2)))) (And.intro (And.intro (And.intro (And.intro @AO.thaw.eq_3 @AO.thaw.eq_4) (And.intro @AO.thaw.eq_5 @AO.thaw.eq_6)) (And.intro (And.intro @Zay.eq_1 @Zay.eq_2) (And.intro @Zay.eq_3 @Zay.eq_4))) (And.intro (And.intro (And.intro @Zaz.eq_1 @Zaz.eq_2) (And.intro @Zba.eq_1 @Zba.eq_2)) (And.intro (And.intro @Zbb.eq_1 @Zbb.eq_2) (And.intro @Zbc.eq_1 @Zbc.eq_2))))) (And.intro (And.intro (And.intro (And.intro (And.intro @Zbd.eq_1 @Zbd.eq_2) (And.intro @Zbe.eq_1 @Zbe.eq_2)) (And.intro (And.intro @Zbf.eq_1 @Zbf.eq_2) (And.intro @Zbf.eq_3 @Zbf.eq_4))) (And.intro (And.intro (And.intro @Zbg.eq_1 @Zbg.eq_2) (And.intro @Zbh.eq_1 @Zbh.eq_2)) (And.intro (And.intro @Zbi.eq_1 @Zbi.eq_2) (And.intro @Zbi.eq_3 @Zbi.eq_4)))) (And.intro (And.intro (And.intro (And.intro @Zbi.eq_5 @Zbi.eq_6) (And.intro @Zbj.eq_1 @Zbj.eq_2)) (And.intro (And.intro @Zbj.eq_3 @Zbj.eq_4) (And.intro @Zbj.eq_5 @Zbj.eq_6))) (And.intro (And.intro (And.intro @Zbk.eq_1 @Zbk.eq_2) (And.intro @Zbk.eq_3 @Zbk.eq_4)) (And.intro (And.intro @Zbk.eq_5 @Zbk.eq_6) (And.intro @Zbl.eq_1 @Zbl.eq_2))))))))


/- paperchase/base.In -/
def ir_base_In : IC :=
  (.seq (.reg [⟨some 6, .mov (.c (.bool false)), none⟩])
    (.seq (.reg [⟨some 7, .mov (.t 0), none⟩,
      ⟨some 8, .mov (.t 1), none⟩,
      ⟨some 9, .bin .geq (.t 7) (.t 8), none⟩,
      ⟨some 10, .mov (.t 9), none⟩,
      ⟨some 11, .mov (.t 0), (some (10, true))⟩,
      ⟨some 12, .mov (.t 2), (some (10, true))⟩,
      ⟨some 13, .bin .leq (.t 11) (.t 12), (some (10, true))⟩,
      ⟨some 14, .pick (.t 10) (.t 13) (.c (.bool false)), none⟩,
      ⟨some 6, .mov (.t 14), none⟩])
    .ret))
def rs_base_In : List IRes := [.t 6]
theorem ck_base_In : chkF Tryz.prog Tryz.f71 ir_base_In rs_base_In 15 = true := by kernel_rfl
/- paperchase/base.When -/
def ir_base_When : IC :=
  (.seq (.reg [⟨some 4, .mov (.c (.int .i64 0)), none⟩])
    (.seq (.seq (.reg [⟨some 5, .mov (.t 0), none⟩])
    (.cond (.t 5) (.seq (.reg [⟨some 6, .mov (.t 1), none⟩,
      ⟨some 4, .mov (.t 6), none⟩])
    .ret) .skip))
    (.seq (.reg [⟨some 4, .mov (.c (.int .i64 0)), none⟩])
    .ret)))
def rs_base_When : List IRes := [.t 4]
theorem ck_base_When : chkF Tryz.prog Tryz.f64 ir_base_When rs_base_When 7 = true := by kernel_rfl
/- paperchase/base.First -/
def ir_base_First_L0 : IC :=
  (.seq (.reg [⟨some 8, .bin .lss (.t 7) (.t 6), none⟩])
    (.seq (.cond (.t 8) .skip (.exit 0))
    (.seq (.block 1 (.seq (.reg [⟨some 9, .ixa 1 (.t 5) (.t 7), none⟩,
      ⟨some 10, .ld 1 false (.t 9), none⟩,
      ⟨some 4, .mov (.t 10), none⟩])
    (.seq (.reg [⟨some 11, .mov (.t 4), none⟩,
      ⟨some 12, .bin .neq (.t 11) (.c (.int .i64 0)), none⟩])
    (.cond (.t 12) (.seq (.reg [⟨some 13, .mov (.t 4), none⟩,
      ⟨some 2, .mov (.t 13), none⟩])
    .ret) .skip))))
    (.reg [⟨some 14, .bin .add (.t 7) (.c (.int .i64 1)), none⟩,
      ⟨some 7, .mov (.t 14), none⟩]))))
def ir_base_First : IC :=
  (.seq (.reg [⟨some 2, .mov (.c (.int .i64 0)), none⟩])
    (.seq (.seq (.reg [⟨some 5, .mov (.t 0), none⟩,
      ⟨some 6, .len (.t 5), none⟩,
      ⟨some 7, .mov (.c (.int .i64 0)), none⟩])
    (.block 0 (.loop ir_base_First_L0)))
    (.seq (.reg [⟨some 2, .mov (.c (.int .i64 0)), none⟩])
    .ret)))
def rs_base_First : List IRes := [.t 2]
theorem ck_base_First : chkF Tryz.prog Tryz.f63 ir_base_First rs_base_First 15 = true := by kernel_rfl
/- paperchase/chasemake.Below -/
def ir_chasemake_Below : IC :=
  (.seq (.reg [⟨some 4, .mov (.c (.int .i64 0)), none⟩])
    (.seq (.seq (.reg [⟨some 5, .mov (.t 1), none⟩,
      ⟨some 6, .bin .lss (.t 5) (.c (.int .i64 1)), none⟩])
    (.cond (.t 6) (.seq (.reg [⟨some 4, .mov (.c (.int .i64 0)), none⟩])
    .ret) .skip))
    (.seq (.reg [⟨some 7, .mov (.t 0), none⟩,
      ⟨some 8, .mov (.t 1), none⟩,
      ⟨some 9, .bin .rem (.t 7) (.t 8), none⟩,
      ⟨some 0, .mov (.t 9), none⟩])
    (.seq (.seq (.reg [⟨some 10, .mov (.t 0), none⟩,
      ⟨some 11, .bin .lss (.t 10) (.c (.int .i64 0)), none⟩])
    (.cond (.t 11) (.reg [⟨some 12, .mov (.t 0), none⟩,
      ⟨some 13, .mov (.t 1), none⟩,
      ⟨some 14, .bin .add (.t 12) (.t 13), none⟩,
      ⟨some 0, .mov (.t 14), none⟩]) .skip))
    (.cut (.seq (.reg [⟨some 15, .mov (.t 0), none⟩,
      ⟨some 4, .mov (.t 15), none⟩])
    .ret))))))
def rs_chasemake_Below : List IRes := [.t 4]
theorem ck_chasemake_Below : chkF Tryz.prog Tryz.f17 ir_chasemake_Below rs_chasemake_Below 16 = true := by kernel_rfl
/- (*paperchase/chasemake.Stream).Next -/
def ir_chasemake_Stream_Next : IC :=
  (.seq (.reg [⟨some 4, .mov (.c (.int .i64 0)), none⟩])
    (.seq (.reg [⟨some 7, .mov (.t 0), none⟩,
      ⟨some 8, .nck (.t 7), none⟩,
      ⟨some 9, .fla 1 (.t 8), none⟩,
      ⟨some 10, .ld 1 false (.t 9), none⟩,
      ⟨some 11, .bin .add (.t 10) (.c (.int .i64 1)), none⟩,
      ⟨some 12, .nck (.t 7), none⟩,
      ⟨some 13, .fla 1 (.t 12), none⟩,
      ⟨none, .st 1 (.t 13) (.t 11), none⟩])
    (.seq (.seq (.reg [⟨some 14, .mov (.t 0), none⟩,
      ⟨some 15, .nck (.t 14), none⟩,
      ⟨some 16, .fla 0 (.t 15), none⟩,
      ⟨some 17, .ld 1 false (.t 16), none⟩,
      ⟨some 18, .len (.t 17), none⟩,
      ⟨some 19, .bin .eql (.t 18) (.c (.int .i64 0)), none⟩])
    (.cond (.t 19) (.seq (.reg [⟨some 20, .mov (.t 0), none⟩,
      ⟨some 21, .nck (.t 20), none⟩,
      ⟨some 22, .fla 1 (.t 21), none⟩,
      ⟨some 23, .ld 1 false (.t 22), none⟩,
      ⟨some 24, .bin .mul (.t 23) (.c (.int .i64 7919)), none⟩,
      ⟨some 25, .mov (.t 1), none⟩,
      ⟨some 26, .call 17 [.t 24, .t 25], none⟩,
      ⟨some 4, .mov (.t 26), none⟩])
    .ret) .skip))
    (.seq (.drg [⟨some 27, .mov (.t 0), none⟩,
      ⟨some 28, .nck (.t 27), none⟩,
      ⟨some 29, .fla 1 (.t 28), none⟩,
      ⟨some 30, .ld 1 false (.t 29), none⟩,
      ⟨some 31, .bin .sub (.t 30) (.c (.int .i64 1)), none⟩,
      ⟨some 32, .mov (.t 0), none⟩,
      ⟨some 33, .nck (.t 32), none⟩,
      ⟨some 34, .fla 0 (.t 33), none⟩,
      ⟨some 35, .ld 1 false (.t 34), none⟩,
      ⟨some 36, .len (.t 35), none⟩,
      ⟨some 37, .bin .rem (.t 31) (.t 36), none⟩,
      ⟨some 5, .mov (.t 37), none⟩])
    (.seq (.drg [⟨some 38, .mov (.t 0), none⟩,
      ⟨some 39, .nck (.t 38), none⟩,
      ⟨some 40, .fla 1 (.t 39), none⟩,
      ⟨some 41, .ld 1 false (.t 40), none⟩,
      ⟨some 42, .bin .sub (.t 41) (.c (.int .i64 1)), none⟩,
      ⟨some 43, .mov (.t 0), none⟩,
      ⟨some 44, .nck (.t 43), none⟩,
      ⟨some 45, .fla 0 (.t 44), none⟩,
      ⟨some 46, .ld 1 false (.t 45), none⟩,
      ⟨some 47, .len (.t 46), none⟩,
      ⟨some 48, .bin .quo (.t 42) (.t 47), none⟩,
      ⟨some 6, .mov (.t 48), none⟩])
    (.seq (.reg [⟨some 49, .mov (.t 0), none⟩,
      ⟨some 50, .nck (.t 49), none⟩,
      ⟨some 51, .fla 0 (.t 50), none⟩,
      ⟨some 52, .ld 1 false (.t 51), none⟩,
      ⟨some 53, .mov (.t 5), none⟩,
      ⟨some 54, .ixa 1 (.t 52) (.t 53), none⟩,
      ⟨some 55, .ld 1 false (.t 54), none⟩,
      ⟨some 56, .call 17 [.t 55, .c (.int .i64 1073741824)], none⟩,
      ⟨some 57, .mov (.t 6), none⟩,
      ⟨some 58, .mov (.t 5), none⟩,
      ⟨some 59, .bin .add (.c (.int .i64 7919)) (.t 58), none⟩,
      ⟨some 60, .bin .mul (.t 57) (.t 59), none⟩,
      ⟨some 61, .bin .add (.t 56) (.t 60), none⟩,
      ⟨some 62, .mov (.t 1), none⟩,
      ⟨some 63, .call 17 [.t 61, .t 62], none⟩,
      ⟨some 4, .mov (.t 63), none⟩])
    .ret))))))
def rs_chasemake_Stream_Next : List IRes := [.t 4]
theorem ck_chasemake_Stream_Next : chkF Tryz.prog Tryz.f38 ir_chasemake_Stream_Next rs_chasemake_Stream_Next 64 = true := by kernel_rfl
/- (*paperchase/chasemake.Stream).Flip -/
def ir_chasemake_Stream_Flip : IC :=
  (.seq (.reg [⟨some 4, .mov (.c (.bool false)), none⟩])
    (.seq (.reg [⟨some 5, .mov (.t 0), none⟩,
      ⟨some 6, .mov (.t 1), none⟩,
      ⟨some 7, .call 38 [.t 5, .t 6], none⟩,
      ⟨some 8, .bin .eql (.t 7) (.c (.int .i64 0)), none⟩,
      ⟨some 4, .mov (.t 8), none⟩])
    .ret))
def rs_chasemake_Stream_Flip : List IRes := [.t 4]
theorem ck_chasemake_Stream_Flip : chkF Tryz.prog Tryz.f23 ir_chasemake_Stream_Flip rs_chasemake_Stream_Flip 9 = true := by kernel_rfl
/- (*paperchase/chasemake.Stream).Pick -/
def ir_chasemake_Stream_Pick : IC :=
  (.seq (.reg [⟨some 4, .mov (.c (.int .i64 0)), none⟩])
    (.seq (.reg [⟨some 5, .mov (.t 1), none⟩,
      ⟨some 6, .mov (.t 0), none⟩,
      ⟨some 7, .mov (.t 1), none⟩,
      ⟨some 8, .len (.t 7), none⟩,
      ⟨some 9, .call 38 [.t 6, .t 8], none⟩,
      ⟨some 10, .ixa 1 (.t 5) (.t 9), none⟩,
      ⟨some 11, .ld 1 false (.t 10), none⟩,
      ⟨some 4, .mov (.t 11), none⟩])
    .ret))
def rs_chasemake_Stream_Pick : List IRes := [.t 4]
theorem ck_chasemake_Stream_Pick : chkF Tryz.prog Tryz.f37 ir_chasemake_Stream_Pick rs_chasemake_Stream_Pick 12 = true := by kernel_rfl
/- (*paperchase/chasemake.Stream).h06one -/
def ir_chasemake_Stream_h06one : IC :=
  (.seq (.reg [⟨some 4, .mov (.c (.str [])), none⟩])
    (.seq (.reg [⟨some 5, .mov (.t 1), none⟩,
      ⟨some 6, .mov (.t 0), none⟩,
      ⟨some 7, .mov (.t 1), none⟩,
      ⟨some 8, .len (.t 7), none⟩,
      ⟨some 9, .call 38 [.t 6, .t 8], none⟩,
      ⟨some 10, .ixa 1 (.t 5) (.t 9), none⟩,
      ⟨some 11, .ld 1 false (.t 10), none⟩,
      ⟨some 4, .mov (.t 11), none⟩])
    .ret))
def rs_chasemake_Stream_h06one : List IRes := [.t 4]
theorem ck_chasemake_Stream_h06one : chkF Tryz.prog Tryz.f24 ir_chasemake_Stream_h06one rs_chasemake_Stream_h06one 12 = true := by kernel_rfl


section
variable {E : Envt}

def inE (n lo hi : Int) : Bool := decide (lo ≤ n) && decide (n ≤ hi)
theorem In_ok (n lo hi : Int) : PCall Tryz.prog E 71 [int n, int lo, int hi] (· = .bool (inE n lo hi)) := by
  refine pcallF mixed Tryz.func71 ck_base_In ?_
  simp only [a0, l0, OS.ao, List.map_cons, List.map_nil, List.length_cons, List.length_nil, List.cons_append, List.nil_append, Nat.reduceSub, Nat.reduceAdd, List.replicate_succ, List.replicate_zero, ir_base_In, rs_base_In, ZZ, YY, Ze, ite_true, ite_false, forall_const, reduceCtorEq, Nat.reduceAdd, Nat.reduceMul, Nat.reduceLeDiff, Nat.reduceLT, Nat.reduceEqDiff]
  rfl
def whenE (b : Bool) (e : Int) : Int := if b = true then e else 0
theorem When_ok (b : Bool) (e : Int) : PCall Tryz.prog E 64 [.bool b, int e] (· = int (whenE b e)) := by
  refine pcallF mixed Tryz.func64 ck_base_When ?_
  simp only [a0, l0, OS.ao, List.map_cons, List.map_nil, List.length_cons, List.length_nil, List.cons_append, List.nil_append, Nat.reduceSub, Nat.reduceAdd, List.replicate_succ, List.replicate_zero, ir_base_When, rs_base_When, ZZ, YY, Ze, ite_true, ite_false, forall_const, reduceCtorEq, Nat.reduceAdd, Nat.reduceMul, Nat.reduceLeDiff, Nat.reduceLT, Nat.reduceEqDiff]
  refine br ?_ ?_
  all_goals
    rintro rfl
    simp only [ZZ, YY, Ze, ite_true, ite_false, forall_const, reduceCtorEq, Nat.reduceAdd, Nat.reduceMul, Nat.reduceLeDiff, Nat.reduceLT, Nat.reduceEqDiff]
    rfl
def firstE : List Int → Int
  | [] => 0
  | e :: r => if e = 0 then firstE r else e
theorem firstE_drop (l : List Int) (k : Nat) (x : Int) (h : l[k]? = some x) : firstE (l.drop k) = if x = 0 then firstE (l.drop (k + 1)) else x := by
  have hk := (List.getElem?_eq_some_iff.1 h).1
  rw [List.drop_eq_getElem_cons hk, (List.getElem?_eq_some_iff.1 h).2]
  rfl
theorem First_ok (l : List Int) (hl : l.length ≤ 1000000) : PCall Tryz.prog E 63 [ints l] (· = int (firstE l)) := by
  refine pcallF mixed Tryz.func63 ck_base_First ?_
  simp only [a0, l0, OS.ao, List.map_cons, List.map_nil, List.length_cons, List.length_nil, List.cons_append, List.nil_append, Nat.reduceSub, Nat.reduceAdd, List.replicate_succ, List.replicate_zero, ir_base_First, rs_base_First, ZZ, YY, Ze, ite_true, ite_false, forall_const, reduceCtorEq, Nat.reduceAdd, Nat.reduceMul, Nat.reduceLeDiff, Nat.reduceLT, Nat.reduceEqDiff]
  simp only [ints, ZZ, YY, Ze, ite_true, ite_false, forall_const, reduceCtorEq, Nat.reduceAdd, Nat.reduceMul, Nat.reduceLeDiff, Nat.reduceLT, Nat.reduceEqDiff]
  generalize hes : l.map (fun x => [PV.int IntKind.i64 x]) = es
  have hln : es.length = l.length := by rw [← hes]; simp
  refine loop_intro (fun n fr L => ∃ k : Nat, k ≤ l.length ∧ n = l.length - k ∧ firstE l = firstE (l.drop k) ∧ fr = [.p (.sl 1 es), .any, .any, .any, .any, .p (.sl 1 es), .p (int (es.length : Nat)), .p (int (k : Nat)), .any, .any, .any, .any, .any, .any, .any] ∧ L = []) l.length [.p (.sl 1 es), .any, .any, .any, .any, .p (.sl 1 es), .p (int (es.length : Nat)), .p (int (0 : Nat)), .any, .any, .any, .any, .any, .any, .any] [] ?_ ?_ ⟨0, by omega, by omega, rfl, rfl, rfl⟩ ?_
  · (simp only [ZZ, YY, Ze, ite_true, ite_false, forall_const, reduceCtorEq, Nat.reduceAdd, Nat.reduceMul, Nat.reduceLeDiff, Nat.reduceLT, Nat.reduceEqDiff]; try trivial)
  · simp only [ZZ, YY, Ze, ite_true, ite_false, forall_const, reduceCtorEq, Nat.reduceAdd, Nat.reduceMul, Nat.reduceLeDiff, Nat.reduceLT, Nat.reduceEqDiff]
  rintro n fr L ⟨k, hk, rfl, hf, rfl, rfl⟩
  simp only [ir_base_First_L0, ZZ, YY, Ze, ite_true, ite_false, forall_const, reduceCtorEq, Nat.reduceAdd, Nat.reduceMul, Nat.reduceLeDiff, Nat.reduceLT, Nat.reduceEqDiff]
  refine br ?_ ?_
  · intro h
    have hlt : k < l.length := by have := of_decide_eq_true h; omega
    obtain ⟨x, hx⟩ : ∃ x, l[k]? = some x := ⟨_, List.getElem?_eq_getElem hlt⟩
    have hg : es.getD k [] = [PV.int .i64 x] := by rw [← hes]; exact getD_map hx
    have hd := firstE_drop l k x hx
    simp only [ZZ, YY, Ze, ite_true, ite_false, forall_const, reduceCtorEq, Nat.reduceAdd, Nat.reduceMul, Nat.reduceLeDiff, Nat.reduceLT, Nat.reduceEqDiff, hg]
    refine ⟨by omega, by omega, ?_⟩
    refine br ?_ ?_
    · intro h2
      simp only [ZZ, YY, Ze, ite_true, ite_false, forall_const, reduceCtorEq, Nat.reduceAdd, Nat.reduceMul, Nat.reduceLeDiff, Nat.reduceLT, Nat.reduceEqDiff]
      rw [hf, hd, if_neg (by simpa using h2)]
    · intro h2
      simp only [ZZ, YY, Ze, ite_true, ite_false, forall_const, reduceCtorEq, Nat.reduceAdd, Nat.reduceMul, Nat.reduceLeDiff, Nat.reduceLT, Nat.reduceEqDiff]
      refine ⟨i64_of (by omega) (by omega), ?_⟩
      refine end_round (l.length - (k + 1)) [.p (.sl 1 es), .any, .any, .any, .any, .p (.sl 1 es), .p (int (es.length : Nat)), .p (int ((k + 1 : Nat))), .any, .any, .any, .any, .any, .any, .any] [] (by omega) ?_ ?_ ⟨k + 1, by omega, rfl, by rw [hf, hd, if_pos (by simpa using h2)], rfl, rfl⟩
      · (simp only [ZZ, YY, Ze, ite_true, ite_false, forall_const, reduceCtorEq, Nat.reduceAdd, Nat.reduceMul, Nat.reduceLeDiff, Nat.reduceLT, Nat.reduceEqDiff]; try trivial)
      · simp only [ZZ, YY, Ze, ite_true, ite_false, forall_const, reduceCtorEq, Nat.reduceAdd, Nat.reduceMul, Nat.reduceLeDiff, Nat.reduceLT, Nat.reduceEqDiff]
  · intro h
    have hge : l.length ≤ k := by have := of_decide_eq_false h; omega
    simp only [ZZ, YY, Ze, ite_true, ite_false, forall_const, reduceCtorEq, Nat.reduceAdd, Nat.reduceMul, Nat.reduceLeDiff, Nat.reduceLT, Nat.reduceEqDiff]
    rw [hf, List.drop_eq_nil_of_le hge]
    rfl

/-- chasemake.Below. -/
def below (x n : Int) : Int := if n < 1 then 0 else x % n
theorem below_lo (x n : Int) : 0 ≤ below x n := by
  unfold below
  split
  · omega
  · exact Int.emod_nonneg x (by omega)
theorem below_hi (x n : Int) (h : 1 ≤ n) : below x n < n := by
  unfold below
  rw [if_neg (by omega)]
  exact Int.emod_lt_of_pos x (by omega)
theorem tmod_cases (x n : Int) (hn : 1 ≤ n) : x % n = if x.tmod n < 0 then x.tmod n + n else x.tmod n := by
  have h2 := Int.emod_nonneg x (show n ≠ 0 by omega)
  have h3 := Int.emod_lt_of_pos x (show 0 < n by omega)
  rw [Int.tmod_eq_emod]
  split <;> split at * <;> omega
theorem tmod_bd (x n : Int) (hn : 1 ≤ n) : -n < x.tmod n ∧ x.tmod n < n := by
  have h2 := Int.emod_nonneg x (show n ≠ 0 by omega)
  have h3 := Int.emod_lt_of_pos x (show 0 < n by omega)
  rw [Int.tmod_eq_emod]
  split <;> omega
theorem Below_ok (x n : Int) (h2 : n ≤ 9223372036854775807) : PCall Tryz.prog E 17 [int x, int n] (· = int (below x n)) := by
  refine pcallF mixed Tryz.func17 ck_chasemake_Below ?_
  simp only [a0, l0, OS.ao, List.map_cons, List.map_nil, List.length_cons, List.length_nil, List.cons_append, List.nil_append, Nat.reduceSub, Nat.reduceAdd, List.replicate_succ, List.replicate_zero, ir_chasemake_Below, rs_chasemake_Below, ZZ, YY, Ze, ite_true, ite_false, forall_const, reduceCtorEq, Nat.reduceAdd, Nat.reduceMul, Nat.reduceLeDiff, Nat.reduceLT, Nat.reduceEqDiff]
  refine br ?_ ?_
  · intro h
    simp only [ZZ, YY, Ze, ite_true, ite_false, forall_const, reduceCtorEq, Nat.reduceAdd, Nat.reduceMul, Nat.reduceLeDiff, Nat.reduceLT, Nat.reduceEqDiff]
    have : n < 1 := of_decide_eq_true h
    simp [below, this]
  · intro h
    have hn : ¬ n < 1 := of_decide_eq_false h
    have hb := tmod_bd x n (by omega)
    have hc := tmod_cases x n (by omega)
    simp only [ZZ, YY, Ze, ite_true, ite_false, forall_const, reduceCtorEq, Nat.reduceAdd, Nat.reduceMul, Nat.reduceLeDiff, Nat.reduceLT, Nat.reduceEqDiff]
    refine ⟨by omega, ?_⟩
    refine br_join (fun fr L => ∃ y, y = x % n ∧ fr = [.p (int y), .any, .any, .any, .any, .any, .any, .any, .any, .any, .any, .any, .any, .any, .any, .any] ∧ L = []) ?_ ?_ ?_
    · intro h1
      have h1 := of_decide_eq_true h1
      simp only [ZZ, YY, Ze, ite_true, ite_false, forall_const, reduceCtorEq, Nat.reduceAdd, Nat.reduceMul, Nat.reduceLeDiff, Nat.reduceLT, Nat.reduceEqDiff]
      refine ⟨i64_of (by omega) (by omega), to_mid [.p (int (x.tmod n + n)), .any, .any, .any, .any, .any, .any, .any, .any, .any, .any, .any, .any, .any, .any, .any] [] ?_ ?_ ⟨_, by rw [hc, if_pos h1], rfl, rfl⟩⟩
      · (simp only [ZZ, YY, Ze, ite_true, ite_false, forall_const, reduceCtorEq, Nat.reduceAdd, Nat.reduceMul, Nat.reduceLeDiff, Nat.reduceLT, Nat.reduceEqDiff]; try trivial)
      · simp only [ZZ, YY, Ze, ite_true, ite_false, forall_const, reduceCtorEq, Nat.reduceAdd, Nat.reduceMul, Nat.reduceLeDiff, Nat.reduceLT, Nat.reduceEqDiff]
    · intro h1
      have h1 := of_decide_eq_false h1
      simp only [ZZ, YY, Ze, ite_true, ite_false, forall_const, reduceCtorEq, Nat.reduceAdd, Nat.reduceMul, Nat.reduceLeDiff, Nat.reduceLT, Nat.reduceEqDiff]
      refine to_mid [.p (int (x.tmod n)), .any, .any, .any, .any, .any, .any, .any, .any, .any, .any, .any, .any, .any, .any, .any] [] ?_ ?_ ⟨_, by rw [hc, if_neg h1], rfl, rfl⟩
      · (simp only [ZZ, YY, Ze, ite_true, ite_false, forall_const, reduceCtorEq, Nat.reduceAdd, Nat.reduceMul, Nat.reduceLeDiff, Nat.reduceLT, Nat.reduceEqDiff]; try trivial)
      · simp only [ZZ, YY, Ze, ite_true, ite_false, forall_const, reduceCtorEq, Nat.reduceAdd, Nat.reduceMul, Nat.reduceLeDiff, Nat.reduceLT, Nat.reduceEqDiff]
    · rintro fr L ⟨y, rfl, rfl, rfl⟩
      simp only [ZZ, YY, Ze, ite_true, ite_false, forall_const, reduceCtorEq, Nat.reduceAdd, Nat.reduceMul, Nat.reduceLeDiff, Nat.reduceLT, Nat.reduceEqDiff]
      simp [below, hn]

/-- The stream's cells. -/
def stm (l : List Int) (k : Nat) : List PV := [ints l, int k]
abbrev T : TypeId := 25
theorem Next_ok (l : List Int) (k : Nat) (n : Int) (hk : k ≤ 1000000) (hl : l.length ≤ 9223372036854775807) (h2 : n ≤ 9223372036854775807) :
    SCall Tryz.prog E 38 T (stm l k) [int n] (fun x cs' => ∃ y, x = int (below y n) ∧ cs' = stm l (k + 1)) := by
  unfold SCall
  refine gcallP mixed Tryz.func38 ck_chasemake_Stream_Next ?_
  simp only [a0, l0, OS.ao, List.map_cons, List.map_nil, List.length_cons, List.length_nil, List.cons_append, List.nil_append, Nat.reduceSub, Nat.reduceAdd, List.replicate_succ, List.replicate_zero, stm, ir_chasemake_Stream_Next, rs_chasemake_Stream_Next, ZZ, YY, Ze, ite_true, ite_false, forall_const, reduceCtorEq, Nat.reduceAdd, Nat.reduceMul, Nat.reduceLeDiff, Nat.reduceLT, Nat.reduceEqDiff]
  refine ⟨i64_of (by omega) (by omega), ?_⟩
  simp only [ints, ZZ, YY, Ze, ite_true, ite_false, forall_const, reduceCtorEq, Nat.reduceAdd, Nat.reduceMul, Nat.reduceLeDiff, Nat.reduceLT, Nat.reduceEqDiff]
  generalize hes : l.map (fun x => [PV.int IntKind.i64 x]) = es
  have hln : es.length = l.length := by rw [← hes]; simp
  have hc : [PV.sl 1 es, int ((k : Int) + 1)] = [PV.sl 1 es, int ((k + 1 : Nat) : Int)] := by simp
  refine br ?_ ?_
  · intro h
    simp only [ZZ, YY, Ze, ite_true, ite_false, forall_const, reduceCtorEq, Nat.reduceAdd, Nat.reduceMul, Nat.reduceLeDiff, Nat.reduceLT, Nat.reduceEqDiff]
    refine ⟨i64_of (by omega) (by omega), ?_⟩
    refine use1 (Below_ok _ _ h2) rfl (.inl rfl) ?_
    simp only [ZZ, YY, Ze, ite_true, ite_false, forall_const, reduceCtorEq, Nat.reduceAdd, Nat.reduceMul, Nat.reduceLeDiff, Nat.reduceLT, Nat.reduceEqDiff]
    exact fin_S [PV.sl 1 es, int ((k : Int) + 1)] rfl ⟨_, rfl, hc⟩
  · intro h
    have hne : ¬ ((es.length : Int) = 0) := of_decide_eq_false h
    simp only [ZZ, YY, Ze, ite_true, ite_false, forall_const, reduceCtorEq, Nat.reduceAdd, Nat.reduceMul, Nat.reduceLeDiff, Nat.reduceLT, Nat.reduceEqDiff]
    refine drg0 ?_
    simp only [ZZ, YY, Ze, ite_true, ite_false, forall_const, reduceCtorEq, Nat.reduceAdd, Nat.reduceMul, Nat.reduceLeDiff, Nat.reduceLT, Nat.reduceEqDiff]
    refine ⟨i64_of (by omega) (by omega), ⟨by omega, ?_⟩⟩
    refine drg0 ?_
    have hkk : (k : Int) + 1 - 1 = k := by omega
    have hrem : (k : Int).tmod (es.length : Int) = ((k % es.length : Nat) : Int) := by rw [Int.tmod_eq_emod_of_nonneg (by omega)]; rfl
    have hquo : (k : Int).tdiv (es.length : Int) = ((k / es.length : Nat) : Int) := by rw [Int.tdiv_eq_ediv_of_nonneg (by omega)]; rfl
    have hq1 : k / es.length ≤ k := Nat.div_le_self _ _
    have hr1 : k % es.length ≤ k := Nat.mod_le _ _
    have hr2 : k % es.length < es.length := Nat.mod_lt _ (by omega)
    obtain ⟨x, hx⟩ : ∃ x, l[k % es.length]? = some x := ⟨_, List.getElem?_eq_getElem (by omega)⟩
    have hg : es.getD (k % es.length) [] = [PV.int .i64 x] := by rw [← hes]; exact getD_map (by rw [hes]; exact hx)
    simp only [ZZ, YY, Ze, ite_true, ite_false, forall_const, reduceCtorEq, Nat.reduceAdd, Nat.reduceMul, Nat.reduceLeDiff, Nat.reduceLT, Nat.reduceEqDiff, hkk, hrem, hquo, hg]
    generalize k / es.length = q at *
    generalize k % es.length = r at *
    refine ⟨i64_of (by omega) (by omega), ⟨hne, i64_of (by omega) (by omega)⟩, ⟨by omega, by omega⟩, by omega, ?_⟩
    refine use1 (Below_ok _ _ (by decide)) rfl (.inl rfl) ?_
    have hb1 := below_lo x 1073741824
    have hb2 := below_hi x 1073741824 (by omega)
    have hm : (q : Int) * (7919 + (r : Int)) ≤ 1000000 * 1007919 := Int.mul_le_mul (by omega) (by omega) (by omega) (by omega)
    have hm0 : 0 ≤ (q : Int) * (7919 + (r : Int)) := Int.mul_nonneg (by omega) (by omega)
    simp only [ZZ, YY, Ze, ite_true, ite_false, forall_const, reduceCtorEq, Nat.reduceAdd, Nat.reduceMul, Nat.reduceLeDiff, Nat.reduceLT, Nat.reduceEqDiff]
    refine ⟨i64_of (by omega) (by omega), i64_of (by omega) (by omega), i64_of (by omega) (by omega), ?_⟩
    refine use1 (Below_ok _ _ h2) rfl (.inl rfl) ?_
    simp only [ZZ, YY, Ze, ite_true, ite_false, forall_const, reduceCtorEq, Nat.reduceAdd, Nat.reduceMul, Nat.reduceLeDiff, Nat.reduceLT, Nat.reduceEqDiff]
    exact fin_S [PV.sl 1 es, int ((k : Int) + 1)] rfl ⟨_, rfl, hc⟩

theorem below_idx (x : Int) (n : Nat) (hn : 0 < n) : ∃ i : Nat, i < n ∧ below x n = i := by
  have h0 := below_lo x n
  have h1 := below_hi x n (by omega)
  exact ⟨(below x n).toNat, by omega, by omega⟩

theorem Flip_ok (l : List Int) (k : Nat) (n : Int) (hk : k ≤ 1000000) (hl : l.length ≤ 9223372036854775807) (h2 : n ≤ 9223372036854775807) :
    SCall Tryz.prog E 23 T (stm l k) [int n] (fun x cs' => ∃ b, x = .bool b ∧ cs' = stm l (k + 1)) := by
  unfold SCall
  refine gcallP mixed Tryz.func23 ck_chasemake_Stream_Flip ?_
  simp only [a0, l0, OS.ao, List.map_cons, List.map_nil, List.length_cons, List.length_nil, List.cons_append, List.nil_append, Nat.reduceSub, Nat.reduceAdd, List.replicate_succ, List.replicate_zero, ir_chasemake_Stream_Flip, rs_chasemake_Stream_Flip, ZZ, YY, Ze, ite_true, ite_false, forall_const, reduceCtorEq, Nat.reduceAdd, Nat.reduceMul, Nat.reduceLeDiff, Nat.reduceLT, Nat.reduceEqDiff]
  refine useS (Next_ok l k n hk hl h2) rfl rfl rfl (by simp only [ZZ, YY, Ze, ite_true, ite_false, forall_const, reduceCtorEq, Nat.reduceAdd, Nat.reduceMul, Nat.reduceLeDiff, Nat.reduceLT, Nat.reduceEqDiff]) ?_
  rintro x cs' ⟨y, rfl, rfl⟩
  simp only [ZZ, YY, Ze, ite_true, ite_false, forall_const, reduceCtorEq, Nat.reduceAdd, Nat.reduceMul, Nat.reduceLeDiff, Nat.reduceLT, Nat.reduceEqDiff]
  exact fin_S (stm l (k + 1)) rfl ⟨_, rfl, rfl⟩

/-- One of some elements. -/
theorem Pick_ok (l : List Int) (k : Nat) (c : List Int) (hk : k ≤ 1000000) (hl : l.length ≤ 9223372036854775807) (h0 : 0 < c.length) (h1 : c.length ≤ 1000000) :
    SCall Tryz.prog E 37 T (stm l k) [ints c] (fun x cs' => ∃ y, x = int y ∧ y ∈ c ∧ cs' = stm l (k + 1)) := by
  unfold SCall
  refine gcallP mixed Tryz.func37 ck_chasemake_Stream_Pick ?_
  simp only [a0, l0, OS.ao, List.map_cons, List.map_nil, List.length_cons, List.length_nil, List.cons_append, List.nil_append, Nat.reduceSub, Nat.reduceAdd, List.replicate_succ, List.replicate_zero, ir_chasemake_Stream_Pick, rs_chasemake_Stream_Pick, ZZ, YY, Ze, ite_true, ite_false, forall_const, reduceCtorEq, Nat.reduceAdd, Nat.reduceMul, Nat.reduceLeDiff, Nat.reduceLT, Nat.reduceEqDiff]
  simp only [ints, ZZ, YY, Ze, ite_true, ite_false, forall_const, reduceCtorEq, Nat.reduceAdd, Nat.reduceMul, Nat.reduceLeDiff, Nat.reduceLT, Nat.reduceEqDiff]
  generalize hes : c.map (fun x => [PV.int IntKind.i64 x]) = es
  have hln : es.length = c.length := by rw [← hes]; simp
  refine useS (Next_ok l k _ hk hl (by omega)) rfl rfl rfl (by simp only [ZZ, YY, Ze, ite_true, ite_false, forall_const, reduceCtorEq, Nat.reduceAdd, Nat.reduceMul, Nat.reduceLeDiff, Nat.reduceLT, Nat.reduceEqDiff]) ?_
  rintro x cs' ⟨y, rfl, rfl⟩
  obtain ⟨i, hi, hy⟩ := below_idx y es.length (by omega)
  rw [hy]
  obtain ⟨z, hz⟩ : ∃ z, c[i]? = some z := ⟨_, List.getElem?_eq_getElem (by omega)⟩
  have hg : es.getD i [] = [PV.int .i64 z] := by rw [← hes]; exact getD_map hz
  simp only [ZZ, YY, Ze, ite_true, ite_false, forall_const, reduceCtorEq, Nat.reduceAdd, Nat.reduceMul, Nat.reduceLeDiff, Nat.reduceLT, Nat.reduceEqDiff, hg]
  exact ⟨⟨by omega, by omega⟩, by omega, fin_S (stm l (k + 1)) rfl ⟨_, rfl, List.mem_of_getElem? hz, rfl⟩⟩
theorem one_ok (l : List Int) (k : Nat) (c : List (List UInt8)) (hk : k ≤ 1000000) (hl : l.length ≤ 9223372036854775807) (h0 : 0 < c.length) (h1 : c.length ≤ 1000000) :
    SCall Tryz.prog E 24 T (stm l k) [strs c] (fun x cs' => ∃ y, x = .str y ∧ y ∈ c ∧ cs' = stm l (k + 1)) := by
  unfold SCall
  refine gcallP mixed Tryz.func24 ck_chasemake_Stream_h06one ?_
  simp only [a0, l0, OS.ao, List.map_cons, List.map_nil, List.length_cons, List.length_nil, List.cons_append, List.nil_append, Nat.reduceSub, Nat.reduceAdd, List.replicate_succ, List.replicate_zero, ir_chasemake_Stream_h06one, rs_chasemake_Stream_h06one, ZZ, YY, Ze, ite_true, ite_false, forall_const, reduceCtorEq, Nat.reduceAdd, Nat.reduceMul, Nat.reduceLeDiff, Nat.reduceLT, Nat.reduceEqDiff]
  simp only [strs, ZZ, YY, Ze, ite_true, ite_false, forall_const, reduceCtorEq, Nat.reduceAdd, Nat.reduceMul, Nat.reduceLeDiff, Nat.reduceLT, Nat.reduceEqDiff]
  generalize hes : c.map (fun x => [PV.str x]) = es
  have hln : es.length = c.length := by rw [← hes]; simp
  refine useS (Next_ok l k _ hk hl (by omega)) rfl rfl rfl (by simp only [ZZ, YY, Ze, ite_true, ite_false, forall_const, reduceCtorEq, Nat.reduceAdd, Nat.reduceMul, Nat.reduceLeDiff, Nat.reduceLT, Nat.reduceEqDiff]) ?_
  rintro x cs' ⟨y, rfl, rfl⟩
  obtain ⟨i, hi, hy⟩ := below_idx y es.length (by omega)
  rw [hy]
  obtain ⟨z, hz⟩ : ∃ z, c[i]? = some z := ⟨_, List.getElem?_eq_getElem (by omega)⟩
  have hg : es.getD i [] = [PV.str z] := by rw [← hes]; exact getD_map hz
  simp only [ZZ, YY, Ze, ite_true, ite_false, forall_const, reduceCtorEq, Nat.reduceAdd, Nat.reduceMul, Nat.reduceLeDiff, Nat.reduceLT, Nat.reduceEqDiff, hg]
  exact ⟨⟨by omega, by omega⟩, by omega, fin_S (stm l (k + 1)) rfl ⟨_, rfl, List.mem_of_getElem? hz, rfl⟩⟩
end
end Go.Proofs.YtejekkhhpkeckaaGreatDoor
