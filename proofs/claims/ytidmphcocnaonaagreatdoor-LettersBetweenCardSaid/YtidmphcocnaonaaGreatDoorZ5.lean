
/- Own texts, put together: B1 B2 B3 B4 B5 B6 B7 B8 B9 B10 B12 B13. -/
import Derived.Test.YtidmphcocnaonaaGreatDoorZ3
import Derived.Test.YtidmphcocnaonaaGreatDoorProg
import Derived.KernelRfl
import Derived.Test.YtidmphcocnaonaaGreatDoorLayValid
import Derived.Test.YtidmphcocnaonaaGreatDoorLayIndex
/- Contracts of the smallest functions, and of the maker's stream. -/
namespace Go.Proofs.YtidmphcocnaonaaGreatDoor
set_option linter.unusedVariables false
set_option linter.unusedSimpArgs false
set_option linter.defProp false

theorem mixed : Tryz.prog.follows .mixedOrders = true := by kernel_rfl
abbrev int (n : Int) : PV := .int .i64 n
def ints (l : List Int) : PV := .sl 1 (l.map fun x => [.int .i64 x])
def strs (l : List (List UInt8)) : PV := .sl 1 (l.map fun x => [.str x])
theorem getD_map {α β : Type} {f : α → β} {l : List α} {k : Nat} {x : α} {d : β} (h : l[k]? = some x) : (l.map f).getD k d = f x := by
  simp [List.getD, h]
theorem i64_of {n : Int} (h1 : -9223372036854775808 ≤ n) (h2 : n ≤ 9223372036854775807) : I64 n := ⟨h1, h2⟩

theorem Zl0 {α : Type} {n : Nat} : ([] : List α).take n = [] := by simp
theorem Zl1 {α : Type} {n : Nat} : ([] : List α).drop n = [] := by simp
theorem Zl2 {α : Type} {l : List α} : l ++ [] = l := by simp
theorem Zl3 {p : Prop} : (True ∧ p) = p := by simp
theorem Zl4 {p : Prop} : (p ∧ True) = p := by simp
theorem Zl5 {α : Type} {h : Decidable True} {a b : α} : (if True then a else b) = a := by simp
theorem Zl6 {α : Type} {h : Decidable False} {a b : α} : (if False then a else b) = b := by simp
theorem Zl7 {b : Bool} : (b && true) = b := by simp
theorem Zl8 {b : Bool} : (true && b) = b := rfl
theorem Zl9 : (!true) = false := rfl
theorem Zl10 : (!false) = true := rfl
theorem Zl11 {α : Type} {a b : α} : (bif true then a else b) = a := rfl
theorem Zl12 {α : Type} {a b : α} : (bif false then a else b) = b := rfl
theorem Zl13 {p : Prop} : (p → p) = True := by simp
theorem Zl14 {p : Prop} : (p ∧ p) = p := by simp
theorem Zl15 {p : Prop} : (True → p) = p := by simp
theorem Zl16 {p : Prop} : (p → True) = True := by simp
theorem Zl17 {n : Nat} : 0 + n = n := by simp
theorem Zl18 {n : Nat} : n + 0 = n := rfl
theorem Zl19 {b c : Bool} : (bif b then c else false) = (b && c) := by simp
theorem Zl20 {b c : Bool} : (bif b then true else c) = (b || c) := by simp
theorem Zl21 {n : Nat} : ((n : Int)).toNat = n := rfl
theorem Zl22 : (false = true) = False := by simp
theorem Zl23 {α : Type} {a b : α} : (a ≠ b) = ¬ (a = b) := by simp
theorem Zl24 : (¬ False) = True := by simp
theorem Zl25 : (¬ True) = False := by simp
theorem Zl26 {a b : Nat} : (Key.l a = Key.l b) = (a = b) := by simp
theorem Zl27 {a b : Nat} : (Key.b a = Key.b b) = (a = b) := by simp
theorem Zl28 {α : Type} {a : α} {l : List α} {d : α} : (a :: l).getD 0 d = a := rfl
theorem Zl29 {α : Type} {a : α} {l : List α} {d : α} {n : Nat} : (a :: l).getD (n + 1) d = l.getD n d := rfl
theorem Zl30 {α : Type} {d : α} {n : Nat} : ([] : List α).getD n d = d := rfl
theorem Zl31 {α : Type} {a : α} {l : List α} : (a :: l)[0]? = some a := rfl
theorem Zl32 {α : Type} {a : α} {l : List α} {n : Nat} : (a :: l)[n + 1]? = l[n]? := rfl
theorem Zl33 {α : Type} {a b : α} {l : List α} : (a :: l).set 0 b = b :: l := rfl
theorem Zl34 {α : Type} {a b : α} {l : List α} {n : Nat} : (a :: l).set (n + 1) b = a :: l.set n b := rfl
theorem Zl35 {α β : Type} {f : α → β} {a : α} {l : List α} : (a :: l).map f = f a :: l.map f := rfl
theorem Zl36 {α β : Type} {f : α → β} : [].map f = [] := rfl
theorem Zl37 {α : Type} {a : α} {l : List α} : (a :: l).length = l.length + 1 := rfl
theorem Zl38 {α : Type} : ([] : List α).length = 0 := rfl
theorem Zl39 {α : Type} {p : α → Bool} {a : α} {l : List α} : (a :: l).all p = (p a && l.all p) := rfl
theorem Zl40 {α : Type} {p : α → Bool} : [].all p = true := rfl
theorem Zl41 {α : Type} {a : α} {l : List α} {n : Nat} : (a :: l).take (n + 1) = a :: l.take n := rfl
theorem Zl42 {α : Type} {l : List α} : l.take 0 = [] := rfl
theorem Zl43 {α : Type} {a : α} {l : List α} {n : Nat} : (a :: l).drop (n + 1) = l.drop n := rfl
theorem Zl44 {α : Type} {l : List α} : l.drop 0 = l := rfl
theorem Zl45 {α β : Type} {f : α → β} {a : α} : (some a).map f = some (f a) := rfl
theorem Zl46 {α β : Type} {f : α → β} : (none : Option α).map f = none := rfl
theorem Zl47 {α : Type} {a : α} {l m : List α} : (a :: l) ++ m = a :: (l ++ m) := rfl
theorem Zl48 {α : Type} {l : List α} : [] ++ l = l := rfl
theorem Zl49 {α : Type} {a : α} {l : List α} : (a :: l).isEmpty = false := rfl
theorem Zl50 {α : Type} : ([] : List α).isEmpty = true := rfl
def ZZ := (And.intro (And.intro (And.intro (And.intro (And.intro (And.intro (And.intro @awp_skip (And.intro @awp_exit @awp_ret)) (And.intro @awp_seq (And.intro @awp_block @awp_reg))) (And.intro (And.intro @awp_drg (And.intro @awp_loop @awp_cond)) (And.intro @awp_cut (And.intro @thenC_n @thenC_r)))) (And.intro (And.intro (And.intro @thenC_e (And.intro @blockQ_n @blockQ_r)) (And.intro @blockQ_e (And.intro @roundQ_n @roundQ_r))) (And.intro (And.intro @roundQ_e (And.intro @midQ_n @midQ_r)) (And.intro @midQ_e (And.intro @retQ_r @retQ_n))))) (And.intro (And.intro (And.intro (And.intro @retF_r (And.intro @retF_n @RetK_some)) (And.intro @mkRes1 (And.intro @mkRes2 @mkRes3))) (And.intro (And.intro @BrC_true (And.intro @BrC_false @OpsK_some)) (And.intro @GdK_some (And.intro @GdK_none @StepK_some)))) (And.intro (And.intro (And.intro @ops_nil (And.intro @o_mov @o_pick)) (And.intro @o_bin (And.intro @o_bnb @o_eqa))) (And.intro (And.intro @o_not (And.intro @o_neg @o_len)) (And.intro @o_sln (And.intro @o_mx @o_mn)))))) (And.intro (And.intro (And.intro (And.intro (And.intro @o_idx (And.intro @o_ssl @o_vsl)) (And.intro @o_ixa (And.intro @o_fla @o_fld))) (And.intro (And.intro @o_ld (And.intro @o_ldl @o_ext)) (And.intro @o_bld (And.intro @o_cvi @o_cvs)))) (And.intro (And.intro (And.intro @o_b2s (And.intro @o_bsl @o_nck)) (And.intro @o_nli (And.intro @o_mkf @o_cap0))) (And.intro (And.intro @o_vsn (And.intro @o_mpl @o_mpn)) (And.intro @o_bldg (And.intro @o_ldg @o_nilr))))) (And.intro (And.intro (And.intro (And.intro @o_alc (And.intro @o_box @o_st)) (And.intro @o_app (And.intro @o_bsr @o_s2b))) (And.intro (And.intro @o_mks (And.intro @o_apz @o_trn)) (And.intro @o_mkm (And.intro @o_mpu @o_stg)))) (And.intro (And.intro (And.intro @o_alcd (And.intro @o_bsrd @o_rng)) (And.intro @o_ent (And.intro @o_mpd @o_cpy))) (And.intro (And.intro @g_mov (And.intro @g_pick @g_bin)) (And.intro (And.intro @g_bnb @g_eqa) (And.intro @g_not @g_neg))))))) (And.intro (And.intro (And.intro (And.intro (And.intro (And.intro @g_len (And.intro @g_sln @g_mx)) (And.intro @g_mn (And.intro @g_idx @g_ssl))) (And.intro (And.intro @g_vsl (And.intro @g_ixa @g_fla)) (And.intro @g_fld (And.intro @g_ld @g_ldl)))) (And.intro (And.intro (And.intro @g_ext (And.intro @g_bld @g_cvi)) (And.intro @g_cvs (And.intro @g_b2s @g_bsl))) (And.intro (And.intro @g_nck (And.intro @g_nli @g_mkf)) (And.intro @g_cap0 (And.intro @g_vsn @g_mpl))))) (And.intro (And.intro (And.intro (And.intro @g_mpn (And.intro @g_bldg @g_ldg)) (And.intro @ops_call (And.intro @ops_dcall @ops_pcall))) (And.intro (And.intro @ops_fcl (And.intro @ops_pcallg @ops_callg)) (And.intro @ops_callv (And.intro @ops_callvg @FnK_some)))) (And.intro (And.intro (And.intro @ops_fz (And.intro @ops_hole @ops_isn)) (And.intro @ops_nxt (And.intro @FzK_some @FzK_none))) (And.intro (And.intro @Zl13 (And.intro @Zl28 @Zl29)) (And.intro @Zl30 (And.intro @Zl31 @Zl32)))))) (And.intro (And.intro (And.intro (And.intro (And.intro @Zl33 (And.intro @Zl34 @Zl35)) (And.intro @Zl36 (And.intro @Zl37 @Zl38))) (And.intro (And.intro @Zl39 (And.intro @Zl40 @Zl41)) (And.intro @Zl42 (And.intro @Zl43 @Zl44)))) (And.intro (And.intro (And.intro @Zl0 (And.intro @Zl1 @Zl45)) (And.intro @Zl46 (And.intro @Zl3 @Zl4))) (And.intro (And.intro @Zl5 (And.intro @Zl6 @Zl7)) (And.intro @Zl8 (And.intro @Zl9 @Zl10))))) (And.intro (And.intro (And.intro (And.intro @Zl11 (And.intro @Zl12 @Zl26)) (And.intro @Zl27 (And.intro @Zl14 @Zl15))) (And.intro (And.intro @Zl16 (And.intro @Zl17 @Zl18)) (And.intro @Zl2 (And.intro @Zl48 @Zl47)))) (And.intro (And.intro (And.intro @Zl19 (And.intro @Zl20 @bool_beq_true)) (And.intro @bool_beq_false (And.intro @map_kill_p @map_thaw_p))) (And.intro (And.intro @Zl21 (And.intro @Zl49 @Zl50)) (And.intro (And.intro @Zl22 @Zl23) (And.intro @Zl24 @Zl25))))))))
def YY := (And.intro (And.intro (And.intro (And.intro (And.intro (And.intro (And.intro (And.intro @FnG_some @IsnK_some) (And.intro @Za.eq_1 @Zb.eq_1)) (And.intro (And.intro @Zb.eq_2 @Zb.eq_3) (And.intro @Zc.eq_1 @Zc.eq_2))) (And.intro (And.intro (And.intro @Zd.eq_1 @Zd.eq_2) (And.intro @Zf.eq_1 @Zf.eq_2)) (And.intro (And.intro @Zf.eq_3 @Zf.eq_4) (And.intro @Zf.eq_5 @Zf.eq_6)))) (And.intro (And.intro (And.intro (And.intro @Zf.eq_7 @Zf.eq_8) (And.intro @Zf.eq_9 @Zf.eq_10)) (And.intro (And.intro @Zf.eq_11 @Zf.eq_12) (And.intro @Zf.eq_13 @Zf.eq_14))) (And.intro (And.intro (And.intro @Zf.eq_15 @Zf.eq_16) (And.intro @Zf.eq_17 @Zf.eq_18)) (And.intro (And.intro @Zf.eq_19 @Zf.eq_20) (And.intro @Zf.eq_21 @Zf.eq_22))))) (And.intro (And.intro (And.intro (And.intro (And.intro @Zf.eq_23 @Zf.eq_24) (And.intro @Zf.eq_25 @Zf.eq_26)) (And.intro (And.intro @Zf.eq_27 @Zf.eq_28) (And.intro @Zf.eq_29 @Zf.eq_30))) (And.intro (And.intro (And.intro @Zf.eq_31 @Zf.eq_32) (And.intro @Zf.eq_33 @Zf.eq_34)) (And.intro (And.intro @Zf.eq_35 @Zf.eq_36) (And.intro @Zg.eq_1 @Zg.eq_2)))) (And.intro (And.intro (And.intro (And.intro @Zh.eq_1 @Zi.eq_1) (And.intro @Zi.eq_2 @Zi.eq_3)) (And.intro (And.intro @rd.eq_1 @rd.eq_2) (And.intro @rd.eq_3 @rd.eq_4))) (And.intro (And.intro (And.intro @AV.un.eq_1 @AV.un.eq_2) (And.intro @AV.unA.eq_1 @AV.ad.eq_1)) (And.intro (And.intro @AV.ad.eq_2 @Zj.eq_1) (And.intro @Zk.eq_1 @Zk.eq_2)))))) (And.intro (And.intro (And.intro (And.intro (And.intro (And.intro @Zl.eq_1 @Zl.eq_2) (And.intro @Zl.eq_3 @Zm.eq_1)) (And.intro (And.intro @Zm.eq_2 @Zn.eq_1) (And.intro @Zo.eq_1 @Zo.eq_2))) (And.intro (And.intro (And.intro @Zo.eq_3 @Zo.eq_4) (And.intro @Zo.eq_5 @Zp.eq_1)) (And.intro (And.intro @Zp.eq_2 @Zp.eq_3) (And.intro @Zp.eq_4 @Zp.eq_5)))) (And.intro (And.intro (And.intro (And.intro @Zp.eq_6 @Zp.eq_7) (And.intro @Zp.eq_8 @Zp.eq_9)) (And.intro (And.intro @Zp.eq_10 @Zp.eq_11) (And.intro @Zp.eq_12 @Zp.eq_13))) (And.intro (And.intro (And.intro @Zp.eq_14 @Zq.eq_1) (And.intro @Zq.eq_2 @Zq.eq_3)) (And.intro (And.intro @Zr.eq_1 @Zr.eq_2) (And.intro @Zr.eq_3 @Zr.eq_4))))) (And.intro (And.intro (And.intro (And.intro (And.intro @Zr.eq_5 @Zr.eq_6) (And.intro @Zr.eq_7 @Zr.eq_8)) (And.intro (And.intro @Zs.eq_1 @Zs.eq_2) (And.intro @Zs.eq_3 @Zt.eq_1))) (And.intro (And.intro (And.intro @Zu.eq_1 @Zu.eq_2) (And.intro @Zu.eq_3 @Zu.eq_4)) (And.intro (And.intro @Zu.eq_5 @Zv.eq_1) (And.intro @Zv.eq_2 @Zw.eq_1)))) (And.intro (And.intro (And.intro (And.intro @Zw.eq_2 @Zw.eq_3) (And.intro @Zw.eq_4 @Zx.eq_1)) (And.intro (And.intro @Zx.eq_2 @Zx.eq_3) (And.intro @Zy.eq_1 @Zy.eq_2))) (And.intro (And.intro (And.intro @Zy.eq_3 @Zz.eq_1) (And.intro @Zz.eq_2 @Zaa.eq_1)) (And.intro (And.intro @Zab.eq_1 @Zab.eq_2) (And.intro @Zac.eq_1 (And.intro @Zac.eq_2 @Zad.eq_1)))))))) (And.intro (And.intro (And.intro (And.intro (And.intro (And.intro (And.intro @Zad.eq_2 @Zae.eq_1) (And.intro @Zae.eq_2 @Zaf.eq_1)) (And.intro (And.intro @Zaf.eq_2 @Zag.eq_1) (And.intro @Zag.eq_2 @Zag.eq_3))) (And.intro (And.intro (And.intro @Zag.eq_4 @Zag.eq_5) (And.intro @Zah.eq_1 @Zah.eq_2)) (And.intro (And.intro @Zah.eq_3 @Zai.eq_1) (And.intro @Zai.eq_2 @Zaj.eq_1)))) (And.intro (And.intro (And.intro (And.intro @Zaj.eq_2 @Zaj.eq_3) (And.intro @Zak.eq_1 @Zak.eq_2)) (And.intro (And.intro @Zak.eq_3 @Zal.eq_1) (And.intro @Zal.eq_2 @Zal.eq_3))) (And.intro (And.intro (And.intro @Zal.eq_4 @Zam.eq_1) (And.intro @Zan.eq_1 @Zao.eq_1)) (And.intro (And.intro @Zao.eq_2 @wk1.eq_1) (And.intro @wk1.eq_2 @wk.eq_1))))) (And.intro (And.intro (And.intro (And.intro (And.intro @wk.eq_2 @wk.eq_3) (And.intro @Zap.eq_1 @Zap.eq_2)) (And.intro (And.intro @Zap.eq_3 @Zaq.eq_1) (And.intro @Zar.eq_1 @Zas.eq_1))) (And.intro (And.intro (And.intro @Zas.eq_2 @Zat.eq_1) (And.intro @Zat.eq_2 @Zau.eq_1)) (And.intro (And.intro @Zau.eq_2 @Zav.eq_1) (And.intro @Zaw.eq_1 @Zaw.eq_2)))) (And.intro (And.intro (And.intro (And.intro @AV.kill.eq_1 @AV.kill.eq_2) (And.intro @AV.kill.eq_3 @AV.kill.eq_4)) (And.intro (And.intro @AV.kill.eq_5 @AV.kill.eq_6) (And.intro @AV.kill.eq_7 @AV.kill.eq_8))) (And.intro (And.intro (And.intro @AV.kill.eq_9 @AV.kill.eq_10) (And.intro @AO.kill.eq_1 @AO.kill.eq_2)) (And.intro (And.intro @AO.kill.eq_3 @AO.kill.eq_4) (And.intro @AO.kill.eq_5 @AO.kill.eq_6)))))) (And.intro (And.intro (And.intro (And.intro (And.intro (And.intro @AV.thaw.eq_1 @AV.thaw.eq_2) (And.intro @AV.thaw.eq_3 @AV.thaw.eq_4)) (And.intro (And.intro @AV.thaw.eq_5 @AV.thaw.eq_6) (And.intro @AV.thaw.eq_7 @AV.thaw.eq_8))) (And.intro (And.intro (And.intro @AV.thaw.eq_9 @AV.thaw.eq_10) (And.intro @Zax.eq_1 @Zax.eq_2)) (And.intro (And.intro @AO.thaw.eq_1 @AO.thaw.eq_2) (And.intro @AO.thaw.eq_3 @AO.thaw.eq_4)))) (And.intro (And.intro (And.intro (And.intro @AO.thaw.eq_5 @AO.thaw.eq_6) (And.intro @Zay.eq_1 @Zay.eq_2)) (And.intro (And.intro @Zay.eq_3 @Zay.eq_4) (And.intro @Zaz.eq_1 @Zaz.eq_2))) (And.intro (And.intro (And.intro @Zba.eq_1 @Zba.eq_2) (And.intro @Zbb.eq_1 @Zbb.eq_2)) (And.intro (And.intro @Zbc.eq_1 @Zbc.eq_2) (And.intro @Zbd.eq_1 @Zbd.eq_2))))) (And.intro (And.intro (And.intro (And.intro (And.intro @Zbe.eq_1 @Zbe.eq_2) (And.intro @Zbf.eq_1 @Zbf.eq_2)) (And.intro (And.intro @Zbf.eq_3 @Zbf.eq_4) (And.intro @Zbg.eq_1 @Zbg.eq_2))) (And.intro (And.intro (And.intro @Zbh.eq_1 @Zbh.eq_2) (And.intro @Zbi.eq_1 @Zbi.eq_2)) (And.intro (And.intro @Zbi.eq_3 @Zbi.eq_4) (And.intro @Zbi.eq_5 @Zbi.eq_6)))) (And.intro (And.intro (And.intro (And.intro @Zbj.eq_1 @Zbj.eq_2) (And.intro @Zbj.eq_3 @Zbj.eq_4)) (And.intro (And.intro @Zbj.eq_5 @Zbj.eq_6) (And.intro @Zbk.eq_1 @Zbk.eq_2))) (And.intro (And.intro (And.intro @Zbk.eq_3 @Zbk.eq_4) (And.intro @Zbk.eq_5 @Zbk.eq_6)) (And.intro (And.intro @Zbl.eq_1 @Zbl.eq_2) (And.intro @FclK_some (And.intro @argP0_nil @argP0_p)))))))))


/- paperchase/base.In -/
def ir_base_In : IC :=
  (.seq (.reg [⟨some 6, .mov (.c (.bool false)), none⟩])
    (.seq (.reg [⟨some 7, .mov (.t 0), none⟩,
      ⟨some 8, .mov (.t 1), none⟩,
      ⟨some 9, .bin .geq (.t 7) (.t 8), none⟩,
      ⟨some 10, .mov (.t 9), none⟩,
      ⟨some 11, .mov (.t 0), (some (10, true))⟩,
      ⟨some 12, .mov (.t 2), (some (10, true))⟩,
      ⟨some 13, .bin .leq (.t 11) (.t 12), (some (10, true))⟩,
      ⟨some 14, .pick (.t 10) (.t 13) (.c (.bool false)), none⟩,
      ⟨some 6, .mov (.t 14), none⟩])
    .ret))
def rs_base_In : List IRes := [.t 6]
theorem ck_base_In : chkF Tryz.prog Tryz.f71 ir_base_In rs_base_In 15 = true := by kernel_rfl
/- paperchase/base.When -/
def ir_base_When : IC :=
  (.seq (.reg [⟨some 4, .mov (.c (.int .i64 0)), none⟩])
    (.seq (.seq (.reg [⟨some 5, .mov (.t 0), none⟩])
    (.cond (.t 5) (.seq (.reg [⟨some 6, .mov (.t 1), none⟩,
      ⟨some 4, .mov (.t 6), none⟩])
    .ret) .skip))
    (.seq (.reg [⟨some 4, .mov (.c (.int .i64 0)), none⟩])
    .ret)))
def rs_base_When : List IRes := [.t 4]
theorem ck_base_When : chkF Tryz.prog Tryz.f69 ir_base_When rs_base_When 7 = true := by kernel_rfl
/- paperchase/base.First -/
def ir_base_First_L0 : IC :=
  (.seq (.reg [⟨some 8, .bin .lss (.t 7) (.t 6), none⟩])
    (.seq (.cond (.t 8) .skip (.exit 0))
    (.seq (.block 1 (.seq (.reg [⟨some 9, .ixa 1 (.t 5) (.t 7), none⟩,
      ⟨some 10, .ld 1 false (.t 9), none⟩,
      ⟨some 4, .mov (.t 10), none⟩])
    (.seq (.reg [⟨some 11, .mov (.t 4), none⟩,
      ⟨some 12, .bin .neq (.t 11) (.c (.int .i64 0)), none⟩])
    (.cond (.t 12) (.seq (.reg [⟨some 13, .mov (.t 4), none⟩,
      ⟨some 2, .mov (.t 13), none⟩])
    .ret) .skip))))
    (.reg [⟨some 14, .bin .add (.t 7) (.c (.int .i64 1)), none⟩,
      ⟨some 7, .mov (.t 14), none⟩]))))
def ir_base_First : IC :=
  (.seq (.reg [⟨some 2, .mov (.c (.int .i64 0)), none⟩])
    (.seq (.seq (.reg [⟨some 5, .mov (.t 0), none⟩,
      ⟨some 6, .len (.t 5), none⟩,
      ⟨some 7, .mov (.c (.int .i64 0)), none⟩])
    (.block 0 (.loop ir_base_First_L0)))
    (.seq (.reg [⟨some 2, .mov (.c (.int .i64 0)), none⟩])
    .ret)))
def rs_base_First : List IRes := [.t 2]
theorem ck_base_First : chkF Tryz.prog Tryz.f66 ir_base_First rs_base_First 15 = true := by kernel_rfl
/- paperchase/chasemake.Below -/
def ir_chasemake_Below : IC :=
  (.seq (.reg [⟨some 4, .mov (.c (.int .i64 0)), none⟩])
    (.seq (.seq (.reg [⟨some 5, .mov (.t 1), none⟩,
      ⟨some 6, .bin .lss (.t 5) (.c (.int .i64 1)), none⟩])
    (.cond (.t 6) (.seq (.reg [⟨some 4, .mov (.c (.int .i64 0)), none⟩])
    .ret) .skip))
    (.seq (.reg [⟨some 7, .mov (.t 0), none⟩,
      ⟨some 8, .mov (.t 1), none⟩,
      ⟨some 9, .bin .rem (.t 7) (.t 8), none⟩,
      ⟨some 0, .mov (.t 9), none⟩])
    (.seq (.seq (.reg [⟨some 10, .mov (.t 0), none⟩,
      ⟨some 11, .bin .lss (.t 10) (.c (.int .i64 0)), none⟩])
    (.cond (.t 11) (.reg [⟨some 12, .mov (.t 0), none⟩,
      ⟨some 13, .mov (.t 1), none⟩,
      ⟨some 14, .bin .add (.t 12) (.t 13), none⟩,
      ⟨some 0, .mov (.t 14), none⟩]) .skip))
    (.cut (.seq (.reg [⟨some 15, .mov (.t 0), none⟩,
      ⟨some 4, .mov (.t 15), none⟩])
    .ret))))))
def rs_chasemake_Below : List IRes := [.t 4]
theorem ck_chasemake_Below : chkF Tryz.prog Tryz.f30 ir_chasemake_Below rs_chasemake_Below 16 = true := by kernel_rfl
/- (*paperchase/chasemake.Stream).Next -/
def ir_chasemake_Stream_Next : IC :=
  (.seq (.reg [⟨some 4, .mov (.c (.int .i64 0)), none⟩])
    (.seq (.reg [⟨some 7, .mov (.t 0), none⟩,
      ⟨some 8, .nck (.t 7), none⟩,
      ⟨some 9, .fla 1 (.t 8), none⟩,
      ⟨some 10, .ld 1 false (.t 9), none⟩,
      ⟨some 11, .bin .add (.t 10) (.c (.int .i64 1)), none⟩,
      ⟨some 12, .nck (.t 7), none⟩,
      ⟨some 13, .fla 1 (.t 12), none⟩,
      ⟨none, .st 1 (.t 13) (.t 11), none⟩])
    (.seq (.seq (.reg [⟨some 14, .mov (.t 0), none⟩,
      ⟨some 15, .nck (.t 14), none⟩,
      ⟨some 16, .fla 0 (.t 15), none⟩,
      ⟨some 17, .ld 1 false (.t 16), none⟩,
      ⟨some 18, .len (.t 17), none⟩,
      ⟨some 19, .bin .eql (.t 18) (.c (.int .i64 0)), none⟩])
    (.cond (.t 19) (.seq (.reg [⟨some 20, .mov (.t 0), none⟩,
      ⟨some 21, .nck (.t 20), none⟩,
      ⟨some 22, .fla 1 (.t 21), none⟩,
      ⟨some 23, .ld 1 false (.t 22), none⟩,
      ⟨some 24, .bin .mul (.t 23) (.c (.int .i64 7919)), none⟩,
      ⟨some 25, .mov (.t 1), none⟩,
      ⟨some 26, .call 30 [.t 24, .t 25], none⟩,
      ⟨some 4, .mov (.t 26), none⟩])
    .ret) .skip))
    (.seq (.drg [⟨some 27, .mov (.t 0), none⟩,
      ⟨some 28, .nck (.t 27), none⟩,
      ⟨some 29, .fla 1 (.t 28), none⟩,
      ⟨some 30, .ld 1 false (.t 29), none⟩,
      ⟨some 31, .bin .sub (.t 30) (.c (.int .i64 1)), none⟩,
      ⟨some 32, .mov (.t 0), none⟩,
      ⟨some 33, .nck (.t 32), none⟩,
      ⟨some 34, .fla 0 (.t 33), none⟩,
      ⟨some 35, .ld 1 false (.t 34), none⟩,
      ⟨some 36, .len (.t 35), none⟩,
      ⟨some 37, .bin .rem (.t 31) (.t 36), none⟩,
      ⟨some 5, .mov (.t 37), none⟩])
    (.seq (.drg [⟨some 38, .mov (.t 0), none⟩,
      ⟨some 39, .nck (.t 38), none⟩,
      ⟨some 40, .fla 1 (.t 39), none⟩,
      ⟨some 41, .ld 1 false (.t 40), none⟩,
      ⟨some 42, .bin .sub (.t 41) (.c (.int .i64 1)), none⟩,
      ⟨some 43, .mov (.t 0), none⟩,
      ⟨some 44, .nck (.t 43), none⟩,
      ⟨some 45, .fla 0 (.t 44), none⟩,
      ⟨some 46, .ld 1 false (.t 45), none⟩,
      ⟨some 47, .len (.t 46), none⟩,
      ⟨some 48, .bin .quo (.t 42) (.t 47), none⟩,
      ⟨some 6, .mov (.t 48), none⟩])
    (.seq (.reg [⟨some 49, .mov (.t 0), none⟩,
      ⟨some 50, .nck (.t 49), none⟩,
      ⟨some 51, .fla 0 (.t 50), none⟩,
      ⟨some 52, .ld 1 false (.t 51), none⟩,
      ⟨some 53, .mov (.t 5), none⟩,
      ⟨some 54, .ixa 1 (.t 52) (.t 53), none⟩,
      ⟨some 55, .ld 1 false (.t 54), none⟩,
      ⟨some 56, .call 30 [.t 55, .c (.int .i64 1073741824)], none⟩,
      ⟨some 57, .mov (.t 6), none⟩,
      ⟨some 58, .mov (.t 5), none⟩,
      ⟨some 59, .bin .add (.c (.int .i64 7919)) (.t 58), none⟩,
      ⟨some 60, .bin .mul (.t 57) (.t 59), none⟩,
      ⟨some 61, .bin .add (.t 56) (.t 60), none⟩,
      ⟨some 62, .mov (.t 1), none⟩,
      ⟨some 63, .call 30 [.t 61, .t 62], none⟩,
      ⟨some 4, .mov (.t 63), none⟩])
    .ret))))))
def rs_chasemake_Stream_Next : List IRes := [.t 4]
theorem ck_chasemake_Stream_Next : chkF Tryz.prog Tryz.f58 ir_chasemake_Stream_Next rs_chasemake_Stream_Next 64 = true := by kernel_rfl
/- (*paperchase/chasemake.Stream).Flip -/
def ir_chasemake_Stream_Flip : IC :=
  (.seq (.reg [⟨some 4, .mov (.c (.bool false)), none⟩])
    (.seq (.reg [⟨some 5, .mov (.t 0), none⟩,
      ⟨some 6, .mov (.t 1), none⟩,
      ⟨some 7, .call 58 [.t 5, .t 6], none⟩,
      ⟨some 8, .bin .eql (.t 7) (.c (.int .i64 0)), none⟩,
      ⟨some 4, .mov (.t 8), none⟩])
    .ret))
def rs_chasemake_Stream_Flip : List IRes := [.t 4]
theorem ck_chasemake_Stream_Flip : chkF Tryz.prog Tryz.f44 ir_chasemake_Stream_Flip rs_chasemake_Stream_Flip 9 = true := by kernel_rfl
/- (*paperchase/chasemake.Stream).Range -/
def ir_chasemake_Stream_Range : IC :=
  (.seq (.reg [⟨some 6, .mov (.c (.int .i64 0)), none⟩])
    (.seq (.seq (.reg [⟨some 7, .mov (.t 2), none⟩,
      ⟨some 8, .mov (.t 1), none⟩,
      ⟨some 9, .bin .lss (.t 7) (.t 8), none⟩])
    (.cond (.t 9) (.seq (.reg [⟨some 10, .mov (.t 1), none⟩,
      ⟨some 6, .mov (.t 10), none⟩])
    .ret) .skip))
    (.seq (.reg [⟨some 11, .mov (.t 1), none⟩,
      ⟨some 12, .mov (.t 0), none⟩,
      ⟨some 13, .mov (.t 2), none⟩,
      ⟨some 14, .mov (.t 1), none⟩,
      ⟨some 15, .bin .sub (.t 13) (.t 14), none⟩,
      ⟨some 16, .bin .add (.t 15) (.c (.int .i64 1)), none⟩,
      ⟨some 17, .call 58 [.t 12, .t 16], none⟩,
      ⟨some 18, .bin .add (.t 11) (.t 17), none⟩,
      ⟨some 6, .mov (.t 18), none⟩])
    .ret)))
def rs_chasemake_Stream_Range : List IRes := [.t 6]
theorem ck_chasemake_Stream_Range : chkF Tryz.prog Tryz.f19 ir_chasemake_Stream_Range rs_chasemake_Stream_Range 19 = true := by kernel_rfl
/- (*paperchase/chasemake.Stream).Pick -/
def ir_chasemake_Stream_Pick : IC :=
  (.seq (.reg [⟨some 4, .mov (.c (.int .i64 0)), none⟩])
    (.seq (.reg [⟨some 5, .mov (.t 1), none⟩,
      ⟨some 6, .mov (.t 0), none⟩,
      ⟨some 7, .mov (.t 1), none⟩,
      ⟨some 8, .len (.t 7), none⟩,
      ⟨some 9, .call 58 [.t 6, .t 8], none⟩,
      ⟨some 10, .ixa 1 (.t 5) (.t 9), none⟩,
      ⟨some 11, .ld 1 false (.t 10), none⟩,
      ⟨some 4, .mov (.t 11), none⟩])
    .ret))
def rs_chasemake_Stream_Pick : List IRes := [.t 4]
theorem ck_chasemake_Stream_Pick : chkF Tryz.prog Tryz.f59 ir_chasemake_Stream_Pick rs_chasemake_Stream_Pick 12 = true := by kernel_rfl
/- (*paperchase/chasemake.Stream).h06one -/
def ir_chasemake_Stream_h06one : IC :=
  (.seq (.reg [⟨some 4, .mov (.c (.str [])), none⟩])
    (.seq (.reg [⟨some 5, .mov (.t 1), none⟩,
      ⟨some 6, .mov (.t 0), none⟩,
      ⟨some 7, .mov (.t 1), none⟩,
      ⟨some 8, .len (.t 7), none⟩,
      ⟨some 9, .call 58 [.t 6, .t 8], none⟩,
      ⟨some 10, .ixa 1 (.t 5) (.t 9), none⟩,
      ⟨some 11, .ld 1 false (.t 10), none⟩,
      ⟨some 4, .mov (.t 11), none⟩])
    .ret))
def rs_chasemake_Stream_h06one : List IRes := [.t 4]
theorem ck_chasemake_Stream_h06one : chkF Tryz.prog Tryz.f45 ir_chasemake_Stream_h06one rs_chasemake_Stream_h06one 12 = true := by kernel_rfl


section
variable {E : Envt}

def inE (n lo hi : Int) : Bool := decide (lo ≤ n) && decide (n ≤ hi)
theorem In_ok (n lo hi : Int) : PCall Tryz.prog E 71 [int n, int lo, int hi] (· = .bool (inE n lo hi)) := by
  refine pcallF mixed Tryz.func71 ck_base_In ?_
  simp only [a0, l0, OS.ao, List.map_cons, List.map_nil, List.length_cons, List.length_nil, List.cons_append, List.nil_append, Nat.reduceSub, Nat.reduceAdd, List.replicate_succ, List.replicate_zero, ir_base_In, rs_base_In, ZZ, YY, Ze, ite_true, ite_false, forall_const, reduceCtorEq, Nat.reduceAdd, Nat.reduceMul, Nat.reduceLeDiff, Nat.reduceLT, Nat.reduceEqDiff]
  rfl
def whenE (b : Bool) (e : Int) : Int := if b = true then e else 0
theorem When_ok (b : Bool) (e : Int) : PCall Tryz.prog E 69 [.bool b, int e] (· = int (whenE b e)) := by
  refine pcallF mixed Tryz.func69 ck_base_When ?_
  simp only [a0, l0, OS.ao, List.map_cons, List.map_nil, List.length_cons, List.length_nil, List.cons_append, List.nil_append, Nat.reduceSub, Nat.reduceAdd, List.replicate_succ, List.replicate_zero, ir_base_When, rs_base_When, ZZ, YY, Ze, ite_true, ite_false, forall_const, reduceCtorEq, Nat.reduceAdd, Nat.reduceMul, Nat.reduceLeDiff, Nat.reduceLT, Nat.reduceEqDiff]
  refine br ?_ ?_
  all_goals
    rintro rfl
    simp only [ZZ, YY, Ze, ite_true, ite_false, forall_const, reduceCtorEq, Nat.reduceAdd, Nat.reduceMul, Nat.reduceLeDiff, Nat.reduceLT, Nat.reduceEqDiff]
    rfl
def firstE : List Int → Int
  | [] => 0
  | e :: r => if e = 0 then firstE r else e
theorem firstE_drop (l : List Int) (k : Nat) (x : Int) (h : l[k]? = some x) : firstE (l.drop k) = if x = 0 then firstE (l.drop (k + 1)) else x := by
  have hk := (List.getElem?_eq_some_iff.1 h).1
  rw [List.drop_eq_getElem_cons hk, (List.getElem?_eq_some_iff.1 h).2]
  rfl
theorem First_ok (l : List Int) (hl : l.length ≤ 1000000) : PCall Tryz.prog E 66 [ints l] (· = int (firstE l)) := by
  refine pcallF mixed Tryz.func66 ck_base_First ?_
  simp only [a0, l0, OS.ao, List.map_cons, List.map_nil, List.length_cons, List.length_nil, List.cons_append, List.nil_append, Nat.reduceSub, Nat.reduceAdd, List.replicate_succ, List.replicate_zero, ir_base_First, rs_base_First, ZZ, YY, Ze, ite_true, ite_false, forall_const, reduceCtorEq, Nat.reduceAdd, Nat.reduceMul, Nat.reduceLeDiff, Nat.reduceLT, Nat.reduceEqDiff]
  simp only [ints, ZZ, YY, Ze, ite_true, ite_false, forall_const, reduceCtorEq, Nat.reduceAdd, Nat.reduceMul, Nat.reduceLeDiff, Nat.reduceLT, Nat.reduceEqDiff]
  generalize hes : l.map (fun x => [PV.int IntKind.i64 x]) = es
  have hln : es.length = l.length := by rw [← hes]; simp
  refine loop_intro (fun n fr L => ∃ k : Nat, k ≤ l.length ∧ n = l.length - k ∧ firstE l = firstE (l.drop k) ∧ fr = [.p (.sl 1 es), .any, .any, .any, .any, .p (.sl 1 es), .p (int (es.length : Nat)), .p (int (k : Nat)), .any, .any, .any, .any, .any, .any, .any] ∧ L = []) l.length [.p (.sl 1 es), .any, .any, .any, .any, .p (.sl 1 es), .p (int (es.length : Nat)), .p (int (0 : Nat)), .any, .any, .any, .any, .any, .any, .any] [] ?_ ?_ ⟨0, by omega, by omega, rfl, rfl, rfl⟩ ?_
  · (simp only [ZZ, YY, Ze, ite_true, ite_false, forall_const, reduceCtorEq, Nat.reduceAdd, Nat.reduceMul, Nat.reduceLeDiff, Nat.reduceLT, Nat.reduceEqDiff]; try trivial)
  · simp only [ZZ, YY, Ze, ite_true, ite_false, forall_const, reduceCtorEq, Nat.reduceAdd, Nat.reduceMul, Nat.reduceLeDiff, Nat.reduceLT, Nat.reduceEqDiff]
  rintro n fr L ⟨k, hk, rfl, hf, rfl, rfl⟩
  simp only [ir_base_First_L0, ZZ, YY, Ze, ite_true, ite_false, forall_const, reduceCtorEq, Nat.reduceAdd, Nat.reduceMul, Nat.reduceLeDiff, Nat.reduceLT, Nat.reduceEqDiff]
  refine br ?_ ?_
  · intro h
    have hlt : k < l.length := by have := of_decide_eq_true h; omega
    obtain ⟨x, hx⟩ : ∃ x, l[k]? = some x := ⟨_, List.getElem?_eq_getElem hlt⟩
    have hg : es.getD k [] = [PV.int .i64 x] := by rw [← hes]; exact getD_map hx
    have hd := firstE_drop l k x hx
    simp only [ZZ, YY, Ze, ite_true, ite_false, forall_const, reduceCtorEq, Nat.reduceAdd, Nat.reduceMul, Nat.reduceLeDiff, Nat.reduceLT, Nat.reduceEqDiff, hg]
    refine ⟨by omega, by omega, ?_⟩
    refine br ?_ ?_
    · intro h2
      simp only [ZZ, YY, Ze, ite_true, ite_false, forall_const, reduceCtorEq, Nat.reduceAdd, Nat.reduceMul, Nat.reduceLeDiff, Nat.reduceLT, Nat.reduceEqDiff]
      rw [hf, hd, if_neg (by simpa using h2)]
    · intro h2
      simp only [ZZ, YY, Ze, ite_true, ite_false, forall_const, reduceCtorEq, Nat.reduceAdd, Nat.reduceMul, Nat.reduceLeDiff, Nat.reduceLT, Nat.reduceEqDiff]
      refine ⟨i64_of (by omega) (by omega), ?_⟩
      refine end_round (l.length - (k + 1)) [.p (.sl 1 es), .any, .any, .any, .any, .p (.sl 1 es), .p (int (es.length : Nat)), .p (int ((k + 1 : Nat))), .any, .any, .any, .any, .any, .any, .any] [] (by omega) ?_ ?_ ⟨k + 1, by omega, rfl, by rw [hf, hd, if_pos (by simpa using h2)], rfl, rfl⟩
      · (simp only [ZZ, YY, Ze, ite_true, ite_false, forall_const, reduceCtorEq, Nat.reduceAdd, Nat.reduceMul, Nat.reduceLeDiff, Nat.reduceLT, Nat.reduceEqDiff]; try trivial)
      · simp only [ZZ, YY, Ze, ite_true, ite_false, forall_const, reduceCtorEq, Nat.reduceAdd, Nat.reduceMul, Nat.reduceLeDiff, Nat.reduceLT, Nat.reduceEqDiff]
  · intro h
    have hge : l.length ≤ k := by have := of_decide_eq_false h; omega
    simp only [ZZ, YY, Ze, ite_true, ite_false, forall_const, reduceCtorEq, Nat.reduceAdd, Nat.reduceMul, Nat.reduceLeDiff, Nat.reduceLT, Nat.reduceEqDiff]
    rw [hf, List.drop_eq_nil_of_le hge]
    rfl

/-- chasemake.Below. -/
def below (x n : Int) : Int := if n < 1 then 0 else x % n
theorem below_lo (x n : Int) : 0 ≤ below x n := by
  unfold below
  split
  · omega
  · exact Int.emod_nonneg x (by omega)
theorem below_hi (x n : Int) (h : 1 ≤ n) : below x n < n := by
  unfold below
  rw [if_neg (by omega)]
  exact Int.emod_lt_of_pos x (by omega)
theorem tmod_cases (x n : Int) (hn : 1 ≤ n) : x % n = if x.tmod n < 0 then x.tmod n + n else x.tmod n := by
  have h2 := Int.emod_nonneg x (show n ≠ 0 by omega)
  have h3 := Int.emod_lt_of_pos x (show 0 < n by omega)
  rw [Int.tmod_eq_emod]
  split <;> split at * <;> omega
theorem tmod_bd (x n : Int) (hn : 1 ≤ n) : -n < x.tmod n ∧ x.tmod n < n := by
  have h2 := Int.emod_nonneg x (show n ≠ 0 by omega)
  have h3 := Int.emod_lt_of_pos x (show 0 < n by omega)
  rw [Int.tmod_eq_emod]
  split <;> omega
theorem Below_ok (x n : Int) (h2 : n ≤ 9223372036854775807) : PCall Tryz.prog E 30 [int x, int n] (· = int (below x n)) := by
  refine pcallF mixed Tryz.func30 ck_chasemake_Below ?_
  simp only [a0, l0, OS.ao, List.map_cons, List.map_nil, List.length_cons, List.length_nil, List.cons_append, List.nil_append, Nat.reduceSub, Nat.reduceAdd, List.replicate_succ, List.replicate_zero, ir_chasemake_Below, rs_chasemake_Below, ZZ, YY, Ze, ite_true, ite_false, forall_const, reduceCtorEq, Nat.reduceAdd, Nat.reduceMul, Nat.reduceLeDiff, Nat.reduceLT, Nat.reduceEqDiff]
  refine br ?_ ?_
  · intro h
    simp only [ZZ, YY, Ze, ite_true, ite_false, forall_const, reduceCtorEq, Nat.reduceAdd, Nat.reduceMul, Nat.reduceLeDiff, Nat.reduceLT, Nat.reduceEqDiff]
    have : n < 1 := of_decide_eq_true h
    simp [below, this]
  · intro h
    have hn : ¬ n < 1 := of_decide_eq_false h
    have hb := tmod_bd x n (by omega)
    have hc := tmod_cases x n (by omega)
    simp only [ZZ, YY, Ze, ite_true, ite_false, forall_const, reduceCtorEq, Nat.reduceAdd, Nat.reduceMul, Nat.reduceLeDiff, Nat.reduceLT, Nat.reduceEqDiff]
    refine ⟨by omega, ?_⟩
    refine br_join (fun fr L => ∃ y, y = x % n ∧ fr = [.p (int y), .any, .any, .any, .any, .any, .any, .any, .any, .any, .any, .any, .any, .any, .any, .any] ∧ L = []) ?_ ?_ ?_
    · intro h1
      have h1 := of_decide_eq_true h1
      simp only [ZZ, YY, Ze, ite_true, ite_false, forall_const, reduceCtorEq, Nat.reduceAdd, Nat.reduceMul, Nat.reduceLeDiff, Nat.reduceLT, Nat.reduceEqDiff]
      refine ⟨i64_of (by omega) (by omega), to_mid [.p (int (x.tmod n + n)), .any, .any, .any, .any, .any, .any, .any, .any, .any, .any, .any, .any, .any, .any, .any] [] ?_ ?_ ⟨_, by rw [hc, if_pos h1], rfl, rfl⟩⟩
      · (simp only [ZZ, YY, Ze, ite_true, ite_false, forall_const, reduceCtorEq, Nat.reduceAdd, Nat.reduceMul, Nat.reduceLeDiff, Nat.reduceLT, Nat.reduceEqDiff]; try trivial)
      · simp only [ZZ, YY, Ze, ite_true, ite_false, forall_const, reduceCtorEq, Nat.reduceAdd, Nat.reduceMul, Nat.reduceLeDiff, Nat.reduceLT, Nat.reduceEqDiff]
    · intro h1
      have h1 := of_decide_eq_false h1
      simp only [ZZ, YY, Ze, ite_true, ite_false, forall_const, reduceCtorEq, Nat.reduceAdd, Nat.reduceMul, Nat.reduceLeDiff, Nat.reduceLT, Nat.reduceEqDiff]
      refine to_mid [.p (int (x.tmod n)), .any, .any, .any, .any, .any, .any, .any, .any, .any, .any, .any, .any, .any, .any, .any] [] ?_ ?_ ⟨_, by rw [hc, if_neg h1], rfl, rfl⟩
      · (simp only [ZZ, YY, Ze, ite_true, ite_false, forall_const, reduceCtorEq, Nat.reduceAdd, Nat.reduceMul, Nat.reduceLeDiff, Nat.reduceLT, Nat.reduceEqDiff]; try trivial)
      · simp only [ZZ, YY, Ze, ite_true, ite_false, forall_const, reduceCtorEq, Nat.reduceAdd, Nat.reduceMul, Nat.reduceLeDiff, Nat.reduceLT, Nat.reduceEqDiff]
    · rintro fr L ⟨y, rfl, rfl, rfl⟩
      simp only [ZZ, YY, Ze, ite_true, ite_false, forall_const, reduceCtorEq, Nat.reduceAdd, Nat.reduceMul, Nat.reduceLeDiff, Nat.reduceLT, Nat.reduceEqDiff]
      simp [below, hn]

/-- The stream's cells. -/
def stm (l : List Int) (k : Nat) : List PV := [ints l, int k]
abbrev T : TypeId := 25
theorem Next_ok (l : List Int) (k : Nat) (n : Int) (hk : k ≤ 1000000) (hl : l.length ≤ 9223372036854775807) (h2 : n ≤ 9223372036854775807) :
    SCall Tryz.prog E 58 T (stm l k) [int n] (fun x cs' => ∃ y, x = int (below y n) ∧ cs' = stm l (k + 1)) := by
  unfold SCall
  refine gcallP mixed Tryz.func58 ck_chasemake_Stream_Next ?_
  simp only [a0, l0, OS.ao, List.map_cons, List.map_nil, List.length_cons, List.length_nil, List.cons_append, List.nil_append, Nat.reduceSub, Nat.reduceAdd, List.replicate_succ, List.replicate_zero, stm, ir_chasemake_Stream_Next, rs_chasemake_Stream_Next, ZZ, YY, Ze, ite_true, ite_false, forall_const, reduceCtorEq, Nat.reduceAdd, Nat.reduceMul, Nat.reduceLeDiff, Nat.reduceLT, Nat.reduceEqDiff]
  refine ⟨i64_of (by omega) (by omega), ?_⟩
  simp only [ints, ZZ, YY, Ze, ite_true, ite_false, forall_const, reduceCtorEq, Nat.reduceAdd, Nat.reduceMul, Nat.reduceLeDiff, Nat.reduceLT, Nat.reduceEqDiff]
  generalize hes : l.map (fun x => [PV.int IntKind.i64 x]) = es
  have hln : es.length = l.length := by rw [← hes]; simp
  have hc : [PV.sl 1 es, int ((k : Int) + 1)] = [PV.sl 1 es, int ((k + 1 : Nat) : Int)] := by simp
  refine br ?_ ?_
  · intro h
    simp only [ZZ, YY, Ze, ite_true, ite_false, forall_const, reduceCtorEq, Nat.reduceAdd, Nat.reduceMul, Nat.reduceLeDiff, Nat.reduceLT, Nat.reduceEqDiff]
    refine ⟨i64_of (by omega) (by omega), ?_⟩
    refine use1 (Below_ok _ _ h2) rfl (.inl rfl) ?_
    simp only [ZZ, YY, Ze, ite_true, ite_false, forall_const, reduceCtorEq, Nat.reduceAdd, Nat.reduceMul, Nat.reduceLeDiff, Nat.reduceLT, Nat.reduceEqDiff]
    exact fin_S [PV.sl 1 es, int ((k : Int) + 1)] rfl ⟨_, rfl, hc⟩
  · intro h
    have hne : ¬ ((es.length : Int) = 0) := of_decide_eq_false h
    simp only [ZZ, YY, Ze, ite_true, ite_false, forall_const, reduceCtorEq, Nat.reduceAdd, Nat.reduceMul, Nat.reduceLeDiff, Nat.reduceLT, Nat.reduceEqDiff]
    refine drg0 ?_
    simp only [ZZ, YY, Ze, ite_true, ite_false, forall_const, reduceCtorEq, Nat.reduceAdd, Nat.reduceMul, Nat.reduceLeDiff, Nat.reduceLT, Nat.reduceEqDiff]
    refine ⟨i64_of (by omega) (by omega), ⟨by omega, ?_⟩⟩
    refine drg0 ?_
    have hkk : (k : Int) + 1 - 1 = k := by omega
    have hrem : (k : Int).tmod (es.length : Int) = ((k % es.length : Nat) : Int) := by rw [Int.tmod_eq_emod_of_nonneg (by omega)]; rfl
    have hquo : (k : Int).tdiv (es.length : Int) = ((k / es.length : Nat) : Int) := by rw [Int.tdiv_eq_ediv_of_nonneg (by omega)]; rfl
    have hq1 : k / es.length ≤ k := Nat.div_le_self _ _
    have hr1 : k % es.length ≤ k := Nat.mod_le _ _
    have hr2 : k % es.length < es.length := Nat.mod_lt _ (by omega)
    obtain ⟨x, hx⟩ : ∃ x, l[k % es.length]? = some x := ⟨_, List.getElem?_eq_getElem (by omega)⟩
    have hg : es.getD (k % es.length) [] = [PV.int .i64 x] := by rw [← hes]; exact getD_map (by rw [hes]; exact hx)
    simp only [ZZ, YY, Ze, ite_true, ite_false, forall_const, reduceCtorEq, Nat.reduceAdd, Nat.reduceMul, Nat.reduceLeDiff, Nat.reduceLT, Nat.reduceEqDiff, hkk, hrem, hquo, hg]
    generalize k / es.length = q at *
    generalize k % es.length = r at *
    refine ⟨i64_of (by omega) (by omega), ⟨hne, i64_of (by omega) (by omega)⟩, ⟨by omega, by omega⟩, by omega, ?_⟩
    refine use1 (Below_ok _ _ (by decide)) rfl (.inl rfl) ?_
    have hb1 := below_lo x 1073741824
    have hb2 := below_hi x 1073741824 (by omega)
    have hm : (q : Int) * (7919 + (r : Int)) ≤ 1000000 * 1007919 := Int.mul_le_mul (by omega) (by omega) (by omega) (by omega)
    have hm0 : 0 ≤ (q : Int) * (7919 + (r : Int)) := Int.mul_nonneg (by omega) (by omega)
    simp only [ZZ, YY, Ze, ite_true, ite_false, forall_const, reduceCtorEq, Nat.reduceAdd, Nat.reduceMul, Nat.reduceLeDiff, Nat.reduceLT, Nat.reduceEqDiff]
    refine ⟨i64_of (by omega) (by omega), i64_of (by omega) (by omega), i64_of (by omega) (by omega), ?_⟩
    refine use1 (Below_ok _ _ h2) rfl (.inl rfl) ?_
    simp only [ZZ, YY, Ze, ite_true, ite_false, forall_const, reduceCtorEq, Nat.reduceAdd, Nat.reduceMul, Nat.reduceLeDiff, Nat.reduceLT, Nat.reduceEqDiff]
    exact fin_S [PV.sl 1 es, int ((k : Int) + 1)] rfl ⟨_, rfl, hc⟩

theorem below_idx (x : Int) (n : Nat) (hn : 0 < n) : ∃ i : Nat, i < n ∧ below x n = i := by
  have h0 := below_lo x n
  have h1 := below_hi x n (by omega)
  exact ⟨(below x n).toNat, by omega, by omega⟩

theorem Flip_ok (l : List Int) (k : Nat) (n : Int) (hk : k ≤ 1000000) (hl : l.length ≤ 9223372036854775807) (h2 : n ≤ 9223372036854775807) :
    SCall Tryz.prog E 44 T (stm l k) [int n] (fun x cs' => ∃ b, x = .bool b ∧ cs' = stm l (k + 1)) := by
  unfold SCall
  refine gcallP mixed Tryz.func44 ck_chasemake_Stream_Flip ?_
  simp only [a0, l0, OS.ao, List.map_cons, List.map_nil, List.length_cons, List.length_nil, List.cons_append, List.nil_append, Nat.reduceSub, Nat.reduceAdd, List.replicate_succ, List.replicate_zero, ir_chasemake_Stream_Flip, rs_chasemake_Stream_Flip, ZZ, YY, Ze, ite_true, ite_false, forall_const, reduceCtorEq, Nat.reduceAdd, Nat.reduceMul, Nat.reduceLeDiff, Nat.reduceLT, Nat.reduceEqDiff]
  refine useS (Next_ok l k n hk hl h2) rfl rfl rfl (by simp only [ZZ, YY, Ze, ite_true, ite_false, forall_const, reduceCtorEq, Nat.reduceAdd, Nat.reduceMul, Nat.reduceLeDiff, Nat.reduceLT, Nat.reduceEqDiff]) ?_
  rintro x cs' ⟨y, rfl, rfl⟩
  simp only [ZZ, YY, Ze, ite_true, ite_false, forall_const, reduceCtorEq, Nat.reduceAdd, Nat.reduceMul, Nat.reduceLeDiff, Nat.reduceLT, Nat.reduceEqDiff]
  exact fin_S (stm l (k + 1)) rfl ⟨_, rfl, rfl⟩

theorem Range_ok (l : List Int) (k : Nat) (lo hi : Int) (hk : k ≤ 1000000) (hl : l.length ≤ 9223372036854775807) (h1 : -1000000000 ≤ lo) (h2 : lo ≤ hi) (h3 : hi ≤ 1000000000) :
    SCall Tryz.prog E 19 T (stm l k) [int lo, int hi] (fun x cs' => ∃ y, x = int y ∧ lo ≤ y ∧ y ≤ hi ∧ cs' = stm l (k + 1)) := by
  unfold SCall
  refine gcallP mixed Tryz.func19 ck_chasemake_Stream_Range ?_
  simp only [a0, l0, OS.ao, List.map_cons, List.map_nil, List.length_cons, List.length_nil, List.cons_append, List.nil_append, Nat.reduceSub, Nat.reduceAdd, List.replicate_succ, List.replicate_zero, ir_chasemake_Stream_Range, rs_chasemake_Stream_Range, ZZ, YY, Ze, ite_true, ite_false, forall_const, reduceCtorEq, Nat.reduceAdd, Nat.reduceMul, Nat.reduceLeDiff, Nat.reduceLT, Nat.reduceEqDiff]
  refine br (fun h => absurd (of_decide_eq_true h) (by omega)) ?_
  intro _
  simp only [ZZ, YY, Ze, ite_true, ite_false, forall_const, reduceCtorEq, Nat.reduceAdd, Nat.reduceMul, Nat.reduceLeDiff, Nat.reduceLT, Nat.reduceEqDiff]
  refine ⟨i64_of (by omega) (by omega), i64_of (by omega) (by omega), ?_⟩
  refine useS (Next_ok l k _ hk hl (by omega)) rfl rfl rfl (by simp only [ZZ, YY, Ze, ite_true, ite_false, forall_const, reduceCtorEq, Nat.reduceAdd, Nat.reduceMul, Nat.reduceLeDiff, Nat.reduceLT, Nat.reduceEqDiff]) ?_
  rintro x cs' ⟨y, rfl, rfl⟩
  have b1 := below_lo y (hi - lo + 1)
  have b2 := below_hi y (hi - lo + 1) (by omega)
  simp only [ZZ, YY, Ze, ite_true, ite_false, forall_const, reduceCtorEq, Nat.reduceAdd, Nat.reduceMul, Nat.reduceLeDiff, Nat.reduceLT, Nat.reduceEqDiff]
  exact ⟨i64_of (by omega) (by omega), fin_S (stm l (k + 1)) rfl ⟨_, rfl, by omega, by omega, rfl⟩⟩

/-- One of some elements. -/
theorem Pick_ok (l : List Int) (k : Nat) (c : List Int) (hk : k ≤ 1000000) (hl : l.length ≤ 9223372036854775807) (h0 : 0 < c.length) (h1 : c.length ≤ 1000000) :
    SCall Tryz.prog E 59 T (stm l k) [ints c] (fun x cs' => ∃ y, x = int y ∧ y ∈ c ∧ cs' = stm l (k + 1)) := by
  unfold SCall
  refine gcallP mixed Tryz.func59 ck_chasemake_Stream_Pick ?_
  simp only [a0, l0, OS.ao, List.map_cons, List.map_nil, List.length_cons, List.length_nil, List.cons_append, List.nil_append, Nat.reduceSub, Nat.reduceAdd, List.replicate_succ, List.replicate_zero, ir_chasemake_Stream_Pick, rs_chasemake_Stream_Pick, ZZ, YY, Ze, ite_true, ite_false, forall_const, reduceCtorEq, Nat.reduceAdd, Nat.reduceMul, Nat.reduceLeDiff, Nat.reduceLT, Nat.reduceEqDiff]
  simp only [ints, ZZ, YY, Ze, ite_true, ite_false, forall_const, reduceCtorEq, Nat.reduceAdd, Nat.reduceMul, Nat.reduceLeDiff, Nat.reduceLT, Nat.reduceEqDiff]
  generalize hes : c.map (fun x => [PV.int IntKind.i64 x]) = es
  have hln : es.length = c.length := by rw [← hes]; simp
  refine useS (Next_ok l k _ hk hl (by omega)) rfl rfl rfl (by simp only [ZZ, YY, Ze, ite_true, ite_false, forall_const, reduceCtorEq, Nat.reduceAdd, Nat.reduceMul, Nat.reduceLeDiff, Nat.reduceLT, Nat.reduceEqDiff]) ?_
  rintro x cs' ⟨y, rfl, rfl⟩
  obtain ⟨i, hi, hy⟩ := below_idx y es.length (by omega)
  rw [hy]
  obtain ⟨z, hz⟩ : ∃ z, c[i]? = some z := ⟨_, List.getElem?_eq_getElem (by omega)⟩
  have hg : es.getD i [] = [PV.int .i64 z] := by rw [← hes]; exact getD_map hz
  simp only [ZZ, YY, Ze, ite_true, ite_false, forall_const, reduceCtorEq, Nat.reduceAdd, Nat.reduceMul, Nat.reduceLeDiff, Nat.reduceLT, Nat.reduceEqDiff, hg]
  exact ⟨⟨by omega, by omega⟩, by omega, fin_S (stm l (k + 1)) rfl ⟨_, rfl, List.mem_of_getElem? hz, rfl⟩⟩
theorem one_ok (l : List Int) (k : Nat) (c : List (List UInt8)) (hk : k ≤ 1000000) (hl : l.length ≤ 9223372036854775807) (h0 : 0 < c.length) (h1 : c.length ≤ 1000000) :
    SCall Tryz.prog E 45 T (stm l k) [strs c] (fun x cs' => ∃ y, x = .str y ∧ y ∈ c ∧ cs' = stm l (k + 1)) := by
  unfold SCall
  refine gcallP mixed Tryz.func45 ck_chasemake_Stream_h06one ?_
  simp only [a0, l0, OS.ao, List.map_cons, List.map_nil, List.length_cons, List.length_nil, List.cons_append, List.nil_append, Nat.reduceSub, Nat.reduceAdd, List.replicate_succ, List.replicate_zero, ir_chasemake_Stream_h06one, rs_chasemake_Stream_h06one, ZZ, YY, Ze, ite_true, ite_false, forall_const, reduceCtorEq, Nat.reduceAdd, Nat.reduceMul, Nat.reduceLeDiff, Nat.reduceLT, Nat.reduceEqDiff]
  simp only [strs, ZZ, YY, Ze, ite_true, ite_false, forall_const, reduceCtorEq, Nat.reduceAdd, Nat.reduceMul, Nat.reduceLeDiff, Nat.reduceLT, Nat.reduceEqDiff]
  generalize hes : c.map (fun x => [PV.str x]) = es
  have hln : es.length = c.length := by rw [← hes]; simp
  refine useS (Next_ok l k _ hk hl (by omega)) rfl rfl rfl (by simp only [ZZ, YY, Ze, ite_true, ite_false, forall_const, reduceCtorEq, Nat.reduceAdd, Nat.reduceMul, Nat.reduceLeDiff, Nat.reduceLT, Nat.reduceEqDiff]) ?_
  rintro x cs' ⟨y, rfl, rfl⟩
  obtain ⟨i, hi, hy⟩ := below_idx y es.length (by omega)
  rw [hy]
  obtain ⟨z, hz⟩ : ∃ z, c[i]? = some z := ⟨_, List.getElem?_eq_getElem (by omega)⟩
  have hg : es.getD i [] = [PV.str z] := by rw [← hes]; exact getD_map hz
  simp only [ZZ, YY, Ze, ite_true, ite_false, forall_const, reduceCtorEq, Nat.reduceAdd, Nat.reduceMul, Nat.reduceLeDiff, Nat.reduceLT, Nat.reduceEqDiff, hg]
  exact ⟨⟨by omega, by omega⟩, by omega, fin_S (stm l (k + 1)) rfl ⟨_, rfl, List.mem_of_getElem? hz, rfl⟩⟩
end
end Go.Proofs.YtidmphcocnaonaaGreatDoor

/- Spans: the checks, few, cmp.Or, slices.Equal. -/
namespace Go.Proofs.YtidmphcocnaonaaGreatDoor
set_option linter.unusedVariables false
set_option linter.unusedSimpArgs false
set_option linter.defProp false

section
variable {E : Envt}

end
end Go.Proofs.YtidmphcocnaonaaGreatDoor

/- Spans: Without. -/
namespace Go.Proofs.YtidmphcocnaonaaGreatDoor
set_option linter.unusedVariables false
set_option linter.unusedSimpArgs false
set_option linter.defProp false



section
variable {E : Envt}
end
end Go.Proofs.YtidmphcocnaonaaGreatDoor

/- Spans: what makes them. -/
namespace Go.Proofs.YtidmphcocnaonaaGreatDoor
set_option linter.unusedVariables false
set_option linter.unusedSimpArgs false
set_option linter.defProp false

section
variable {E : Envt}
end
end Go.Proofs.YtidmphcocnaonaaGreatDoor

/- Spans: the document's answer to Union and Without. -/
namespace Go.Proofs.YtidmphcocnaonaaGreatDoor
set_option linter.unusedVariables false
set_option linter.unusedSimpArgs false
set_option linter.defProp false



def cov (l : List (Int × Int)) (j : Nat) : Bool := l.any fun s => decide (s.1 ≤ j) && decide ((j : Int) < s.2)
def bl (p : List Bool) : List (List PV) := p.map fun b => [.bool b]
section
variable {E : Envt}
def onAt (p : List Bool) (i : Nat) : Bool := p.getD i false
end
end Go.Proofs.YtidmphcocnaonaaGreatDoor

/- Spans: a right list is told by what it covers (plain). -/
namespace Go.Proofs.YtidmphcocnaonaaGreatDoor
set_option linter.unusedVariables false
set_option linter.unusedSimpArgs false
set_option linter.defProp false

def cv (l : List (Int × Int)) (j : Int) : Prop := ∃ s ∈ l, s.1 ≤ j ∧ j < s.2
structure Right (l : List (Int × Int)) : Prop where
  ok : ∀ s ∈ l, s.1 < s.2
  ord : l.Pairwise (fun s t => s.2 < t.1)
theorem Right.tail {s : Int × Int} {l : List (Int × Int)} (h : Right (s :: l)) : Right l := ⟨fun t ht => h.ok t (by simp [ht]), (List.pairwise_cons.1 h.ord).2⟩
theorem Right.head {s : Int × Int} {l : List (Int × Int)} (h : Right (s :: l)) : s.1 < s.2 ∧ ∀ t ∈ l, s.2 < t.1 := ⟨h.ok s (by simp), (List.pairwise_cons.1 h.ord).1⟩

/-- What spansFrom gives. -/
structure FromInv (p : List Bool) (k : Nat) (out : List (Int × Int)) : Prop where
  right : Right out
  bd : ∀ s ∈ out, s.2 ≤ k
  last : onAt p (k - 1) = true → 0 < k → ∃ (i : List (Int × Int)) (y : Int × Int), out = i ++ [y] ∧ y.2 = (k : Int)
  gap : onAt p (k - 1) = false → 0 < k → ∀ s ∈ out, s.2 < k
  cov : ∀ j, cv out j ↔ ∃ i : Nat, j = i ∧ i < k ∧ onAt p i = true

end Go.Proofs.YtidmphcocnaonaaGreatDoor

/- Spans: Without covers what a covers and b does not (plain). -/
namespace Go.Proofs.YtidmphcocnaonaaGreatDoor
set_option linter.unusedVariables false
set_option linter.unusedSimpArgs false
set_option linter.defProp false

structure InB (s : Int × Int) (o0 b : List (Int × Int)) (st : Int × List (Int × Int)) : Prop where
  lo : s.1 ≤ st.1
  src : st.1 = s.1 ∨ ∃ x ∈ b, st.1 = x.2
  right : Right st.2
  bd : ∀ t ∈ st.2, t.2 < st.1
  hi : ∀ t ∈ st.2, t ∈ o0 ∨ t.2 ≤ s.2
  fre : ∀ j, st.1 ≤ j → j < s.2 → ¬ cv b j
  cov : ∀ j, cv st.2 j ↔ cv o0 j ∨ (s.1 ≤ j ∧ j < st.1 ∧ j < s.2 ∧ ¬ cv b j)

structure InA (b a out : List (Int × Int)) : Prop where
  right : Right out
  bd : ∀ t ∈ out, ∃ s ∈ a, t.2 ≤ s.2
  cov : ∀ j, cv out j ↔ cv a j ∧ ¬ cv b j
end Go.Proofs.YtidmphcocnaonaaGreatDoor

/- Spans: put joins sorted spans to right ones (plain). -/
namespace Go.Proofs.YtidmphcocnaonaaGreatDoor
set_option linter.unusedVariables false
set_option linter.unusedSimpArgs false
set_option linter.defProp false

structure InP (l out : List (Int × Int)) : Prop where
  right : Right out
  src : ∀ t ∈ out, (∃ u ∈ l, t.1 = u.1) ∧ ∃ u ∈ l, t.2 = u.2
  cov : ∀ j, cv out j ↔ cv l j
end Go.Proofs.YtidmphcocnaonaaGreatDoor

/- Spans: put, if the sort is as it should be. -/
namespace Go.Proofs.YtidmphcocnaonaaGreatDoor
set_option linter.unusedVariables false
set_option linter.unusedSimpArgs false
set_option linter.defProp false



section
variable {E : Envt}
end
end Go.Proofs.YtidmphcocnaonaaGreatDoor

/- Spans: slices.Grow at nil and slices.Concat, the sort's order, Union. -/
namespace Go.Proofs.YtidmphcocnaonaaGreatDoor
set_option linter.unusedVariables false
set_option linter.unusedSimpArgs false
set_option linter.defProp false



section
variable {E : Envt}
end
end Go.Proofs.YtidmphcocnaonaaGreatDoor

/- The library's variables that the functions read; forms of strings; texts. -/
namespace Go.Proofs.YtidmphcocnaonaaGreatDoor
open Go.RowKit
set_option linter.unusedVariables false
set_option linter.unusedSimpArgs false
set_option linter.defProp false

def E0 : Envt where
  ok w := Lib.Utf8Tabs 2 3 w ∧ ∃ m : Int, w.cell? ⟨0, 0, none⟩ = some (.int .i64 m)
  bl b := b = 2 ∨ b = 3 ∨ b = 0
  mono w w' hb h := by
    obtain ⟨⟨h1, h2⟩, m, h3⟩ := h
    have e1 := hb _ (.inl rfl)
    have e2 := hb _ (.inr (.inl rfl))
    have e3 := hb _ (.inr (.inr rfl))
    exact ⟨⟨fun c hc => (World.cell?_of_block (w := w) e1).trans (h1 c hc), fun i hi => ⟨(World.cell?_of_block (w := w) e2).trans (h2 i hi).1, (World.cell?_of_block (w := w) e2).trans (h2 i hi).2⟩⟩, m, (World.cell?_of_block (w := w) e3).trans h3⟩

theorem Valid_ok (s : List UInt8) (hs : s.length ≤ 1000000000000) : PCall Tryz.prog E0 209 [.str s] (· = .bool (Lib.validD s)) :=
  pcall_flat rfl rfl fun w hE => (Any.utf8_ValidString Tryz.layValid ⟨s.toArray⟩ w (by simp [ByteArray.size]; omega) hE.1).mono fun e w' h => ⟨by rw [h.1]; rfl, grow_below h.2⟩

/- internal/stringslite.HasSuffix -/
def ir_internal_stringslite_HasSuffix : IC :=
  (.seq (.reg [⟨some 4, .mov (.c (.bool false)), none⟩])
    (.seq (.reg [⟨some 5, .mov (.t 0), none⟩,
      ⟨some 6, .sln (.t 5), none⟩,
      ⟨some 7, .mov (.t 1), none⟩,
      ⟨some 8, .sln (.t 7), none⟩,
      ⟨some 9, .bin .geq (.t 6) (.t 8), none⟩,
      ⟨some 10, .mov (.t 9), none⟩,
      ⟨some 11, .mov (.t 0), (some (10, true))⟩,
      ⟨some 12, .mov (.t 0), (some (10, true))⟩,
      ⟨some 13, .sln (.t 12), (some (10, true))⟩,
      ⟨some 14, .mov (.t 1), (some (10, true))⟩,
      ⟨some 15, .sln (.t 14), (some (10, true))⟩,
      ⟨some 16, .bin .sub (.t 13) (.t 15), (some (10, true))⟩,
      ⟨some 17, .ssl (.t 11) (some (.t 16)) none, (some (10, true))⟩,
      ⟨some 18, .mov (.t 1), (some (10, true))⟩,
      ⟨some 19, .bin .eql (.t 17) (.t 18), (some (10, true))⟩,
      ⟨some 20, .pick (.t 10) (.t 19) (.c (.bool false)), none⟩,
      ⟨some 4, .mov (.t 20), none⟩])
    .ret))
def rs_internal_stringslite_HasSuffix : List IRes := [.t 4]
theorem ck_internal_stringslite_HasSuffix : chkF Tryz.prog Tryz.f179 ir_internal_stringslite_HasSuffix rs_internal_stringslite_HasSuffix 21 = true := by kernel_rfl
/- strings.HasSuffix -/
def ir_strings_HasSuffix : IC :=
  (.seq (.reg [⟨some 4, .mov (.c (.bool false)), none⟩])
    (.seq (.reg [⟨some 5, .mov (.t 0), none⟩,
      ⟨some 6, .mov (.t 1), none⟩,
      ⟨some 7, .call 179 [.t 5, .t 6], none⟩,
      ⟨some 4, .mov (.t 7), none⟩])
    .ret))
def rs_strings_HasSuffix : List IRes := [.t 4]
theorem ck_strings_HasSuffix : chkF Tryz.prog Tryz.f100 ir_strings_HasSuffix rs_strings_HasSuffix 8 = true := by kernel_rfl
/- paperchase/base.Visible -/
def ir_base_Visible_L0 : IC :=
  (.seq (.reg [⟨some 10, .bin .lss (.t 9) (.t 8), none⟩])
    (.seq (.cond (.t 10) .skip (.exit 0))
    (.seq (.block 1 (.seq (.reg [⟨some 11, .mov (.t 9), none⟩,
      ⟨some 5, .mov (.t 11), none⟩])
    (.seq (.reg [⟨some 12, .mov (.t 0), none⟩,
      ⟨some 13, .mov (.t 5), none⟩,
      ⟨some 14, .idx (.t 12) (.t 13), none⟩,
      ⟨some 6, .mov (.t 14), none⟩])
    (.seq (.reg [⟨some 15, .mov (.t 6), none⟩,
      ⟨some 16, .bin .lss (.t 15) (.c (.int .u8 32)), none⟩,
      ⟨some 17, .mov (.t 16), none⟩,
      ⟨some 18, .mov (.t 1), (some (17, true))⟩,
      ⟨some 19, .mov (.t 18), (some (17, true))⟩,
      ⟨some 20, .mov (.t 6), (some (19, true))⟩,
      ⟨some 21, .bin .eql (.t 20) (.c (.int .u8 10)), (some (19, true))⟩,
      ⟨some 22, .pick (.t 19) (.t 21) (.c (.bool false)), (some (17, true))⟩,
      ⟨some 23, .not (.t 22), (some (17, true))⟩,
      ⟨some 24, .pick (.t 17) (.t 23) (.c (.bool false)), none⟩,
      ⟨some 25, .mov (.t 24), none⟩,
      ⟨some 26, .mov (.t 6), (some (25, false))⟩,
      ⟨some 27, .bin .eql (.t 26) (.c (.int .u8 127)), (some (25, false))⟩,
      ⟨some 28, .pick (.t 25) (.c (.bool true)) (.t 27), none⟩])
    (.cond (.t 28) (.seq (.reg [⟨some 4, .mov (.c (.bool false)), none⟩])
    .ret) .skip)))))
    (.reg [⟨some 29, .bin .add (.t 9) (.c (.int .i64 1)), none⟩,
      ⟨some 9, .mov (.t 29), none⟩]))))
def ir_base_Visible : IC :=
  (.seq (.reg [⟨some 4, .mov (.c (.bool false)), none⟩])
    (.seq (.seq (.reg [⟨some 7, .mov (.t 0), none⟩,
      ⟨some 8, .sln (.t 7), none⟩,
      ⟨some 9, .mov (.c (.int .i64 0)), none⟩])
    (.block 0 (.loop ir_base_Visible_L0)))
    (.seq (.reg [⟨some 30, .mov (.t 0), none⟩,
      ⟨some 31, .call 209 [.t 30], none⟩,
      ⟨some 4, .mov (.t 31), none⟩])
    .ret)))
def rs_base_Visible : List IRes := [.t 4]
theorem ck_base_Visible : chkF Tryz.prog Tryz.f206 ir_base_Visible rs_base_Visible 32 = true := by kernel_rfl
/- paperchase/base.Text -/
def ir_base_Text : IC :=
  (.seq (.reg [⟨some 2, .mov (.c (.bool false)), none⟩])
    (.seq (.reg [⟨some 3, .mov (.t 0), none⟩,
      ⟨some 4, .call 206 [.t 3, .c (.bool true)], none⟩,
      ⟨some 5, .mov (.t 4), none⟩,
      ⟨some 6, .mov (.t 0), (some (5, true))⟩,
      ⟨some 7, .bin .eql (.t 6) (.c (.str [])), (some (5, true))⟩,
      ⟨some 8, .mov (.t 7), (some (5, true))⟩,
      ⟨some 9, .mov (.t 0), (some (8, false))⟩,
      ⟨some 10, .call 100 [.t 9, .c (.str [10])], (some (8, false))⟩,
      ⟨some 11, .pick (.t 8) (.c (.bool true)) (.t 10), (some (5, true))⟩,
      ⟨some 12, .pick (.t 5) (.t 11) (.c (.bool false)), none⟩,
      ⟨some 2, .mov (.t 12), none⟩])
    .ret))
def rs_base_Text : List IRes := [.t 2]
theorem ck_base_Text : chkF Tryz.prog Tryz.f125 ir_base_Text rs_base_Text 13 = true := by kernel_rfl


section
variable {E : Envt}
def sufE (s t : List UInt8) : Bool := decide ((t.length : Int) ≤ s.length) && decide (s.drop (s.length - t.length) = t)
theorem sHasSuffix_ok (s t : List UInt8) (hs : s.length ≤ 1000000000000) : PCall Tryz.prog E 179 [.str s, .str t] (· = .bool (sufE s t)) := by
  refine pcallF mixed Tryz.func179 ck_internal_stringslite_HasSuffix ?_
  simp only [a0, l0, OS.ao, List.map_cons, List.map_nil, List.length_cons, List.length_nil, List.cons_append, List.nil_append, Nat.reduceSub, Nat.reduceAdd, List.replicate_succ, List.replicate_zero, ir_internal_stringslite_HasSuffix, rs_internal_stringslite_HasSuffix, ZZ, YY, Ze, ite_true, ite_false, forall_const, reduceCtorEq, Nat.reduceAdd, Nat.reduceMul, Nat.reduceLeDiff, Nat.reduceLT, Nat.reduceEqDiff]
  ((repeat' (with_reducible apply And.intro)) <;> try ((first | first | assumption | trivial | exact (fun hq => by rw [hq]; rfl) | exact i64_of (by omega) (by omega) | omega | (simp; done) | (simp; omega) | (intro hsc; have hs0 := hsc; (try have hsd := of_decide_eq_true hsc); (try simp only [Bool.not_eq_true', Bool.or_eq_false_iff, Bool.and_eq_true, Bool.or_eq_true, decide_eq_true_eq, decide_eq_false_iff_not] at hsc); (repeat' (with_reducible apply And.intro)) <;> (first | assumption | trivial | exact (fun hq => by rw [hq]; rfl) | exact i64_of (by omega) (by omega) | omega | (simp; done) | (simp; omega) | (intro hse; simp [hse, hs0]; done) | (intro hse; simp only [hse, hs0, Bool.true_and, Bool.and_true, Bool.not_false, Bool.not_true, Bool.and_self]; done))))))
  rw [show ((s.length : Int) - t.length).toNat = s.length - t.length from by omega, List.take_length]
  rfl
theorem HasSuffix_ok (s t : List UInt8) (hs : s.length ≤ 1000000000000) : PCall Tryz.prog E 100 [.str s, .str t] (· = .bool (sufE s t)) := by
  refine pcallF mixed Tryz.func100 ck_strings_HasSuffix ?_
  simp only [a0, l0, OS.ao, List.map_cons, List.map_nil, List.length_cons, List.length_nil, List.cons_append, List.nil_append, Nat.reduceSub, Nat.reduceAdd, List.replicate_succ, List.replicate_zero, ir_strings_HasSuffix, rs_strings_HasSuffix, ZZ, YY, Ze, ite_true, ite_false, forall_const, reduceCtorEq, Nat.reduceAdd, Nat.reduceMul, Nat.reduceLeDiff, Nat.reduceLT, Nat.reduceEqDiff]
  refine use1 (sHasSuffix_ok s t hs) rfl (.inl rfl) ?_
  simp only [ZZ, YY, Ze, ite_true, ite_false, forall_const, reduceCtorEq, Nat.reduceAdd, Nat.reduceMul, Nat.reduceLeDiff, Nat.reduceLT, Nat.reduceEqDiff]
def largeE (s : List UInt8) : Int := whenE (decide ((20000 : Int) < s.length)) 2
def badB (feeds : Bool) (c : UInt8) : Bool := (decide ((c.toNat : Int) < 32) && !(feeds && decide ((c.toNat : Int) = 10))) || decide ((c.toNat : Int) = 127)
def visE (s : List UInt8) (feeds : Bool) : Bool := (s.all fun c => !badB feeds c) && Lib.validD s
theorem all_take {s : List UInt8} {k : Nat} {c : UInt8} {p : UInt8 → Bool} (h : s[k]? = some c) : (s.take (k + 1)).all p = ((s.take k).all p && p c) := by
  obtain ⟨hk, hx⟩ := List.getElem?_eq_some_iff.1 h
  rw [List.take_succ_eq_append_getElem hk, List.all_append, hx]
  simp
end
theorem Visible_ok (s : List UInt8) (feeds : Bool) (hs : s.length ≤ 1000000000) : PCall Tryz.prog E0 206 [.str s, .bool feeds] (· = .bool (visE s feeds)) := by
  refine pcallF mixed Tryz.func206 ck_base_Visible ?_
  simp only [a0, l0, OS.ao, List.map_cons, List.map_nil, List.length_cons, List.length_nil, List.cons_append, List.nil_append, Nat.reduceSub, Nat.reduceAdd, List.replicate_succ, List.replicate_zero, ir_base_Visible, rs_base_Visible, ZZ, YY, Ze, ite_true, ite_false, forall_const, reduceCtorEq, Nat.reduceAdd, Nat.reduceMul, Nat.reduceLeDiff, Nat.reduceLT, Nat.reduceEqDiff]
  refine loop_intro (fun n fr L => ∃ (k : Nat), k ≤ s.length ∧ n = s.length - k ∧ (((s.take k).all fun c => !badB feeds c) = true) ∧ fr = [.p (.str s), .p (.bool feeds), .any, .any, .any, .any, .any, .any, .p (int (s.length : Nat)), .p (int (k : Nat)), .any, .any, .any, .any, .any, .any, .any, .any, .any, .any, .any, .any, .any, .any, .any, .any, .any, .any, .any, .any, .any, .any] ∧ L = []) (s.length) [.p (.str s), .p (.bool feeds), .any, .any, .any, .any, .any, .any, .p (int (s.length : Nat)), .p (int (0 : Nat)), .any, .any, .any, .any, .any, .any, .any, .any, .any, .any, .any, .any, .any, .any, .any, .any, .any, .any, .any, .any, .any, .any] [] (by (simp only [ZZ, YY, Ze, ite_true, ite_false, forall_const, reduceCtorEq, Nat.reduceAdd, Nat.reduceMul, Nat.reduceLeDiff, Nat.reduceLT, Nat.reduceEqDiff]; try trivial)) (by (simp only [ZZ, YY, Ze, ite_true, ite_false, forall_const, reduceCtorEq, Nat.reduceAdd, Nat.reduceMul, Nat.reduceLeDiff, Nat.reduceLT, Nat.reduceEqDiff]; try trivial)) ⟨0, by omega, by omega, by simp, rfl, rfl⟩ ?_
  rintro n fr L ⟨k, hk, rfl, hall, rfl, rfl⟩
  simp only [ir_base_Visible_L0, ZZ, YY, Ze, ite_true, ite_false, forall_const, reduceCtorEq, Nat.reduceAdd, Nat.reduceMul, Nat.reduceLeDiff, Nat.reduceLT, Nat.reduceEqDiff]
  refine br ?_ ?_
  · intro h
    have hlt : k < s.length := by have := of_decide_eq_true h; omega
    obtain ⟨c, hc⟩ : ∃ x, s[k]? = some x := ⟨_, List.getElem?_eq_getElem hlt⟩
    have hg : s.getD k 0 = c := by simp [List.getD, hc]
    have hnx := all_take (p := fun c => !badB feeds c) hc
    simp only [ZZ, YY, Ze, ite_true, ite_false, forall_const, reduceCtorEq, Nat.reduceAdd, Nat.reduceMul, Nat.reduceLeDiff, Nat.reduceLT, Nat.reduceEqDiff, hg]
    ((repeat' (with_reducible apply And.intro)) <;> try ((first | first | assumption | trivial | exact (fun hq => by rw [hq]; rfl) | exact i64_of (by omega) (by omega) | omega | (simp; done) | (simp; omega) | (intro hsc; have hs0 := hsc; (try have hsd := of_decide_eq_true hsc); (try simp only [Bool.not_eq_true', Bool.or_eq_false_iff, Bool.and_eq_true, Bool.or_eq_true, decide_eq_true_eq, decide_eq_false_iff_not] at hsc); (repeat' (with_reducible apply And.intro)) <;> (first | assumption | trivial | exact (fun hq => by rw [hq]; rfl) | exact i64_of (by omega) (by omega) | omega | (simp; done) | (simp; omega) | (intro hse; simp [hse, hs0]; done) | (intro hse; simp only [hse, hs0, Bool.true_and, Bool.and_true, Bool.not_false, Bool.not_true, Bool.and_self]; done))))))
    refine br ?_ ?_
    · intro hb
      have hb : badB feeds c = true := hb
      simp only [ZZ, YY, Ze, ite_true, ite_false, forall_const, reduceCtorEq, Nat.reduceAdd, Nat.reduceMul, Nat.reduceLeDiff, Nat.reduceLT, Nat.reduceEqDiff]
      have : (s.all fun c => !badB feeds c) = false := by
        rw [List.all_eq_false]
        exact ⟨c, List.mem_of_getElem? hc, by simp [hb]⟩
      simp [visE, this]
    · intro hb
      have hb : badB feeds c = false := hb
      simp only [ZZ, YY, Ze, ite_true, ite_false, forall_const, reduceCtorEq, Nat.reduceAdd, Nat.reduceMul, Nat.reduceLeDiff, Nat.reduceLT, Nat.reduceEqDiff]
      ((repeat' (with_reducible apply And.intro)) <;> try ((first | first | assumption | trivial | exact (fun hq => by rw [hq]; rfl) | exact i64_of (by omega) (by omega) | omega | (simp; done) | (simp; omega) | (intro hsc; have hs0 := hsc; (try have hsd := of_decide_eq_true hsc); (try simp only [Bool.not_eq_true', Bool.or_eq_false_iff, Bool.and_eq_true, Bool.or_eq_true, decide_eq_true_eq, decide_eq_false_iff_not] at hsc); (repeat' (with_reducible apply And.intro)) <;> (first | assumption | trivial | exact (fun hq => by rw [hq]; rfl) | exact i64_of (by omega) (by omega) | omega | (simp; done) | (simp; omega) | (intro hse; simp [hse, hs0]; done) | (intro hse; simp only [hse, hs0, Bool.true_and, Bool.and_true, Bool.not_false, Bool.not_true, Bool.and_self]; done))))))
      refine end_round (s.length - (k + 1)) [.p (.str s), .p (.bool feeds), .any, .any, .any, .any, .any, .any, .p (int (s.length : Nat)), .p (int ((k + 1) : Nat)), .any, .any, .any, .any, .any, .any, .any, .any, .any, .any, .any, .any, .any, .any, .any, .any, .any, .any, .any, .any, .any, .any] [] (by omega) (by (simp only [ZZ, YY, Ze, ite_true, ite_false, forall_const, reduceCtorEq, Nat.reduceAdd, Nat.reduceMul, Nat.reduceLeDiff, Nat.reduceLT, Nat.reduceEqDiff]; try trivial)) (by (simp only [ZZ, YY, Ze, ite_true, ite_false, forall_const, reduceCtorEq, Nat.reduceAdd, Nat.reduceMul, Nat.reduceLeDiff, Nat.reduceLT, Nat.reduceEqDiff]; try trivial)) ⟨k + 1, by omega, rfl, by rw [hnx, hall, hb]; rfl, rfl, rfl⟩
  · intro h
    have hge : s.length ≤ k := by have := of_decide_eq_false h; omega
    rw [List.take_of_length_le hge] at hall
    simp only [ZZ, YY, Ze, ite_true, ite_false, forall_const, reduceCtorEq, Nat.reduceAdd, Nat.reduceMul, Nat.reduceLeDiff, Nat.reduceLT, Nat.reduceEqDiff]
    refine use1 (Valid_ok s (by omega)) rfl (.inl rfl) ?_
    simp only [ZZ, YY, Ze, ite_true, ite_false, forall_const, reduceCtorEq, Nat.reduceAdd, Nat.reduceMul, Nat.reduceLeDiff, Nat.reduceLT, Nat.reduceEqDiff]
    simp [visE, hall]
def textE (s : List UInt8) : Bool := visE s true && (decide (s = []) || sufE s [10])
theorem Text_ok (s : List UInt8) (hs : s.length ≤ 1000000000) : PCall Tryz.prog E0 125 [.str s] (· = .bool (textE s)) := by
  refine pcallF mixed Tryz.func125 ck_base_Text ?_
  simp only [a0, l0, OS.ao, List.map_cons, List.map_nil, List.length_cons, List.length_nil, List.cons_append, List.nil_append, Nat.reduceSub, Nat.reduceAdd, List.replicate_succ, List.replicate_zero, ir_base_Text, rs_base_Text, ZZ, YY, Ze, ite_true, ite_false, forall_const, reduceCtorEq, Nat.reduceAdd, Nat.reduceMul, Nat.reduceLeDiff, Nat.reduceLT, Nat.reduceEqDiff]
  refine use1 (Visible_ok s true hs) rfl (.inl rfl) ?_
  simp only [ZZ, YY, Ze, ite_true, ite_false, forall_const, reduceCtorEq, Nat.reduceAdd, Nat.reduceMul, Nat.reduceLeDiff, Nat.reduceLT, Nat.reduceEqDiff]
  ((repeat' (with_reducible apply And.intro)) <;> try ((first | first | assumption | trivial | exact (fun hq => by rw [hq]; rfl) | exact i64_of (by omega) (by omega) | omega | (simp; done) | (simp; omega) | (intro hsc; have hs0 := hsc; (try have hsd := of_decide_eq_true hsc); (try simp only [Bool.not_eq_true', Bool.or_eq_false_iff, Bool.and_eq_true, Bool.or_eq_true, decide_eq_true_eq, decide_eq_false_iff_not] at hsc); (repeat' (with_reducible apply And.intro)) <;> (first | assumption | trivial | exact (fun hq => by rw [hq]; rfl) | exact i64_of (by omega) (by omega) | omega | (simp; done) | (simp; omega) | (intro hse; simp [hse, hs0]; done) | (intro hse; simp only [hse, hs0, Bool.true_and, Bool.and_true, Bool.not_false, Bool.not_true, Bool.and_self]; done))))))
  refine useG (fun _ => HasSuffix_ok s [10] (by omega)) rfl (.inl rfl) ?_
  simp only [ZZ, YY, Ze, ite_true, ite_false, forall_const, reduceCtorEq, Nat.reduceAdd, Nat.reduceMul, Nat.reduceLeDiff, Nat.reduceLT, Nat.reduceEqDiff]
  ((repeat' (with_reducible apply And.intro)) <;> try ((first | first | assumption | trivial | exact (fun hq => by rw [hq]; rfl) | exact i64_of (by omega) (by omega) | omega | (simp; done) | (simp; omega) | (intro hsc; have hs0 := hsc; (try have hsd := of_decide_eq_true hsc); (try simp only [Bool.not_eq_true', Bool.or_eq_false_iff, Bool.and_eq_true, Bool.or_eq_true, decide_eq_true_eq, decide_eq_false_iff_not] at hsc); (repeat' (with_reducible apply And.intro)) <;> (first | assumption | trivial | exact (fun hq => by rw [hq]; rfl) | exact i64_of (by omega) (by omega) | omega | (simp; done) | (simp; omega) | (intro hse; simp [hse, hs0]; done) | (intro hse; simp only [hse, hs0, Bool.true_and, Bool.and_true, Bool.not_false, Bool.not_true, Bool.and_self]; done))))))
section
variable {E : Envt}
end

/-- Rows of bytes. -/
def bU (n : Nat) (g : Nat → UInt8) : List (List PV) := (List.range n).map fun j => [.int .u8 ((g j).toNat : Nat)]
theorem bU_len (n : Nat) (g : Nat → UInt8) : (bU n g).length = n := by simp [bU]
theorem bU_get {n i : Nat} {g : Nat → UInt8} (h : i < n) : (bU n g).getD i [] = [.int .u8 ((g i).toNat : Nat)] := by
  simp [bU, List.getD, List.getElem?_map, List.getElem?_range h]
theorem bU_set {n i : Nat} {g : Nat → UInt8} (c : UInt8) : (bU n g).set i [.int .u8 (c.toNat : Nat)] = bU n (fun j => if j = i then c else g j) := by
  apply List.ext_getElem?
  intro j
  by_cases hj : j < n
  · by_cases he : j = i
    · subst he
      rw [List.getElem?_set_self (by simpa [bU] using hj)]
      simp [bU, List.getElem?_range hj]
    · rw [List.getElem?_set_ne (fun e => he e.symm)]
      simp [bU, List.getElem?_range hj, he]
  · rw [List.getElem?_eq_none (by simpa [bU] using hj), List.getElem?_eq_none (by simpa [bU] using hj)]
theorem bU_of (s : List UInt8) : (s.map fun q => [PV.int .u8 (q.toNat : Nat)]) = bU s.length (fun j => s.getD j 0) := by
  apply List.ext_getElem?
  intro j
  by_cases hj : j < s.length
  · simp [bU, List.getElem?_range hj, List.getElem?_eq_getElem hj, List.getD]
  · rw [List.getElem?_eq_none (by simpa using hj), List.getElem?_eq_none (by simpa [bU] using hj)]
theorem bytes_bU (n : Nat) (g : Nat → UInt8) : bytesP (bU n g) = some ((List.range n).map g) := by
  have : ∀ l : List Nat, bytesP (l.map fun j => [PV.int .u8 ((g j).toNat : Nat)]) = some (l.map g) := by
    intro l
    induction l with
    | nil => rfl
    | cons x r ih => simp [bytesP, ih]
  exact this _
end Go.Proofs.YtidmphcocnaonaaGreatDoor

/- From a law's contract to the walk that the row's proof wants. -/
namespace Go.Proofs.YtidmphcocnaonaaGreatDoor
open Go.RowKit
set_option linter.unusedVariables false
set_option linter.unusedSimpArgs false
set_option linter.defProp false

/-- A slice of integers that came in. -/
def IsRow (k : IntKind) (w : World) (a : Option Addr) (len cap : Nat) (zs : List Int) : Prop :=
  (a = none ∧ len = 0 ∧ cap = 0 ∧ zs = []) ∨
  ∃ x, a = some x ∧ len ≤ cap ∧ cap ≤ maxLen ∧ zs.length = cap ∧ (∀ i, i < zs.length → w.cell? (x.add i) = some (.int k (zs.getD i 0))) ∧ ∀ n ∈ zs, (Lit.int k n).wf = true

theorem repE_ints {w : World} {U : Nat → Prop} {b : Nat} : ∀ (l : List Int) (off : Nat), (∀ i, i < l.length → w.cell? ⟨b, off + i, none⟩ = some (.int .i64 (l.getD i 0))) → PRepE w U b 1 off (l.map fun x => [.int .i64 x])
  | [], off, h => trivial
  | x :: r, off, h => by
    refine ⟨rfl, ⟨⟨_, by simpa using h 0 (by simp), rfl, rfl⟩, trivial⟩, repE_ints r (off + 1) (fun i hi => ?_)⟩
    have := h (i + 1) (by simpa using hi)
    rw [show off + 1 + i = off + (i + 1) from by omega]
    simpa using this

theorem isRow_rep {w : World} {a : Option Addr} {len cap : Nat} {zs : List Int} (h : IsRow .i64 w a len cap zs) : PRep w (fun _ => False) (ints (zs.take len)) (.slice a len cap) ∧ (zs.take len).length ≤ 9223372036854775807 := by
  rcases h with ⟨rfl, rfl, rfl, rfl⟩ | ⟨x, rfl, h1, h2, h3, h4, _⟩
  · exact ⟨⟨none, 0, rfl, by simp, fun h => by simp at h⟩, by simp⟩
  · have hl : (zs.take len).length = len := by rw [List.length_take]; omega
    refine ⟨⟨some x, cap, by rw [List.length_map, hl], by rw [List.length_map, hl]; exact h1, fun hne => ?_⟩, by rw [hl]; unfold maxLen at h2; omega⟩
    have h0 : 0 < len := by
      rcases Nat.eq_zero_or_pos len with h' | h'
      · subst h'; simp at hne
      · exact h'
    obtain ⟨b, off, spot⟩ := x
    have hc := h4 0 (by omega)
    have hspot : spot = none := by simpa [Addr.add] using World.cell?_spot hc
    subst hspot
    have hb : b < w.heap.size := by
      have := World.block_lt_of_cell? w _ hc
      simpa [Addr.add] using this
    refine ⟨b, off, rfl, hb, fun h => h, repE_ints _ _ (fun i hi => ?_)⟩
    rw [hl] at hi
    have := h4 i (by omega)
    rw [addr_addA] at this
    rw [this]
    congr 2
    rw [List.getD_eq_getElem?_getD, List.getD_eq_getElem?_getD, List.getElem?_take_of_lt hi]

theorem walk_of {P : Program} {E : Envt} {f : FuncId} (h : ∀ z : List Int, z.length ≤ 9223372036854775807 → PCall P E f [ints z] (· = .bool true)) (a0 : Option Addr) (len0 cap0 : Nat) (z0 : List Int) (w : World) (h0 : IsRow .i64 w a0 len0 cap0 z0) (hok : E.ok w) (hbl : ∀ b, E.bl b → b < w.heap.size) :
    Calls P f #[.slice a0 len0 cap0] w fun e w' => e = .returned (.bool true) ∧ Below w.heap.size w w' := by
  obtain ⟨h1, h2⟩ := isRow_rep h0
  refine (h _ h2 w (fun _ => False) [.slice a0 len0 cap0] (fun _ h => h.elim) hok hbl ⟨_, [], rfl, h1, rfl⟩).mono ?_
  rintro e w' ⟨v, x, rfl, rfl, hv, hg⟩
  refine ⟨by rw [PRep.bool_eq hv], ⟨hg.os, hg.tape, hg.output, hg.size, fun k hk => hg.block k hk (fun h => h)⟩⟩
end Go.Proofs.YtidmphcocnaonaaGreatDoor
