import Derived.Test.YtinffddgojhdfaaGreatDoorZ4
import Derived.Test.YtinffddgojhdfaaGreatDoorProg
import Derived.KernelRfl
import Derived.Test.YtinffddgojhdfaaGreatDoorLayValid
import Derived.Test.YtinffddgojhdfaaGreatDoorLayItoa
import Derived.Test.YtinffddgojhdfaaGreatDoorLayTZ
import Derived.Test.YtinffddgojhdfaaGreatDoorLayIndex
import Derived.Test.YtinffddgojhdfaaGreatDoorRep
import Derived.Test.YtinffddgojhdfaaGreatDoorLayIndexByte
import Derived.Test.YtinffddgojhdfaaGreatDoorSpec
import Derived.Shelf.Strings.IndexAnyAll
import Derived.Shelf.Small.Utf8
import Derived.BigQuiet
import Derived.WalkMore
import Derived.Deep.QuietTactic
import Derived.Shelf.RegionOpenPlain
import Derived.Deep.LoopGhost
import Derived.Laws.Runes
import Derived.Laws.RangeString
import Derived.Lib.IndexBytes
import Derived.Laws.Strings3
import Derived.Lib.SplitLaws
import Derived.Test.YtinffddgojhdfaaGreatDoorLayTrim
import Derived.Test.YtinffddgojhdfaaGreatDoorLayCompare
set_option linter.unusedVariables false
set_option linter.unusedSimpArgs false
set_option linter.defProp false
namespace Go.Proofs.YtinffddgojhdfaaGreatDoor
theorem mixed:Tryz.prog.follows .mixedOrders=true:=by kernel_rfl
abbrev int (n:Int):PV:=.int .i64 n
def ints (l:List Int):PV:=.sl 1 (l.map fun x=>[.int .i64 x])
def strs (l:List (List UInt8)):PV:=.sl 1 (l.map fun x=>[.str x])
theorem getD_map {α β:Type} {f:α→β} {l:List α} {k:Nat} {x:α} {d:β} (h:l[k]?=some x):(l.map f).getD k d=f x:=by
 simp [List.getD,h]
theorem i64_of {n:Int} (h1:-9223372036854775808≤n) (h2:n≤9223372036854775807):I64 n:=⟨h1,h2⟩
theorem Zl0 {α:Type} {n:Nat}:([]:List α).take n=[]:=by simp
theorem Zl1 {α:Type} {n:Nat}:([]:List α).drop n=[]:=by simp
theorem Zl2 {α:Type} {l:List α}:l++[]=l:=by simp
theorem Zl3 {p:Prop}:(True∧p)=p:=by simp
theorem Zl4 {p:Prop}:(p∧True)=p:=by simp
theorem Zl5 {α:Type} {h:Decidable True} {a b:α}:(if True then a else b)=a:=by simp
theorem Zl6 {α:Type} {h:Decidable False} {a b:α}:(if False then a else b)=b:=by simp
theorem Zl7 {b:Bool}:(b && true)=b:=by simp
theorem Zl8 {b:Bool}:(true && b)=b:=rfl
theorem Zl9:(!true)=false:=rfl
theorem Zl10:(!false)=true:=rfl
theorem Zl11 {α:Type} {a b:α}:(bif true then a else b)=a:=rfl
theorem Zl12 {α:Type} {a b:α}:(bif false then a else b)=b:=rfl
theorem Zl13 {p:Prop}:(p→p)=True:=by simp
theorem Zl14 {p:Prop}:(p∧p)=p:=by simp
theorem Zl15 {p:Prop}:(True→p)=p:=by simp
theorem Zl16 {p:Prop}:(p→True)=True:=by simp
theorem Zl17 {n:Nat}:0+n=n:=by simp
theorem Zl18 {n:Nat}:n+0=n:=rfl
theorem Zl19 {b c:Bool}:(bif b then c else false)=(b && c):=by simp
theorem Zl20 {b c:Bool}:(bif b then true else c)=(b || c):=by simp
theorem Zl21 {n:Nat}:((n:Int)).toNat=n:=rfl
theorem Zl22:(false=true)=False:=by simp
theorem Zl23 {α:Type} {a b:α}:(a≠b)=¬ (a=b):=by simp
theorem Zl24:(¬ False)=True:=by simp
theorem Zl25:(¬ True)=False:=by simp
theorem Zl26 {a b:Nat}:(Key.l a=Key.l b)=(a=b):=by simp
theorem Zl27 {a b:Nat}:(Key.b a=Key.b b)=(a=b):=by simp
theorem Zl28 {α:Type} {a:α} {l:List α} {d:α}:(a :: l).getD 0 d=a:=rfl
theorem Zl29 {α:Type} {a:α} {l:List α} {d:α} {n:Nat}:(a :: l).getD (n+1) d=l.getD n d:=rfl
theorem Zl30 {α:Type} {d:α} {n:Nat}:([]:List α).getD n d=d:=rfl
theorem Zl31 {α:Type} {a:α} {l:List α}:(a :: l)[0]?=some a:=rfl
theorem Zl32 {α:Type} {a:α} {l:List α} {n:Nat}:(a :: l)[n+1]?=l[n]?:=rfl
theorem Zl33 {α:Type} {a b:α} {l:List α}:(a :: l).set 0 b=b :: l:=rfl
theorem Zl34 {α:Type} {a b:α} {l:List α} {n:Nat}:(a :: l).set (n+1) b=a :: l.set n b:=rfl
theorem Zl35 {α β:Type} {f:α→β} {a:α} {l:List α}:(a :: l).map f=f a :: l.map f:=rfl
theorem Zl36 {α β:Type} {f:α→β}:[].map f=[]:=rfl
theorem Zl37 {α:Type} {a:α} {l:List α}:(a :: l).length=l.length+1:=rfl
theorem Zl38 {α:Type}:([]:List α).length=0:=rfl
theorem Zl39 {α:Type} {p:α→Bool} {a:α} {l:List α}:(a :: l).all p=(p a && l.all p):=rfl
theorem Zl40 {α:Type} {p:α→Bool}:[].all p=true:=rfl
theorem Zl41 {α:Type} {a:α} {l:List α} {n:Nat}:(a :: l).take (n+1)=a :: l.take n:=rfl
theorem Zl42 {α:Type} {l:List α}:l.take 0=[]:=rfl
theorem Zl43 {α:Type} {a:α} {l:List α} {n:Nat}:(a :: l).drop (n+1)=l.drop n:=rfl
theorem Zl44 {α:Type} {l:List α}:l.drop 0=l:=rfl
theorem Zl45 {α β:Type} {f:α→β} {a:α}:(some a).map f=some (f a):=rfl
theorem Zl46 {α β:Type} {f:α→β}:(none:Option α).map f=none:=rfl
theorem Zl47 {α:Type} {a:α} {l m:List α}:(a :: l)++m=a :: (l++m):=rfl
theorem Zl48 {α:Type} {l:List α}:[]++l=l:=rfl
theorem Zl49 {α:Type} {a:α} {l:List α}:(a :: l).isEmpty=false:=rfl
theorem Zl50 {α:Type}:([]:List α).isEmpty=true:=rfl
abbrev qO (d:Nat) (o:IOp):IOper:=⟨some d,o,none⟩
abbrev qM (d s:Nat):IOper:=⟨some d,.mov (.t s),none⟩
abbrev oo:AV:=.any
theorem WW.{u}:(∀ {α:Sort u} (a b:α),(if True then a else b)=a)∧(∀ {α:Sort u} (a b:α),(if False then a else b)=b)∧(∀ {α:Sort u} [Nonempty α] (b:Prop),(α→b)↔b):=⟨fun _ _=>rfl,fun _ _=>rfl,fun _=>by simp⟩
def ZZ:=And.intro (And.intro (And.intro (And.intro (And.intro (And.intro (And.intro (And.intro @awp_skip (And.intro @awp_exit @awp_ret)) (And.intro @awp_seq (And.intro @awp_block @awp_reg))) (And.intro (And.intro @awp_drg (And.intro @awp_drp @awp_loop)) (And.intro (And.intro @awp_cond @awp_cut) (And.intro @thenC_n @thenC_r)))) (And.intro (And.intro (And.intro @thenC_e (And.intro @blockQ_n @blockQ_r)) (And.intro @blockQ_e (And.intro @roundQ_n @roundQ_r))) (And.intro (And.intro @roundQ_e (And.intro @midQ_n @midQ_r)) (And.intro (And.intro @midQ_e @retQ_r) (And.intro @retQ_n @retF_r))))) (And.intro (And.intro (And.intro (And.intro @retF_n (And.intro @retT_r @retT_n)) (And.intro @RetK_some (And.intro @mkRes1 @mkRes2))) (And.intro (And.intro @mkRes3 (And.intro @BrC_true @BrC_false)) (And.intro (And.intro @OpsK_some @GdK_some) (And.intro @GdK_none @StepK_some)))) (And.intro (And.intro (And.intro @ops_nil (And.intro @o_mov @o_pick)) (And.intro (And.intro @o_bin @o_bnb) (And.intro @o_eqa @o_not))) (And.intro (And.intro @o_neg (And.intro @o_len @o_sln)) (And.intro (And.intro @o_mx @o_mn) (And.intro @o_idx @o_ssl)))))) (And.intro (And.intro (And.intro (And.intro (And.intro @o_vsl (And.intro @o_ixa @o_fla)) (And.intro @o_fld (And.intro @o_ld @o_ldl))) (And.intro (And.intro @o_ldn (And.intro @o_ext @o_bld)) (And.intro (And.intro @o_cvi @o_cvs) (And.intro @o_b2s @o_bsl)))) (And.intro (And.intro (And.intro @o_nck (And.intro @o_nli @o_mkf)) (And.intro @o_cap0 (And.intro @o_vsn @o_mpl))) (And.intro (And.intro @o_mpn (And.intro @o_bldg @o_ldg)) (And.intro (And.intro @o_mplk @o_ixv) (And.intro @o_asl @o_nilr))))) (And.intro (And.intro (And.intro (And.intro @o_alc (And.intro @o_box @o_st)) (And.intro @o_stk (And.intro @o_mpk @o_app))) (And.intro (And.intro @o_bsr (And.intro @o_s2b @o_mks)) (And.intro (And.intro @o_apz @o_trn) (And.intro @o_mkm @o_mpu)))) (And.intro (And.intro (And.intro @o_stg (And.intro @o_alcd @o_bsrd)) (And.intro (And.intro @o_rng @o_ent) (And.intro @o_mpd @o_cpy))) (And.intro (And.intro @o_mkk (And.intro @o_mpuk @o_aps)) (And.intro (And.intro @g_mov @g_pick) (And.intro @g_bin @g_bnb))))))) (And.intro (And.intro (And.intro (And.intro (And.intro (And.intro @g_eqa (And.intro @g_not @g_neg)) (And.intro @g_len (And.intro @g_sln @g_mx))) (And.intro (And.intro @g_mn (And.intro @g_idx @g_ssl)) (And.intro (And.intro @g_vsl @g_ixa) (And.intro @g_fla @g_fld)))) (And.intro (And.intro (And.intro @g_ld (And.intro @g_ldl @g_ldn)) (And.intro @g_ext (And.intro @g_bld @g_cvi))) (And.intro (And.intro @g_cvs (And.intro @g_b2s @g_bsl)) (And.intro (And.intro @g_nck @g_nli) (And.intro @g_mkf @g_cap0))))) (And.intro (And.intro (And.intro (And.intro @g_vsn (And.intro @g_mpl @g_mpn)) (And.intro @g_bldg (And.intro @g_ldg @g_mplk))) (And.intro (And.intro @g_ixv (And.intro @g_asl @ops_call)) (And.intro (And.intro @ops_dcall @ops_pcall) (And.intro @ops_fcl @ops_pcallg)))) (And.intro (And.intro (And.intro @ops_callg (And.intro @ops_callv @ops_callvg)) (And.intro (And.intro @FnK_some @ops_pcv) (And.intro @ops_pvks @ops_fz))) (And.intro (And.intro @ops_hole (And.intro @ops_isn @ops_nxt)) (And.intro (And.intro @FzK_some @FzK_none) (And.intro @Zl13 @Zl28)))))) (And.intro (And.intro (And.intro (And.intro (And.intro @Zl29 (And.intro @Zl30 @Zl31)) (And.intro @Zl32 (And.intro @Zl33 @Zl34))) (And.intro (And.intro @Zl35 (And.intro @Zl36 @Zl37)) (And.intro (And.intro @Zl38 @Zl39) (And.intro @Zl40 @Zl41)))) (And.intro (And.intro (And.intro @Zl42 (And.intro @Zl43 @Zl44)) (And.intro @Zl0 (And.intro @Zl1 @Zl45))) (And.intro (And.intro @Zl46 (And.intro @Zl3 @Zl4)) (And.intro (And.intro @Zl5 @Zl6) (And.intro @Zl7 @Zl8))))) (And.intro (And.intro (And.intro (And.intro @Zl9 (And.intro @Zl10 @Zl11)) (And.intro @Zl12 (And.intro @Zl26 @Zl27))) (And.intro (And.intro @Zl14 (And.intro @Zl15 @Zl16)) (And.intro (And.intro @Zl17 @Zl18) (And.intro @Zl2 @Zl48)))) (And.intro (And.intro (And.intro @Zl47 (And.intro @Zl19 @Zl20)) (And.intro (And.intro @bool_beq_true @bool_beq_false) (And.intro @map_kill_p @map_thaw_p))) (And.intro (And.intro @Zl21 (And.intro @Zl49 @Zl50)) (And.intro (And.intro @Zl22 @Zl23) (And.intro @Zl24 @Zl25)))))))) (And.intro (And.intro (And.intro (And.intro (And.intro (And.intro (And.intro (And.intro @FnG_some @IsnK_some) (And.intro @Za.eq_1 @Zb.eq_1)) (And.intro (And.intro @Zb.eq_2 @Zb.eq_3) (And.intro @Zc.eq_1 @Zc.eq_2))) (And.intro (And.intro (And.intro @Zd.eq_1 @Zd.eq_2) (And.intro @Zf.eq_1 @Zf.eq_2)) (And.intro (And.intro @Zf.eq_3 @Zf.eq_4) (And.intro @Zf.eq_5 @Zf.eq_6)))) (And.intro (And.intro (And.intro (And.intro @Zf.eq_7 @Zf.eq_8) (And.intro @Zf.eq_9 @Zf.eq_10)) (And.intro (And.intro @Zf.eq_11 @Zf.eq_12) (And.intro @Zf.eq_13 @Zf.eq_14))) (And.intro (And.intro (And.intro @Zf.eq_15 @Zf.eq_16) (And.intro @Zf.eq_17 @Zf.eq_18)) (And.intro (And.intro @Zf.eq_19 @Zf.eq_20) (And.intro @Zf.eq_21 (And.intro @Zf.eq_22 @Zf.eq_23)))))) (And.intro (And.intro (And.intro (And.intro (And.intro @Zf.eq_24 @Zf.eq_25) (And.intro @Zf.eq_26 @Zf.eq_27)) (And.intro (And.intro @Zf.eq_28 @Zf.eq_29) (And.intro @Zf.eq_30 @Zf.eq_31))) (And.intro (And.intro (And.intro @Zf.eq_32 @Zf.eq_33) (And.intro @Zf.eq_34 @Zf.eq_35)) (And.intro (And.intro @Zf.eq_36 @Zf.eq_37) (And.intro @Zf.eq_38 (And.intro @Zf.eq_39 @Zf.eq_40))))) (And.intro (And.intro (And.intro (And.intro @Zg.eq_1 @Zg.eq_2) (And.intro @Zh.eq_1 @Zi.eq_1)) (And.intro (And.intro @Zi.eq_2 @Zi.eq_3) (And.intro @rd.eq_1 @rd.eq_2))) (And.intro (And.intro (And.intro @rd.eq_3 @rd.eq_4) (And.intro @AV.un.eq_1 @AV.un.eq_2)) (And.intro (And.intro @AV.unA.eq_1 @AV.ad.eq_1) (And.intro @AV.ad.eq_2 (And.intro @Zj.eq_1 @Zk.eq_1))))))) (And.intro (And.intro (And.intro (And.intro (And.intro (And.intro @Zk.eq_2 @Zl.eq_1) (And.intro @Zl.eq_2 @Zl.eq_3)) (And.intro (And.intro @Zm.eq_1 @Zm.eq_2) (And.intro @Zn.eq_1 @Zo.eq_1))) (And.intro (And.intro (And.intro @Zo.eq_2 @Zo.eq_3) (And.intro @Zo.eq_4 @Zo.eq_5)) (And.intro (And.intro @Zp.eq_1 @Zp.eq_2) (And.intro @Zp.eq_3 @Zp.eq_4)))) (And.intro (And.intro (And.intro (And.intro @Zp.eq_5 @Zp.eq_6) (And.intro @Zp.eq_7 @Zp.eq_8)) (And.intro (And.intro @Zp.eq_9 @Zp.eq_10) (And.intro @Zp.eq_11 @Zp.eq_12))) (And.intro (And.intro (And.intro @Zp.eq_13 @Zp.eq_14) (And.intro @Zq.eq_1 @Zq.eq_2)) (And.intro (And.intro @Zq.eq_3 @Zr.eq_1) (And.intro @Zr.eq_2 (And.intro @Zr.eq_3 @Zr.eq_4)))))) (And.intro (And.intro (And.intro (And.intro (And.intro @Zr.eq_5 @Zr.eq_6) (And.intro @Zr.eq_7 @Zr.eq_8)) (And.intro (And.intro @Zs.eq_1 @Zs.eq_2) (And.intro @Zs.eq_3 @Zt.eq_1))) (And.intro (And.intro (And.intro @Zu.eq_1 @Zu.eq_2) (And.intro @Zu.eq_3 @Zu.eq_4)) (And.intro (And.intro @Zu.eq_5 @Zv.eq_1) (And.intro @Zv.eq_2 (And.intro @Zw.eq_1 @Zw.eq_2))))) (And.intro (And.intro (And.intro (And.intro @Zw.eq_3 @Zw.eq_4) (And.intro @Zx.eq_1 @Zx.eq_2)) (And.intro (And.intro @Zx.eq_3 @Zy.eq_1) (And.intro @Zy.eq_2 @Zy.eq_3))) (And.intro (And.intro (And.intro @Zz.eq_1 @Zz.eq_2) (And.intro @Zaa.eq_1 @Zab.eq_1)) (And.intro (And.intro @Zab.eq_2 @Zac.eq_1) (And.intro @Zac.eq_2 (And.intro @Zad.eq_1 @Zad.eq_2)))))))) (And.intro (And.intro (And.intro (And.intro (And.intro (And.intro (And.intro @Zae.eq_1 @Zae.eq_2) (And.intro @Zaf.eq_1 @Zaf.eq_2)) (And.intro (And.intro @Zag.eq_1 @Zag.eq_2) (And.intro @Zag.eq_3 @Zag.eq_4))) (And.intro (And.intro (And.intro @Zag.eq_5 @Zah.eq_1) (And.intro @Zah.eq_2 @Zah.eq_3)) (And.intro (And.intro @Zai.eq_1 @Zai.eq_2) (And.intro @Zaj.eq_1 @Zaj.eq_2)))) (And.intro (And.intro (And.intro (And.intro @Zaj.eq_3 @Zak.eq_1) (And.intro @Zak.eq_2 @Zak.eq_3)) (And.intro (And.intro @Zal.eq_1 @Zal.eq_2) (And.intro @Zal.eq_3 @Zal.eq_4))) (And.intro (And.intro (And.intro @Zam.eq_1 @Zan.eq_1) (And.intro @Zao.eq_1 @Zao.eq_2)) (And.intro (And.intro @wk1.eq_1 @wk1.eq_2) (And.intro @wk.eq_1 (And.intro @wk.eq_2 @wk.eq_3)))))) (And.intro (And.intro (And.intro (And.intro (And.intro @Zap.eq_1 @Zap.eq_2) (And.intro @Zap.eq_3 @Zaq.eq_1)) (And.intro (And.intro @Zar.eq_1 @Zas.eq_1) (And.intro @Zas.eq_2 @Zat.eq_1))) (And.intro (And.intro (And.intro @Zat.eq_2 @Zau.eq_1) (And.intro @Zau.eq_2 @Zav.eq_1)) (And.intro (And.intro @Zaw.eq_1 @Zaw.eq_2) (And.intro @AV.kill.eq_1 (And.intro @AV.kill.eq_2 @AV.kill.eq_3))))) (And.intro (And.intro (And.intro (And.intro @AV.kill.eq_4 @AV.kill.eq_5) (And.intro @AV.kill.eq_6 @AV.kill.eq_7)) (And.intro (And.intro @AV.kill.eq_8 @AV.kill.eq_9) (And.intro @AV.kill.eq_10 @AV.kill.eq_11))) (And.intro (And.intro (And.intro @AO.kill.eq_1 @AO.kill.eq_2) (And.intro @AO.kill.eq_3 @AO.kill.eq_4)) (And.intro (And.intro @AO.kill.eq_5 @AO.kill.eq_6) (And.intro @AV.thaw.eq_1 (And.intro @AV.thaw.eq_2 @AV.thaw.eq_3))))))) (And.intro (And.intro (And.intro (And.intro (And.intro (And.intro @AV.thaw.eq_4 @AV.thaw.eq_5) (And.intro @AV.thaw.eq_6 @AV.thaw.eq_7)) (And.intro (And.intro @AV.thaw.eq_8 @AV.thaw.eq_9) (And.intro @AV.thaw.eq_10 @AV.thaw.eq_11))) (And.intro (And.intro (And.intro @Zax.eq_1 @Zax.eq_2) (And.intro @AO.thaw.eq_1 @AO.thaw.eq_2)) (And.intro (And.intro @AO.thaw.eq_3 @AO.thaw.eq_4) (And.intro @AO.thaw.eq_5 (And.intro @AO.thaw.eq_6 @Zay.eq_1))))) (And.intro (And.intro (And.intro (And.intro @Zay.eq_2 @Zay.eq_3) (And.intro @Zay.eq_4 @Zaz.eq_1)) (And.intro (And.intro @Zaz.eq_2 @Zba.eq_1) (And.intro @Zba.eq_2 @Zbb.eq_1))) (And.intro (And.intro (And.intro @Zbb.eq_2 @Zbc.eq_1) (And.intro @Zbc.eq_2 @Zbd.eq_1)) (And.intro (And.intro @Zbd.eq_2 @Zbe.eq_1) (And.intro @Zbe.eq_2 (And.intro @Zbf.eq_1 @Zbf.eq_2)))))) (And.intro (And.intro (And.intro (And.intro (And.intro @Zbf.eq_3 @Zbf.eq_4) (And.intro @Zbg.eq_1 @Zbg.eq_2)) (And.intro (And.intro @Zbh.eq_1 @Zbh.eq_2) (And.intro @Zbi.eq_1 @Zbi.eq_2))) (And.intro (And.intro (And.intro @Zbi.eq_3 @Zbi.eq_4) (And.intro @Zbi.eq_5 @Zbi.eq_6)) (And.intro (And.intro @Zbj.eq_1 @Zbj.eq_2) (And.intro @Zbj.eq_3 (And.intro @Zbj.eq_4 @Zbj.eq_5))))) (And.intro (And.intro (And.intro (And.intro @Zbj.eq_6 @Zbk.eq_1) (And.intro @Zbk.eq_2 @Zbk.eq_3)) (And.intro (And.intro @Zbk.eq_4 @Zbk.eq_5) (And.intro @Zbk.eq_6 @Zbl.eq_1))) (And.intro (And.intro (And.intro @Zbl.eq_2 @FclK_some) (And.intro @argP0_nil @argP0_p)) (And.intro (And.intro @thaw_P.eq_1 @thaw_P.eq_2) (And.intro @caps_P.eq_1 (And.intro @caps_P.eq_2 @caps_P.eq_3)))))))))
theorem zE_ {p:Prop} (h:p:=by simp only [ZZ,WW,Ze,reduceCtorEq,Nat.reduceAdd,Nat.reduceMul,Nat.reduceLeDiff,Nat.reduceLT,Nat.reduceEqDiff]):p:=h
theorem zF_ {p:Prop} (h:p:=by (simp only [ZZ,WW,Ze,reduceCtorEq,Nat.reduceAdd,Nat.reduceMul,Nat.reduceLeDiff,Nat.reduceLT,Nat.reduceEqDiff];try trivial)):p:=h
theorem zG_ {p:Prop} (h:p:=by (simp only [ZZ,WW,Ze,reduceCtorEq,Nat.reduceAdd,Nat.reduceMul,Nat.reduceLeDiff,Nat.reduceLT,Nat.reduceEqDiff];trivial)):p:=h
theorem sc_ {p:Prop} (h:p:=by first|first|assumption|trivial|exact (fun hq=>by rw [hq];rfl)|exact i64_of (by omega) (by omega)|omega|(simp;done)|(simp;omega)|(intro hsc;have hs0:=hsc;(try have hsd:=of_decide_eq_true hsc);(try simp only [Bool.not_eq_true',Bool.or_eq_false_iff,Bool.and_eq_true,Bool.or_eq_true,decide_eq_true_eq,decide_eq_false_iff_not] at hsc);(repeat' (with_reducible apply And.intro))<;>(first|assumption|trivial|exact (fun hq=>by rw [hq];rfl)|exact i64_of (by omega) (by omega)|omega|(simp;done)|(simp;omega)|(intro hse;simp [hse,hs0];done)|(intro hse;simp only [hse,hs0,Bool.true_and,Bool.and_true,Bool.not_false,Bool.not_true,Bool.and_self];done)))):p:=h
def ir_base_In:IC:=(.seq (.reg [qO 6 (.mov (.c (.bool false)))]) (.seq (.reg [qM 7 0,qM 8 1,qO 9 (.bin .geq (.t 7) (.t 8)),qM 10 9,⟨some 11,.mov (.t 0),(some (10,true))⟩,⟨some 12,.mov (.t 2),(some (10,true))⟩,⟨some 13,.bin .leq (.t 11) (.t 12),(some (10,true))⟩,qO 14 (.pick (.t 10) (.t 13) (.c (.bool false))),qM 6 14]) .ret))
def rs_base_In:List IRes:=[.t 6]
theorem ck_base_In:chkF Tryz.prog Tryz.f45 ir_base_In rs_base_In 15=true:=by kernel_rfl
def ir_base_When:IC:=(.seq (.reg [qO 4 (.mov (.c (.int .i64 0)))]) (.seq (.seq (.reg [qM 5 0]) (.cond (.t 5) (.seq (.reg [qM 6 1,qM 4 6]) .ret) .skip)) (.seq (.reg [qO 4 (.mov (.c (.int .i64 0)))]) .ret)))
def rs_base_When:List IRes:=[.t 4]
theorem ck_base_When:chkF Tryz.prog Tryz.f41 ir_base_When rs_base_When 7=true:=by kernel_rfl
def ir_base_First_L0:IC:=(.seq (.reg [qO 8 (.bin .lss (.t 7) (.t 6))]) (.seq (.cond (.t 8) .skip (.exit 0)) (.seq (.block 1 (.seq (.reg [qO 9 (.ixa 1 (.t 5) (.t 7)),qO 10 (.ld 1 false (.t 9)),qM 4 10]) (.seq (.reg [qM 11 4,qO 12 (.bin .neq (.t 11) (.c (.int .i64 0)))]) (.cond (.t 12) (.seq (.reg [qM 13 4,qM 2 13]) .ret) .skip)))) (.reg [qO 14 (.bin .add (.t 7) (.c (.int .i64 1))),qM 7 14]))))
def ir_base_First:IC:=(.seq (.reg [qO 2 (.mov (.c (.int .i64 0)))]) (.seq (.seq (.reg [qM 5 0,qO 6 (.len (.t 5)),qO 7 (.mov (.c (.int .i64 0)))]) (.block 0 (.loop ir_base_First_L0))) (.seq (.reg [qO 2 (.mov (.c (.int .i64 0)))]) .ret)))
def rs_base_First:List IRes:=[.t 2]
theorem ck_base_First:chkF Tryz.prog Tryz.f40 ir_base_First rs_base_First 15=true:=by kernel_rfl
def ir_chasemake_Below:IC:=(.seq (.reg [qO 4 (.mov (.c (.int .i64 0)))]) (.seq (.seq (.reg [qM 5 1,qO 6 (.bin .lss (.t 5) (.c (.int .i64 1)))]) (.cond (.t 6) (.seq (.reg [qO 4 (.mov (.c (.int .i64 0)))]) .ret) .skip)) (.seq (.reg [qM 7 0,qM 8 1,qO 9 (.bin .rem (.t 7) (.t 8)),qM 0 9]) (.seq (.seq (.reg [qM 10 0,qO 11 (.bin .lss (.t 10) (.c (.int .i64 0)))]) (.cond (.t 11) (.reg [qM 12 0,qM 13 1,qO 14 (.bin .add (.t 12) (.t 13)),qM 0 14]) .skip)) (.cut (.seq (.reg [qM 15 0,qM 4 15]) .ret))))))
def rs_chasemake_Below:List IRes:=[.t 4]
theorem ck_chasemake_Below:chkF Tryz.prog Tryz.f55 ir_chasemake_Below rs_chasemake_Below 16=true:=by kernel_rfl
def ir_chasemake_Stream_Next:IC:=(.seq (.reg [qO 4 (.mov (.c (.int .i64 0)))]) (.seq (.reg [qM 7 0,qO 8 (.nck (.t 7)),qO 9 (.fla 1 (.t 8)),qO 10 (.ld 1 false (.t 9)),qO 11 (.bin .add (.t 10) (.c (.int .i64 1))),qO 12 (.nck (.t 7)),qO 13 (.fla 1 (.t 12)),⟨none,.st 1 (.t 13) (.t 11),none⟩]) (.seq (.seq (.reg [qM 14 0,qO 15 (.nck (.t 14)),qO 16 (.fla 0 (.t 15)),qO 17 (.ld 1 false (.t 16)),qO 18 (.len (.t 17)),qO 19 (.bin .eql (.t 18) (.c (.int .i64 0)))]) (.cond (.t 19) (.seq (.reg [qM 20 0,qO 21 (.nck (.t 20)),qO 22 (.fla 1 (.t 21)),qO 23 (.ld 1 false (.t 22)),qO 24 (.bin .mul (.t 23) (.c (.int .i64 7919))),qM 25 1,qO 26 (.call 55 [.t 24,.t 25]),qM 4 26]) .ret) .skip)) (.seq (.drg [qM 27 0,qO 28 (.nck (.t 27)),qO 29 (.fla 1 (.t 28)),qO 30 (.ld 1 false (.t 29)),qO 31 (.bin .sub (.t 30) (.c (.int .i64 1))),qM 32 0,qO 33 (.nck (.t 32)),qO 34 (.fla 0 (.t 33)),qO 35 (.ld 1 false (.t 34)),qO 36 (.len (.t 35)),qO 37 (.bin .rem (.t 31) (.t 36)),qM 5 37]) (.seq (.drg [qM 38 0,qO 39 (.nck (.t 38)),qO 40 (.fla 1 (.t 39)),qO 41 (.ld 1 false (.t 40)),qO 42 (.bin .sub (.t 41) (.c (.int .i64 1))),qM 43 0,qO 44 (.nck (.t 43)),qO 45 (.fla 0 (.t 44)),qO 46 (.ld 1 false (.t 45)),qO 47 (.len (.t 46)),qO 48 (.bin .quo (.t 42) (.t 47)),qM 6 48]) (.seq (.reg [qM 49 0,qO 50 (.nck (.t 49)),qO 51 (.fla 0 (.t 50)),qO 52 (.ld 1 false (.t 51)),qM 53 5,qO 54 (.ixa 1 (.t 52) (.t 53)),qO 55 (.ld 1 false (.t 54)),qO 56 (.call 55 [.t 55,.c (.int .i64 1073741824)]),qM 57 6,qM 58 5,qO 59 (.bin .add (.c (.int .i64 7919)) (.t 58)),qO 60 (.bin .mul (.t 57) (.t 59)),qO 61 (.bin .add (.t 56) (.t 60)),qM 62 1,qO 63 (.call 55 [.t 61,.t 62]),qM 4 63]) .ret))))))
def rs_chasemake_Stream_Next:List IRes:=[.t 4]
theorem ck_chasemake_Stream_Next:chkF Tryz.prog Tryz.f17 ir_chasemake_Stream_Next rs_chasemake_Stream_Next 64=true:=by kernel_rfl
def ir_chasemake_Stream_Flip:IC:=(.seq (.reg [qO 4 (.mov (.c (.bool false)))]) (.seq (.reg [qM 5 0,qM 6 1,qO 7 (.call 17 [.t 5,.t 6]),qO 8 (.bin .eql (.t 7) (.c (.int .i64 0))),qM 4 8]) .ret))
def rs_chasemake_Stream_Flip:List IRes:=[.t 4]
theorem ck_chasemake_Stream_Flip:chkF Tryz.prog Tryz.f7 ir_chasemake_Stream_Flip rs_chasemake_Stream_Flip 9=true:=by kernel_rfl
def ir_chasemake_Stream_Range:IC:=(.seq (.reg [qO 6 (.mov (.c (.int .i64 0)))]) (.seq (.seq (.reg [qM 7 2,qM 8 1,qO 9 (.bin .lss (.t 7) (.t 8))]) (.cond (.t 9) (.seq (.reg [qM 10 1,qM 6 10]) .ret) .skip)) (.seq (.reg [qM 11 1,qM 12 0,qM 13 2,qM 14 1,qO 15 (.bin .sub (.t 13) (.t 14)),qO 16 (.bin .add (.t 15) (.c (.int .i64 1))),qO 17 (.call 17 [.t 12,.t 16]),qO 18 (.bin .add (.t 11) (.t 17)),qM 6 18]) .ret)))
def rs_chasemake_Stream_Range:List IRes:=[.t 6]
theorem ck_chasemake_Stream_Range:chkF Tryz.prog Tryz.f16 ir_chasemake_Stream_Range rs_chasemake_Stream_Range 19=true:=by kernel_rfl
def ir_chasemake_Stream_Pick:IC:=(.seq (.reg [qO 4 (.mov (.c (.int .i64 0)))]) (.seq (.reg [qM 5 1,qM 6 0,qM 7 1,qO 8 (.len (.t 7)),qO 9 (.call 17 [.t 6,.t 8]),qO 10 (.ixa 1 (.t 5) (.t 9)),qO 11 (.ld 1 false (.t 10)),qM 4 11]) .ret))
def rs_chasemake_Stream_Pick:List IRes:=[.t 4]
theorem ck_chasemake_Stream_Pick:chkF Tryz.prog Tryz.f37 ir_chasemake_Stream_Pick rs_chasemake_Stream_Pick 12=true:=by kernel_rfl
def ir_chasemake_Stream_h06one:IC:=(.seq (.reg [qO 4 (.mov (.c (.str [])))]) (.seq (.reg [qM 5 1,qM 6 0,qM 7 1,qO 8 (.len (.t 7)),qO 9 (.call 17 [.t 6,.t 8]),qO 10 (.ixa 1 (.t 5) (.t 9)),qO 11 (.ld 1 false (.t 10)),qM 4 11]) .ret))
def rs_chasemake_Stream_h06one:List IRes:=[.t 4]
theorem ck_chasemake_Stream_h06one:chkF Tryz.prog Tryz.f36 ir_chasemake_Stream_h06one rs_chasemake_Stream_h06one 12=true:=by kernel_rfl
section
variable {E:Envt}
def inE (n lo hi:Int):Bool:=decide (lo≤n) && decide (n≤hi)
theorem In_ok (n lo hi:Int):PCall Tryz.prog E 45 [int n,int lo,int hi] (·=.bool (inE n lo hi)):=by
 refine pcallF mixed Tryz.func45 ck_base_In ?_
 simp only [a0,l0,OS.ao,List.map_cons,List.map_nil,List.length_cons,List.length_nil,List.cons_append,List.nil_append,Nat.reduceSub,Nat.reduceAdd,List.replicate_succ,List.replicate_zero,ir_base_In,rs_base_In,ZZ,WW,Ze,reduceCtorEq,Nat.reduceAdd,Nat.reduceMul,Nat.reduceLeDiff,Nat.reduceLT,Nat.reduceEqDiff]
 rfl
def whenE (b:Bool) (e:Int):Int:=if b=true then e else 0
theorem When_ok (b:Bool) (e:Int):PCall Tryz.prog E 41 [.bool b,int e] (·=int (whenE b e)):=by
 refine pcallF mixed Tryz.func41 ck_base_When ?_
 simp only [a0,l0,OS.ao,List.map_cons,List.map_nil,List.length_cons,List.length_nil,List.cons_append,List.nil_append,Nat.reduceSub,Nat.reduceAdd,List.replicate_succ,List.replicate_zero,ir_base_When,rs_base_When,ZZ,WW,Ze,reduceCtorEq,Nat.reduceAdd,Nat.reduceMul,Nat.reduceLeDiff,Nat.reduceLT,Nat.reduceEqDiff]
 refine br ?_ ?_
 all_goals
  rintro rfl
  simp only [ZZ,WW,Ze,reduceCtorEq,Nat.reduceAdd,Nat.reduceMul,Nat.reduceLeDiff,Nat.reduceLT,Nat.reduceEqDiff]
  rfl
def firstE:List Int→Int
 |[]=>0
 |e :: r=>if e=0 then firstE r else e
theorem firstE_drop (l:List Int) (k:Nat) (x:Int) (h:l[k]?=some x):firstE (l.drop k)=if x=0 then firstE (l.drop (k+1)) else x:=by
 have hk:=(List.getElem?_eq_some_iff.1 h).1
 rw [List.drop_eq_getElem_cons hk,(List.getElem?_eq_some_iff.1 h).2]
 rfl
theorem First_ok (l:List Int) (hl:l.length≤1000000):PCall Tryz.prog E 40 [ints l] (·=int (firstE l)):=by
 refine pcallF mixed Tryz.func40 ck_base_First ?_
 simp only [a0,l0,OS.ao,List.map_cons,List.map_nil,List.length_cons,List.length_nil,List.cons_append,List.nil_append,Nat.reduceSub,Nat.reduceAdd,List.replicate_succ,List.replicate_zero,ir_base_First,rs_base_First,ZZ,WW,Ze,reduceCtorEq,Nat.reduceAdd,Nat.reduceMul,Nat.reduceLeDiff,Nat.reduceLT,Nat.reduceEqDiff]
 simp only [ints,ZZ,WW,Ze,reduceCtorEq,Nat.reduceAdd,Nat.reduceMul,Nat.reduceLeDiff,Nat.reduceLT,Nat.reduceEqDiff]
 generalize hes:l.map (fun x=>[PV.int IntKind.i64 x])=es
 have hln:es.length=l.length:=by rw [← hes];simp
 refine loop_intro (fun n fr L=>∃ k:Nat,k≤l.length∧n=l.length - k∧firstE l=firstE (l.drop k)∧fr=[.p (.sl 1 es),oo,oo,oo,oo,.p (.sl 1 es),.p (int (es.length:Nat)),.p (int (k:Nat)),oo,oo,oo,oo,oo,oo,oo]∧L=[]) l.length [.p (.sl 1 es),oo,oo,oo,oo,.p (.sl 1 es),.p (int (es.length:Nat)),.p (int (0:Nat)),oo,oo,oo,oo,oo,oo,oo] [] ?_ ?_ ⟨0,by omega,by omega,rfl,rfl,rfl⟩ ?_
 ·(simp only [ZZ,WW,Ze,reduceCtorEq,Nat.reduceAdd,Nat.reduceMul,Nat.reduceLeDiff,Nat.reduceLT,Nat.reduceEqDiff];try trivial)
 ·simp only [ZZ,WW,Ze,reduceCtorEq,Nat.reduceAdd,Nat.reduceMul,Nat.reduceLeDiff,Nat.reduceLT,Nat.reduceEqDiff]
 rintro n fr L ⟨k,hk,rfl,hf,rfl,rfl⟩
 simp only [ir_base_First_L0,ZZ,WW,Ze,reduceCtorEq,Nat.reduceAdd,Nat.reduceMul,Nat.reduceLeDiff,Nat.reduceLT,Nat.reduceEqDiff]
 refine br ?_ ?_
 ·intro h
  have hlt:k < l.length:=by have:=of_decide_eq_true h;omega
  obtain ⟨x,hx⟩:∃ x,l[k]?=some x:=⟨_,List.getElem?_eq_getElem hlt⟩
  have hg:es.getD k []=[PV.int .i64 x]:=by rw [← hes];exact getD_map hx
  have hd:=firstE_drop l k x hx
  simp only [ZZ,WW,Ze,reduceCtorEq,Nat.reduceAdd,Nat.reduceMul,Nat.reduceLeDiff,Nat.reduceLT,Nat.reduceEqDiff,hg]
  refine ⟨by omega,by omega,?_⟩
  refine br ?_ ?_
  ·intro h2
   simp only [ZZ,WW,Ze,reduceCtorEq,Nat.reduceAdd,Nat.reduceMul,Nat.reduceLeDiff,Nat.reduceLT,Nat.reduceEqDiff]
   rw [hf,hd,if_neg (by simpa using h2)]
  ·intro h2
   simp only [ZZ,WW,Ze,reduceCtorEq,Nat.reduceAdd,Nat.reduceMul,Nat.reduceLeDiff,Nat.reduceLT,Nat.reduceEqDiff]
   refine ⟨i64_of (by omega) (by omega),?_⟩
   refine end_round (l.length - (k+1)) [.p (.sl 1 es),oo,oo,oo,oo,.p (.sl 1 es),.p (int (es.length:Nat)),.p (int ((k+1:Nat))),oo,oo,oo,oo,oo,oo,oo] [] (by omega) ?_ ?_ ⟨k+1,by omega,rfl,by rw [hf,hd,if_pos (by simpa using h2)],rfl,rfl⟩
   ·(simp only [ZZ,WW,Ze,reduceCtorEq,Nat.reduceAdd,Nat.reduceMul,Nat.reduceLeDiff,Nat.reduceLT,Nat.reduceEqDiff];try trivial)
   ·simp only [ZZ,WW,Ze,reduceCtorEq,Nat.reduceAdd,Nat.reduceMul,Nat.reduceLeDiff,Nat.reduceLT,Nat.reduceEqDiff]
 ·intro h
  have hge:l.length≤k:=by have:=of_decide_eq_false h;omega
  simp only [ZZ,WW,Ze,reduceCtorEq,Nat.reduceAdd,Nat.reduceMul,Nat.reduceLeDiff,Nat.reduceLT,Nat.reduceEqDiff]
  rw [hf,List.drop_eq_nil_of_le hge]
  rfl
def below (x n:Int):Int:=if n < 1 then 0 else x % n
theorem below_lo (x n:Int):0≤below x n:=by
 unfold below
 split
 ·omega
 ·exact Int.emod_nonneg x (by omega)
theorem below_hi (x n:Int) (h:1≤n):below x n < n:=by
 unfold below
 rw [if_neg (by omega)]
 exact Int.emod_lt_of_pos x (by omega)
theorem tmod_cases (x n:Int) (hn:1≤n):x % n=if x.tmod n < 0 then x.tmod n+n else x.tmod n:=by
 have h2:=Int.emod_nonneg x (show n≠0 by omega)
 have h3:=Int.emod_lt_of_pos x (show 0 < n by omega)
 rw [Int.tmod_eq_emod]
 split<;>split at *<;>omega
theorem tmod_bd (x n:Int) (hn:1≤n):-n < x.tmod n∧x.tmod n < n:=by
 have h2:=Int.emod_nonneg x (show n≠0 by omega)
 have h3:=Int.emod_lt_of_pos x (show 0 < n by omega)
 rw [Int.tmod_eq_emod]
 split<;>omega
theorem Below_ok (x n:Int) (h2:n≤9223372036854775807):PCall Tryz.prog E 55 [int x,int n] (·=int (below x n)):=by
 refine pcallF mixed Tryz.func55 ck_chasemake_Below ?_
 simp only [a0,l0,OS.ao,List.map_cons,List.map_nil,List.length_cons,List.length_nil,List.cons_append,List.nil_append,Nat.reduceSub,Nat.reduceAdd,List.replicate_succ,List.replicate_zero,ir_chasemake_Below,rs_chasemake_Below,ZZ,WW,Ze,reduceCtorEq,Nat.reduceAdd,Nat.reduceMul,Nat.reduceLeDiff,Nat.reduceLT,Nat.reduceEqDiff]
 refine br ?_ ?_
 ·intro h
  simp only [ZZ,WW,Ze,reduceCtorEq,Nat.reduceAdd,Nat.reduceMul,Nat.reduceLeDiff,Nat.reduceLT,Nat.reduceEqDiff]
  have:n < 1:=of_decide_eq_true h
  simp [below,this]
 ·intro h
  have hn:¬ n < 1:=of_decide_eq_false h
  have hb:=tmod_bd x n (by omega)
  have hc:=tmod_cases x n (by omega)
  simp only [ZZ,WW,Ze,reduceCtorEq,Nat.reduceAdd,Nat.reduceMul,Nat.reduceLeDiff,Nat.reduceLT,Nat.reduceEqDiff]
  refine ⟨by omega,?_⟩
  refine br_join (fun fr L=>∃ y,y=x % n∧fr=[.p (int y),oo,oo,oo,oo,oo,oo,oo,oo,oo,oo,oo,oo,oo,oo,oo]∧L=[]) ?_ ?_ ?_
  ·intro h1
   have h1:=of_decide_eq_true h1
   simp only [ZZ,WW,Ze,reduceCtorEq,Nat.reduceAdd,Nat.reduceMul,Nat.reduceLeDiff,Nat.reduceLT,Nat.reduceEqDiff]
   refine ⟨i64_of (by omega) (by omega),to_mid [.p (int (x.tmod n+n)),oo,oo,oo,oo,oo,oo,oo,oo,oo,oo,oo,oo,oo,oo,oo] [] ?_ ?_ ⟨_,by rw [hc,if_pos h1],rfl,rfl⟩⟩
   ·(simp only [ZZ,WW,Ze,reduceCtorEq,Nat.reduceAdd,Nat.reduceMul,Nat.reduceLeDiff,Nat.reduceLT,Nat.reduceEqDiff];try trivial)
   ·simp only [ZZ,WW,Ze,reduceCtorEq,Nat.reduceAdd,Nat.reduceMul,Nat.reduceLeDiff,Nat.reduceLT,Nat.reduceEqDiff]
  ·intro h1
   have h1:=of_decide_eq_false h1
   simp only [ZZ,WW,Ze,reduceCtorEq,Nat.reduceAdd,Nat.reduceMul,Nat.reduceLeDiff,Nat.reduceLT,Nat.reduceEqDiff]
   refine to_mid [.p (int (x.tmod n)),oo,oo,oo,oo,oo,oo,oo,oo,oo,oo,oo,oo,oo,oo,oo] [] ?_ ?_ ⟨_,by rw [hc,if_neg h1],rfl,rfl⟩
   ·(simp only [ZZ,WW,Ze,reduceCtorEq,Nat.reduceAdd,Nat.reduceMul,Nat.reduceLeDiff,Nat.reduceLT,Nat.reduceEqDiff];try trivial)
   ·simp only [ZZ,WW,Ze,reduceCtorEq,Nat.reduceAdd,Nat.reduceMul,Nat.reduceLeDiff,Nat.reduceLT,Nat.reduceEqDiff]
  ·rintro fr L ⟨y,rfl,rfl,rfl⟩
   simp only [ZZ,WW,Ze,reduceCtorEq,Nat.reduceAdd,Nat.reduceMul,Nat.reduceLeDiff,Nat.reduceLT,Nat.reduceEqDiff]
   simp [below,hn]
def stm (l:List Int) (k:Nat):List PV:=[ints l,int k]
abbrev T:TypeId:=25
theorem Next_ok (l:List Int) (k:Nat) (n:Int) (hk:k≤1000000) (hl:l.length≤9223372036854775807) (h2:n≤9223372036854775807) :
  SCall Tryz.prog E 17 T (stm l k) [int n] (fun x cs'=>∃ y,x=int (below y n)∧cs'=stm l (k+1)):=by
 unfold SCall
 refine gcallP mixed Tryz.func17 ck_chasemake_Stream_Next ?_
 simp only [a0,l0,OS.ao,List.map_cons,List.map_nil,List.length_cons,List.length_nil,List.cons_append,List.nil_append,Nat.reduceSub,Nat.reduceAdd,List.replicate_succ,List.replicate_zero,stm,ir_chasemake_Stream_Next,rs_chasemake_Stream_Next,ZZ,WW,Ze,reduceCtorEq,Nat.reduceAdd,Nat.reduceMul,Nat.reduceLeDiff,Nat.reduceLT,Nat.reduceEqDiff]
 refine ⟨i64_of (by omega) (by omega),?_⟩
 simp only [ints,ZZ,WW,Ze,reduceCtorEq,Nat.reduceAdd,Nat.reduceMul,Nat.reduceLeDiff,Nat.reduceLT,Nat.reduceEqDiff]
 generalize hes:l.map (fun x=>[PV.int IntKind.i64 x])=es
 have hln:es.length=l.length:=by rw [← hes];simp
 have hc:[PV.sl 1 es,int ((k:Int)+1)]=[PV.sl 1 es,int ((k+1:Nat):Int)]:=by simp
 refine br ?_ ?_
 ·intro h
  simp only [ZZ,WW,Ze,reduceCtorEq,Nat.reduceAdd,Nat.reduceMul,Nat.reduceLeDiff,Nat.reduceLT,Nat.reduceEqDiff]
  refine ⟨i64_of (by omega) (by omega),?_⟩
  refine use1 (Below_ok _ _ h2) rfl (.inl rfl) ?_
  simp only [ZZ,WW,Ze,reduceCtorEq,Nat.reduceAdd,Nat.reduceMul,Nat.reduceLeDiff,Nat.reduceLT,Nat.reduceEqDiff]
  exact fin_S [PV.sl 1 es,int ((k:Int)+1)] rfl ⟨_,rfl,hc⟩
 ·intro h
  have hne:¬ ((es.length:Int)=0):=of_decide_eq_false h
  simp only [ZZ,WW,Ze,reduceCtorEq,Nat.reduceAdd,Nat.reduceMul,Nat.reduceLeDiff,Nat.reduceLT,Nat.reduceEqDiff]
  refine drg0 ?_
  simp only [ZZ,WW,Ze,reduceCtorEq,Nat.reduceAdd,Nat.reduceMul,Nat.reduceLeDiff,Nat.reduceLT,Nat.reduceEqDiff]
  refine ⟨i64_of (by omega) (by omega),⟨by omega,?_⟩⟩
  refine drg0 ?_
  have hkk:(k:Int)+1 - 1=k:=by omega
  have hrem:(k:Int).tmod (es.length:Int)=((k % es.length:Nat):Int):=by rw [Int.tmod_eq_emod_of_nonneg (by omega)];rfl
  have hquo:(k:Int).tdiv (es.length:Int)=((k / es.length:Nat):Int):=by rw [Int.tdiv_eq_ediv_of_nonneg (by omega)];rfl
  have hq1:k / es.length≤k:=Nat.div_le_self _ _
  have hr1:k % es.length≤k:=Nat.mod_le _ _
  have hr2:k % es.length < es.length:=Nat.mod_lt _ (by omega)
  obtain ⟨x,hx⟩:∃ x,l[k % es.length]?=some x:=⟨_,List.getElem?_eq_getElem (by omega)⟩
  have hg:es.getD (k % es.length) []=[PV.int .i64 x]:=by rw [← hes];exact getD_map (by rw [hes];exact hx)
  simp only [ZZ,WW,Ze,reduceCtorEq,Nat.reduceAdd,Nat.reduceMul,Nat.reduceLeDiff,Nat.reduceLT,Nat.reduceEqDiff,hkk,hrem,hquo,hg]
  generalize k / es.length=q at *
  generalize k % es.length=r at *
  refine ⟨i64_of (by omega) (by omega),⟨hne,i64_of (by omega) (by omega)⟩,⟨by omega,by omega⟩,by omega,?_⟩
  refine use1 (Below_ok _ _ (by decide)) rfl (.inl rfl) ?_
  have hb1:=below_lo x 1073741824
  have hb2:=below_hi x 1073741824 (by omega)
  have hm:(q:Int) * (7919+(r:Int))≤1000000 * 1007919:=Int.mul_le_mul (by omega) (by omega) (by omega) (by omega)
  have hm0:0≤(q:Int) * (7919+(r:Int)):=Int.mul_nonneg (by omega) (by omega)
  simp only [ZZ,WW,Ze,reduceCtorEq,Nat.reduceAdd,Nat.reduceMul,Nat.reduceLeDiff,Nat.reduceLT,Nat.reduceEqDiff]
  refine ⟨i64_of (by omega) (by omega),i64_of (by omega) (by omega),i64_of (by omega) (by omega),?_⟩
  refine use1 (Below_ok _ _ h2) rfl (.inl rfl) ?_
  simp only [ZZ,WW,Ze,reduceCtorEq,Nat.reduceAdd,Nat.reduceMul,Nat.reduceLeDiff,Nat.reduceLT,Nat.reduceEqDiff]
  exact fin_S [PV.sl 1 es,int ((k:Int)+1)] rfl ⟨_,rfl,hc⟩
theorem below_idx (x:Int) (n:Nat) (hn:0 < n):∃ i:Nat,i < n∧below x n=i:=by
 have h0:=below_lo x n
 have h1:=below_hi x n (by omega)
 exact ⟨(below x n).toNat,by omega,by omega⟩
theorem Flip_ok (l:List Int) (k:Nat) (n:Int) (hk:k≤1000000) (hl:l.length≤9223372036854775807) (h2:n≤9223372036854775807) :
  SCall Tryz.prog E 7 T (stm l k) [int n] (fun x cs'=>∃ b,x=.bool b∧cs'=stm l (k+1)):=by
 unfold SCall
 refine gcallP mixed Tryz.func7 ck_chasemake_Stream_Flip ?_
 simp only [a0,l0,OS.ao,List.map_cons,List.map_nil,List.length_cons,List.length_nil,List.cons_append,List.nil_append,Nat.reduceSub,Nat.reduceAdd,List.replicate_succ,List.replicate_zero,ir_chasemake_Stream_Flip,rs_chasemake_Stream_Flip,ZZ,WW,Ze,reduceCtorEq,Nat.reduceAdd,Nat.reduceMul,Nat.reduceLeDiff,Nat.reduceLT,Nat.reduceEqDiff]
 refine useS (Next_ok l k n hk hl h2) rfl rfl rfl zE_ ?_
 rintro x cs' ⟨y,rfl,rfl⟩
 simp only [ZZ,WW,Ze,reduceCtorEq,Nat.reduceAdd,Nat.reduceMul,Nat.reduceLeDiff,Nat.reduceLT,Nat.reduceEqDiff]
 exact fin_S (stm l (k+1)) rfl ⟨_,rfl,rfl⟩
theorem Range_ok (l:List Int) (k:Nat) (lo hi:Int) (hk:k≤1000000) (hl:l.length≤9223372036854775807) (h1:-1000000000≤lo) (h2:lo≤hi) (h3:hi≤1000000000) :
  SCall Tryz.prog E 16 T (stm l k) [int lo,int hi] (fun x cs'=>∃ y,x=int y∧lo≤y∧y≤hi∧cs'=stm l (k+1)):=by
 unfold SCall
 refine gcallP mixed Tryz.func16 ck_chasemake_Stream_Range ?_
 simp only [a0,l0,OS.ao,List.map_cons,List.map_nil,List.length_cons,List.length_nil,List.cons_append,List.nil_append,Nat.reduceSub,Nat.reduceAdd,List.replicate_succ,List.replicate_zero,ir_chasemake_Stream_Range,rs_chasemake_Stream_Range,ZZ,WW,Ze,reduceCtorEq,Nat.reduceAdd,Nat.reduceMul,Nat.reduceLeDiff,Nat.reduceLT,Nat.reduceEqDiff]
 refine br (fun h=>absurd (of_decide_eq_true h) (by omega)) ?_
 intro _
 simp only [ZZ,WW,Ze,reduceCtorEq,Nat.reduceAdd,Nat.reduceMul,Nat.reduceLeDiff,Nat.reduceLT,Nat.reduceEqDiff]
 refine ⟨i64_of (by omega) (by omega),i64_of (by omega) (by omega),?_⟩
 refine useS (Next_ok l k _ hk hl (by omega)) rfl rfl rfl zE_ ?_
 rintro x cs' ⟨y,rfl,rfl⟩
 have b1:=below_lo y (hi - lo+1)
 have b2:=below_hi y (hi - lo+1) (by omega)
 simp only [ZZ,WW,Ze,reduceCtorEq,Nat.reduceAdd,Nat.reduceMul,Nat.reduceLeDiff,Nat.reduceLT,Nat.reduceEqDiff]
 exact ⟨i64_of (by omega) (by omega),fin_S (stm l (k+1)) rfl ⟨_,rfl,by omega,by omega,rfl⟩⟩
theorem Pick_ok (l:List Int) (k:Nat) (c:List Int) (hk:k≤1000000) (hl:l.length≤9223372036854775807) (h0:0 < c.length) (h1:c.length≤1000000) :
  SCall Tryz.prog E 37 T (stm l k) [ints c] (fun x cs'=>∃ y,x=int y∧y∈c∧cs'=stm l (k+1)):=by
 unfold SCall
 refine gcallP mixed Tryz.func37 ck_chasemake_Stream_Pick ?_
 simp only [a0,l0,OS.ao,List.map_cons,List.map_nil,List.length_cons,List.length_nil,List.cons_append,List.nil_append,Nat.reduceSub,Nat.reduceAdd,List.replicate_succ,List.replicate_zero,ir_chasemake_Stream_Pick,rs_chasemake_Stream_Pick,ZZ,WW,Ze,reduceCtorEq,Nat.reduceAdd,Nat.reduceMul,Nat.reduceLeDiff,Nat.reduceLT,Nat.reduceEqDiff]
 simp only [ints,ZZ,WW,Ze,reduceCtorEq,Nat.reduceAdd,Nat.reduceMul,Nat.reduceLeDiff,Nat.reduceLT,Nat.reduceEqDiff]
 generalize hes:c.map (fun x=>[PV.int IntKind.i64 x])=es
 have hln:es.length=c.length:=by rw [← hes];simp
 refine useS (Next_ok l k _ hk hl (by omega)) rfl rfl rfl zE_ ?_
 rintro x cs' ⟨y,rfl,rfl⟩
 obtain ⟨i,hi,hy⟩:=below_idx y es.length (by omega)
 rw [hy]
 obtain ⟨z,hz⟩:∃ z,c[i]?=some z:=⟨_,List.getElem?_eq_getElem (by omega)⟩
 have hg:es.getD i []=[PV.int .i64 z]:=by rw [← hes];exact getD_map hz
 simp only [ZZ,WW,Ze,reduceCtorEq,Nat.reduceAdd,Nat.reduceMul,Nat.reduceLeDiff,Nat.reduceLT,Nat.reduceEqDiff,hg]
 exact ⟨⟨by omega,by omega⟩,by omega,fin_S (stm l (k+1)) rfl ⟨_,rfl,List.mem_of_getElem? hz,rfl⟩⟩
theorem one_ok (l:List Int) (k:Nat) (c:List (List UInt8)) (hk:k≤1000000) (hl:l.length≤9223372036854775807) (h0:0 < c.length) (h1:c.length≤1000000) :
  SCall Tryz.prog E 36 T (stm l k) [strs c] (fun x cs'=>∃ y,x=.str y∧y∈c∧cs'=stm l (k+1)):=by
 unfold SCall
 refine gcallP mixed Tryz.func36 ck_chasemake_Stream_h06one ?_
 simp only [a0,l0,OS.ao,List.map_cons,List.map_nil,List.length_cons,List.length_nil,List.cons_append,List.nil_append,Nat.reduceSub,Nat.reduceAdd,List.replicate_succ,List.replicate_zero,ir_chasemake_Stream_h06one,rs_chasemake_Stream_h06one,ZZ,WW,Ze,reduceCtorEq,Nat.reduceAdd,Nat.reduceMul,Nat.reduceLeDiff,Nat.reduceLT,Nat.reduceEqDiff]
 simp only [strs,ZZ,WW,Ze,reduceCtorEq,Nat.reduceAdd,Nat.reduceMul,Nat.reduceLeDiff,Nat.reduceLT,Nat.reduceEqDiff]
 generalize hes:c.map (fun x=>[PV.str x])=es
 have hln:es.length=c.length:=by rw [← hes];simp
 refine useS (Next_ok l k _ hk hl (by omega)) rfl rfl rfl zE_ ?_
 rintro x cs' ⟨y,rfl,rfl⟩
 obtain ⟨i,hi,hy⟩:=below_idx y es.length (by omega)
 rw [hy]
 obtain ⟨z,hz⟩:∃ z,c[i]?=some z:=⟨_,List.getElem?_eq_getElem (by omega)⟩
 have hg:es.getD i []=[PV.str z]:=by rw [← hes];exact getD_map hz
 simp only [ZZ,WW,Ze,reduceCtorEq,Nat.reduceAdd,Nat.reduceMul,Nat.reduceLeDiff,Nat.reduceLT,Nat.reduceEqDiff,hg]
 exact ⟨⟨by omega,by omega⟩,by omega,fin_S (stm l (k+1)) rfl ⟨_,rfl,List.mem_of_getElem? hz,rfl⟩⟩
end
end Go.Proofs.YtinffddgojhdfaaGreatDoor
namespace Go.Proofs.YtinffddgojhdfaaGreatDoor
open Go.RowKit
def ir_internal_strconv_isPowerOfTwo:IC:=(.seq (.reg [qO 2 (.mov (.c (.bool false)))]) (.seq (.reg [qM 3 0,qM 4 0,qO 5 (.bin .sub (.t 4) (.c (.int .i64 1))),qO 6 (.bin .and (.t 3) (.t 5)),qO 7 (.bin .eql (.t 6) (.c (.int .i64 0))),qM 2 7]) .ret))
def rs_internal_strconv_isPowerOfTwo:List IRes:=[.t 2]
theorem ck_internal_strconv_isPowerOfTwo:chkF Tryz.prog Tryz.f171 ir_internal_strconv_isPowerOfTwo rs_internal_strconv_isPowerOfTwo 8=true:=by kernel_rfl
def ir_internal_strconv_formatBits_L1:IC:=(.seq (.seq (.reg [qM 66 1,qM 67 17,qO 68 (.bin .geq (.t 66) (.t 67))]) (.cond (.t 68) .skip (.exit 2))) (.block 3 (.seq (.reg [qM 69 13,qO 70 (.bin .sub (.t 69) (.c (.int .i64 1))),qM 13 70]) (.seq (.reg [qM 71 1,qM 72 17,qO 73 (.bin .quo (.t 71) (.t 72)),qM 18 73]) (.seq (.reg [qM 74 13,qM 75 1,qM 76 18,qM 77 17,qO 78 (.bin .mul (.t 76) (.t 77)),qO 79 (.bin .sub (.t 75) (.t 78)),qO 80 (.idx (.c (.str [48,49,50,51,52,53,54,55,56,57,97,98,99,100,101,102,103,104,105,106,107,108,109,110,111,112,113,114,115,116,117,118,119,120,121,122])) (.t 79)),qO 81 (.ixv 1 65 (.t 12) (.t 74)),⟨none,.st 1 (.t 81) (.t 80),none⟩]) (.reg [qM 82 18,qM 1 82]))))))
def ir_internal_strconv_formatBits_L0:IC:=(.seq (.seq (.reg [qM 44 1,qM 45 15,qO 46 (.bin .geq (.t 44) (.t 45))]) (.cond (.t 46) .skip (.exit 0))) (.block 1 (.seq (.reg [qM 47 13,qO 48 (.bin .sub (.t 47) (.c (.int .i64 1))),qM 13 48]) (.seq (.reg [qM 49 13,qM 50 1,qM 51 16,qO 52 (.bin .and (.t 50) (.t 51)),qO 53 (.idx (.c (.str [48,49,50,51,52,53,54,55,56,57,97,98,99,100,101,102,103,104,105,106,107,108,109,110,111,112,113,114,115,116,117,118,119,120,121,122])) (.t 52)),qO 54 (.ixv 1 65 (.t 12) (.t 49)),⟨none,.st 1 (.t 54) (.t 53),none⟩]) (.reg [qM 55 1,qM 56 14,qO 57 (.bin .shr (.t 55) (.t 56)),qM 1 57])))))
def ir_internal_strconv_formatBits:IC:=(.seq (.reg [qO 10 (.mov (.c (.nl 1))),qO 11 (.mov (.c (.str [])))]) (.seq (.seq (.reg [qM 19 2,qO 20 (.bin .lss (.t 19) (.c (.int .i64 2))),qM 21 20,⟨some 22,.mov (.t 2),(some (21,false))⟩,⟨some 23,.bin .eql (.t 22) (.c (.int .i64 10)),(some (21,false))⟩,qO 24 (.pick (.t 21) (.c (.bool true)) (.t 23)),qM 25 24,⟨some 26,.mov (.t 2),(some (25,false))⟩,⟨some 27,.bin .gtr (.t 26) (.c (.int .i64 36)),(some (25,false))⟩,qO 28 (.pick (.t 25) (.c (.bool true)) (.t 27))]) (.cond (.t 28) (.reg [qO 29 (.dead),⟨none,.dead,none⟩]) .skip)) (.cut (.seq (.reg [qO 12 (.alc 186 [.int .u8 0,.int .u8 0,.int .u8 0,.int .u8 0,.int .u8 0,.int .u8 0,.int .u8 0,.int .u8 0,.int .u8 0,.int .u8 0,.int .u8 0,.int .u8 0,.int .u8 0,.int .u8 0,.int .u8 0,.int .u8 0,.int .u8 0,.int .u8 0,.int .u8 0,.int .u8 0,.int .u8 0,.int .u8 0,.int .u8 0,.int .u8 0,.int .u8 0,.int .u8 0,.int .u8 0,.int .u8 0,.int .u8 0,.int .u8 0,.int .u8 0,.int .u8 0,.int .u8 0,.int .u8 0,.int .u8 0,.int .u8 0,.int .u8 0,.int .u8 0,.int .u8 0,.int .u8 0,.int .u8 0,.int .u8 0,.int .u8 0,.int .u8 0,.int .u8 0,.int .u8 0,.int .u8 0,.int .u8 0,.int .u8 0,.int .u8 0,.int .u8 0,.int .u8 0,.int .u8 0,.int .u8 0,.int .u8 0,.int .u8 0,.int .u8 0,.int .u8 0,.int .u8 0,.int .u8 0,.int .u8 0,.int .u8 0,.int .u8 0,.int .u8 0,.int .u8 0])]) (.seq (.reg [qO 13 (.mov (.c (.int .i64 65)))]) (.seq (.seq (.reg [qM 30 3]) (.cond (.t 30) (.reg [qM 31 1,qO 32 (.neg (.t 31)),qM 1 32]) .skip)) (.cut (.seq (.seq (.reg [qM 33 2,qO 34 (.call 171 [.t 33])]) (.cond (.t 34) (.seq (.reg [qM 35 2,qO 36 (.cvi .u64 (.t 35)),qO 37 (.call 172 [.t 36]),qO 38 (.cvi .u64 (.t 37)),qM 14 38]) (.seq (.reg [qM 39 2,qO 40 (.cvi .u64 (.t 39)),qM 15 40]) (.seq (.reg [qM 41 2,qO 42 (.cvi .u64 (.t 41)),qO 43 (.bin .sub (.t 42) (.c (.int .u64 1))),qM 16 43]) (.seq (.block 0 (.loop ir_internal_strconv_formatBits_L0)) (.seq (.reg [qM 58 13,qO 59 (.bin .sub (.t 58) (.c (.int .i64 1))),qM 13 59]) (.reg [qM 60 13,qM 61 1,qO 62 (.idx (.c (.str [48,49,50,51,52,53,54,55,56,57,97,98,99,100,101,102,103,104,105,106,107,108,109,110,111,112,113,114,115,116,117,118,119,120,121,122])) (.t 61)),qO 63 (.ixv 1 65 (.t 12) (.t 60)),⟨none,.st 1 (.t 63) (.t 62),none⟩])))))) (.seq (.reg [qM 64 2,qO 65 (.cvi .u64 (.t 64)),qM 17 65]) (.seq (.block 2 (.loop ir_internal_strconv_formatBits_L1)) (.seq (.reg [qM 83 13,qO 84 (.bin .sub (.t 83) (.c (.int .i64 1))),qM 13 84]) (.reg [qM 85 13,qM 86 1,qO 87 (.idx (.c (.str [48,49,50,51,52,53,54,55,56,57,97,98,99,100,101,102,103,104,105,106,107,108,109,110,111,112,113,114,115,116,117,118,119,120,121,122])) (.t 86)),qO 88 (.ixv 1 65 (.t 12) (.t 85)),⟨none,.st 1 (.t 88) (.t 87),none⟩])))))) (.cut (.seq (.seq (.reg [qM 89 3]) (.cond (.t 89) (.seq (.reg [qM 90 13,qO 91 (.bin .sub (.t 90) (.c (.int .i64 1))),qM 13 91]) (.reg [qM 92 13,qO 93 (.ixv 1 65 (.t 12) (.t 92)),⟨none,.st 1 (.t 93) (.c (.int .u8 45)),none⟩])) .skip)) (.cut (.seq (.seq (.reg [qM 94 4]) (.cond (.t 94) (.seq (.reg [qM 95 0,qM 96 13,⟨none,.fz (.t 12),none⟩,qO 97 (.asl 65 (.t 12) (.t 96)),qO 98 (.app 5 1 1 (.t 95) (.t 97)),qM 10 98]) .ret) .skip)) (.seq (.reg [qM 99 13,⟨none,.fz (.t 12),none⟩,⟨none,.re,none⟩,qO 100 (.asl 65 (.t 12) (.t 99)),qO 101 (.b2s (.t 100)),qM 11 101]) .ret)))))))))))))
def rs_internal_strconv_formatBits:List IRes:=[.t 10,.t 11]
theorem ck_internal_strconv_formatBits:chkF Tryz.prog Tryz.f161 ir_internal_strconv_formatBits rs_internal_strconv_formatBits 102=true:=by kernel_rfl
def ir_internal_strconv_FormatUint:IC:=(.seq (.reg [qO 4 (.mov (.c (.str [])))]) (.seq (.seq (.reg [qM 9 1,qO 10 (.bin .eql (.t 9) (.c (.int .i64 10)))]) (.cond (.t 10) (.seq (.seq (.reg [qM 11 0,qO 12 (.bin .lss (.t 11) (.c (.int .u64 100)))]) (.cond (.t 12) (.seq (.reg [qM 13 0,qO 14 (.cvi .i64 (.t 13)),qO 15 (.call 158 [.t 14]),qM 4 15]) .ret) .skip)) (.seq (.reg [qO 5 (.alc 170 [.int .u8 0,.int .u8 0,.int .u8 0,.int .u8 0,.int .u8 0,.int .u8 0,.int .u8 0,.int .u8 0,.int .u8 0,.int .u8 0,.int .u8 0,.int .u8 0,.int .u8 0,.int .u8 0,.int .u8 0,.int .u8 0,.int .u8 0,.int .u8 0,.int .u8 0,.int .u8 0,.int .u8 0,.int .u8 0,.int .u8 0,.int .u8 0])]) (.seq (.reg [qM 16 0,qO 17 (.call 159 [.t 16]),qM 6 17]) (.seq (.reg [qM 18 6,qO 19 (.dead),qM 20 0,qO 21 (.call 160 [.t 19,.t 20])]) (.seq (.reg [qM 22 6,qO 23 (.dead),qO 24 (.b2s (.t 23)),qM 4 24]) .ret))))) .skip)) (.seq (.reg [qM 26 0,qM 27 1,qO 28 (.call 161 [.c (.nl 1),.t 26,.t 27,.c (.bool false),.c (.bool false)]),qM 25 28,qO 29 (.ext 0 (.t 25)),qO 30 (.ext 1 (.t 25)),qM 7 29,qM 8 30]) (.seq (.reg [qM 31 8,qM 4 31]) .ret))))
def rs_internal_strconv_FormatUint:List IRes:=[.t 4]
theorem ck_internal_strconv_FormatUint:chkF Tryz.prog Tryz.f143 ir_internal_strconv_FormatUint rs_internal_strconv_FormatUint 32=true:=by kernel_rfl
def ir_strconv_FormatUint:IC:=(.seq (.reg [qO 4 (.mov (.c (.str [])))]) (.seq (.reg [qM 5 0,qM 6 1,qO 7 (.call 143 [.t 5,.t 6]),qM 4 7]) .ret))
def rs_strconv_FormatUint:List IRes:=[.t 4]
theorem ck_strconv_FormatUint:chkF Tryz.prog Tryz.f110 ir_strconv_FormatUint rs_strconv_FormatUint 8=true:=by kernel_rfl
section
variable {E:Envt}
theorem bytesP_one:∀ l:List UInt8,bytesP ((l.map fun b=>PV.int .u8 (b.toNat:Nat)).map fun x=>[x])=some l
 |[]=>rfl
 |b :: l=>by
  simp only [List.map_cons,bytesP,bytesP_one l,Option.map_some,Int.toNat_natCast]
  simp
theorem setdrop {cs:List PV} {D:List UInt8} {c:UInt8} (hl:65 - (c :: D).length=64 - D.length) (hc:cs.length=65) (hD:D.length≤15) (h:cs.drop (65 - D.length)=D.map (fun b=>PV.int .u8 (b.toNat:Nat))):(cs.set (64 - D.length) (.int .u8 (c.toNat:Nat))).drop (65 - (c :: D).length)=(c :: D).map (fun b=>PV.int .u8 (b.toNat:Nat)):=by
 rw [hl]
 have hk:64 - D.length < (cs.set (64 - D.length) (PV.int .u8 (c.toNat:Nat))).length:=by simp;omega
 rw [List.drop_eq_getElem_cons hk,List.map_cons,← h]
 congr 1
 ·simp
 ·rw [List.drop_set_of_lt (by omega),show 64 - D.length+1=65 - D.length from by omega]
theorem pow2_ok:PCall Tryz.prog E 171 [int 16] (·=.bool true):=by
 refine pcallF mixed Tryz.func171 ck_internal_strconv_isPowerOfTwo ?_
 simp only [a0,l0,OS.ao,List.map_cons,List.map_nil,List.length_cons,List.length_nil,List.cons_append,List.nil_append,Nat.reduceSub,Nat.reduceAdd,List.replicate_succ,List.replicate_zero,ir_internal_strconv_isPowerOfTwo,rs_internal_strconv_isPowerOfTwo,ZZ,WW,Ze,reduceCtorEq,Nat.reduceAdd,Nat.reduceMul,Nat.reduceLeDiff,Nat.reduceLT,Nat.reduceEqDiff]
 ((repeat' (with_reducible apply And.intro))<;>try ((exact sc_)))
abbrev tA65:Nat:=186
set_option maxRecDepth 100000 in
theorem formatBits_ok (hTZ:PCall Tryz.prog E 172 [.int .u64 16] (·=int 4)) (u:Nat) (hu:u < 18446744073709551616):PCall Tryz.prog E 161 [.sl 1 [],.int .u64 (u:Nat),int 16,.bool false,.bool false] (·=.tup [.sl 1 [],.str (hexF u)]):=by
 refine pcallF mixed Tryz.func161 ck_internal_strconv_formatBits ?_
 simp only [a0,l0,OS.ao,List.map_cons,List.map_nil,List.length_cons,List.length_nil,List.cons_append,List.nil_append,Nat.reduceSub,Nat.reduceAdd,List.replicate_succ,List.replicate_zero,ir_internal_strconv_formatBits,rs_internal_strconv_formatBits,ZZ,WW,Ze,reduceCtorEq,Nat.reduceAdd,Nat.reduceMul,Nat.reduceLeDiff,Nat.reduceLT,Nat.reduceEqDiff]
 have e1:decide ((16:Int) < 2)=false:=by decide
 have e2:decide ((16:Int)=10)=false:=by decide
 have e3:decide ((36:Int) < 16)=false:=by decide
 simp only [ZZ,WW,Ze,reduceCtorEq,Nat.reduceAdd,Nat.reduceMul,Nat.reduceLeDiff,Nat.reduceLT,Nat.reduceEqDiff,e1,e2,e3,Bool.or_self,Bool.not_false]
 ((repeat' (with_reducible apply And.intro))<;>try ((exact sc_)))
 refine cut_same zE_ ?_
 simp only [ZZ,WW,Ze,reduceCtorEq,Nat.reduceAdd,Nat.reduceMul,Nat.reduceLeDiff,Nat.reduceLT,Nat.reduceEqDiff]
 refine cut_same zE_ ?_
 simp only [ZZ,WW,Ze,reduceCtorEq,Nat.reduceAdd,Nat.reduceMul,Nat.reduceLeDiff,Nat.reduceLT,Nat.reduceEqDiff]
 refine use1 pow2_ok rfl (.inl rfl) ?_
 have w16:IntKind.u64.wrap 16=16:=by decide
 have w4:IntKind.u64.wrap 4=4:=by decide
 simp only [ZZ,WW,Ze,reduceCtorEq,Nat.reduceAdd,Nat.reduceMul,Nat.reduceLeDiff,Nat.reduceLT,Nat.reduceEqDiff,w16]
 refine use1 hTZ rfl (.inl rfl) ?_
 have w15:IntKind.u64.wrap (16 - 1)=15:=by decide
 simp only [ZZ,WW,Ze,reduceCtorEq,Nat.reduceAdd,Nat.reduceMul,Nat.reduceLeDiff,Nat.reduceLT,Nat.reduceEqDiff,w4,w15,w16]
 refine loop_intro (fun n fr L=>∃ (v:Nat) (D:List UInt8) (cs:List PV),v=n∧(D.length≤15)∧(v < 16 ^ (16 - D.length))∧(hexF v++D=hexF u)∧(cs.length=65)∧(cs.drop (65 - D.length)=D.map (fun b=>PV.int .u8 (b.toNat:Nat)))∧fr=[.p (.sl 1 []),.p (.int .u64 (v:Nat)),.p (int 16),.p (.bool false),.p (.bool false),oo,oo,oo,oo,oo,.p (.nl 1),.p (.str []),.adr (.l 12) 0,.p (int ((65 - D.length:Nat))),.p (.int .u64 4),.p (.int .u64 16),.p (.int .u64 15),oo,oo,oo,oo,oo,oo,oo,oo,oo,oo,oo,oo,oo,oo,oo,oo,oo,oo,oo,oo,oo,oo,oo,oo,oo,oo,oo,oo,oo,oo,oo,oo,oo,oo,oo,oo,oo,oo,oo,oo,oo,oo,oo,oo,oo,oo,oo,oo,oo,oo,oo,oo,oo,oo,oo,oo,oo,oo,oo,oo,oo,oo,oo,oo,oo,oo,oo,oo,oo,oo,oo,oo,oo,oo,oo,oo,oo,oo,oo,oo,oo,oo,oo,oo,oo]∧L=[(.l 12,.box (cs.map .p) tA65)]) (u) [.p (.sl 1 []),.p (.int .u64 (u:Nat)),.p (int 16),.p (.bool false),.p (.bool false),oo,oo,oo,oo,oo,.p (.nl 1),.p (.str []),.adr (.l 12) 0,.p (int ((65 - ((List.nil:List UInt8)).length:Nat))),.p (.int .u64 4),.p (.int .u64 16),.p (.int .u64 15),oo,oo,oo,oo,oo,oo,oo,oo,oo,oo,oo,oo,oo,oo,oo,oo,oo,oo,oo,oo,oo,oo,oo,oo,oo,oo,oo,oo,oo,oo,oo,oo,oo,oo,oo,oo,oo,oo,oo,oo,oo,oo,oo,oo,oo,oo,oo,oo,oo,oo,oo,oo,oo,oo,oo,oo,oo,oo,oo,oo,oo,oo,oo,oo,oo,oo,oo,oo,oo,oo,oo,oo,oo,oo,oo,oo,oo,oo,oo,oo,oo,oo,oo,oo,oo] [(.l 12,.box (([.int .u8 0,.int .u8 0,.int .u8 0,.int .u8 0,.int .u8 0,.int .u8 0,.int .u8 0,.int .u8 0,.int .u8 0,.int .u8 0,.int .u8 0,.int .u8 0,.int .u8 0,.int .u8 0,.int .u8 0,.int .u8 0,.int .u8 0,.int .u8 0,.int .u8 0,.int .u8 0,.int .u8 0,.int .u8 0,.int .u8 0,.int .u8 0,.int .u8 0,.int .u8 0,.int .u8 0,.int .u8 0,.int .u8 0,.int .u8 0,.int .u8 0,.int .u8 0,.int .u8 0,.int .u8 0,.int .u8 0,.int .u8 0,.int .u8 0,.int .u8 0,.int .u8 0,.int .u8 0,.int .u8 0,.int .u8 0,.int .u8 0,.int .u8 0,.int .u8 0,.int .u8 0,.int .u8 0,.int .u8 0,.int .u8 0,.int .u8 0,.int .u8 0,.int .u8 0,.int .u8 0,.int .u8 0,.int .u8 0,.int .u8 0,.int .u8 0,.int .u8 0,.int .u8 0,.int .u8 0,.int .u8 0,.int .u8 0,.int .u8 0,.int .u8 0,.int .u8 0]).map .p) tA65)] (by (simp only [ZZ,WW,Ze,reduceCtorEq,Nat.reduceAdd,Nat.reduceMul,Nat.reduceLeDiff,Nat.reduceLT,Nat.reduceEqDiff];try trivial)) (by (simp only [ZZ,WW,Ze,reduceCtorEq,Nat.reduceAdd,Nat.reduceMul,Nat.reduceLeDiff,Nat.reduceLT,Nat.reduceEqDiff];try trivial)) ⟨u,(List.nil:List UInt8),[.int .u8 0,.int .u8 0,.int .u8 0,.int .u8 0,.int .u8 0,.int .u8 0,.int .u8 0,.int .u8 0,.int .u8 0,.int .u8 0,.int .u8 0,.int .u8 0,.int .u8 0,.int .u8 0,.int .u8 0,.int .u8 0,.int .u8 0,.int .u8 0,.int .u8 0,.int .u8 0,.int .u8 0,.int .u8 0,.int .u8 0,.int .u8 0,.int .u8 0,.int .u8 0,.int .u8 0,.int .u8 0,.int .u8 0,.int .u8 0,.int .u8 0,.int .u8 0,.int .u8 0,.int .u8 0,.int .u8 0,.int .u8 0,.int .u8 0,.int .u8 0,.int .u8 0,.int .u8 0,.int .u8 0,.int .u8 0,.int .u8 0,.int .u8 0,.int .u8 0,.int .u8 0,.int .u8 0,.int .u8 0,.int .u8 0,.int .u8 0,.int .u8 0,.int .u8 0,.int .u8 0,.int .u8 0,.int .u8 0,.int .u8 0,.int .u8 0,.int .u8 0,.int .u8 0,.int .u8 0,.int .u8 0,.int .u8 0,.int .u8 0,.int .u8 0,.int .u8 0],rfl,by simp,by simpa using hu,by simp,rfl,rfl,rfl,rfl⟩ ?_
 rintro n fr L ⟨v,D,cs,rfl,hD,hv,hF,hcl,hcs,rfl,rfl⟩
 simp only [ir_internal_strconv_formatBits_L0,ZZ,WW,Ze,reduceCtorEq,Nat.reduceAdd,Nat.reduceMul,Nat.reduceLeDiff,Nat.reduceLT,Nat.reduceEqDiff]
 refine br ?_ ?_
 ·intro h
  have hv16:¬ v < 16:=by have:=of_decide_eq_true h;omega
  have hvb:v < 18446744073709551616:=by
   have:16 ^ (16 - D.length)≤16 ^ 16:=Nat.pow_le_pow_right (by omega) (by omega)
   omega
  have hD2:D.length+1≤15:=by
   rcases Nat.lt_or_ge D.length 15 with h'|h'
   ·omega
   ·have:D.length=15:=by omega
    rw [this] at hv
    omega
  have hb:=bitA15 (u:=(v:Int)) (by omega) (by omega)
  have hm:(v:Int) % 16=((v % 16:Nat):Int):=by omega
  rw [hm] at hb
  have hs:((v:Int)).fdiv (2 ^ (min (Int.toNat 4) IntKind.u64.bits))=((v / 16:Nat):Int):=by
   rw [show (2:Int) ^ (min (Int.toNat 4) IntKind.u64.bits)=16 by decide,Int.fdiv_eq_ediv_of_nonneg _ (by omega)]
   omega
  have hi:((65 - D.length:Nat):Int) - 1=((64 - D.length:Nat):Int):=by omega
  have hx:=hx_get (v % 16) (by omega)
  have h65:(64 - D.length) * 1+1≤(List.map AV.p cs).length:=by simp;omega
  have hset:(List.map AV.p cs).set ((64 - D.length) * 1) (.p (.int .u8 ((hxB (v % 16)).toNat:Nat)))=(cs.set (64 - D.length) (.int .u8 ((hxB (v % 16)).toNat:Nat))).map .p:=by rw [Nat.mul_one,List.map_set]
  simp only [ZZ,WW,Ze,reduceCtorEq,Nat.reduceAdd,Nat.reduceMul,Nat.reduceLeDiff,Nat.reduceLT,Nat.reduceEqDiff,hb,hs,hi,hx,h65,hset]
  ((repeat' (with_reducible apply And.intro))<;>try ((exact sc_)))
  have hlD:65 - (hxB (v % 16) :: D).length=64 - D.length:=by simp only [List.length_cons];omega
  refine end_round ((v / 16)) [.p (.sl 1 []),.p (.int .u64 ((v / 16):Nat)),.p (int 16),.p (.bool false),.p (.bool false),oo,oo,oo,oo,oo,.p (.nl 1),.p (.str []),.adr (.l 12) 0,.p (int ((65 - (hxB (v % 16) :: D).length:Nat))),.p (.int .u64 4),.p (.int .u64 16),.p (.int .u64 15),oo,oo,oo,oo,oo,oo,oo,oo,oo,oo,oo,oo,oo,oo,oo,oo,oo,oo,oo,oo,oo,oo,oo,oo,oo,oo,oo,oo,oo,oo,oo,oo,oo,oo,oo,oo,oo,oo,oo,oo,oo,oo,oo,oo,oo,oo,oo,oo,oo,oo,oo,oo,oo,oo,oo,oo,oo,oo,oo,oo,oo,oo,oo,oo,oo,oo,oo,oo,oo,oo,oo,oo,oo,oo,oo,oo,oo,oo,oo,oo,oo,oo,oo,oo,oo] [(.l 12,.box ((cs.set (64 - D.length) (.int .u8 ((hxB (v % 16)).toNat:Nat))).map .p) tA65)] (by omega) (by simp only [hlD];(simp only [ZZ,WW,Ze,reduceCtorEq,Nat.reduceAdd,Nat.reduceMul,Nat.reduceLeDiff,Nat.reduceLT,Nat.reduceEqDiff];try trivial)) (by (simp only [ZZ,WW,Ze,reduceCtorEq,Nat.reduceAdd,Nat.reduceMul,Nat.reduceLeDiff,Nat.reduceLT,Nat.reduceEqDiff];try trivial)) ⟨v / 16,hxB (v % 16) :: D,cs.set (64 - D.length) (.int .u8 ((hxB (v % 16)).toNat:Nat)),rfl,by simpa using hD2,by simp only [List.length_cons];rw [show 16 - D.length=(16 - (D.length+1))+1 from by omega,Nat.pow_succ] at hv;omega,by rw [← hF,hexF_big hv16];simp,by simpa using hcl,setdrop hlD hcl hD hcs,rfl,rfl⟩
 ·intro h
  have hv16:v < 16:=by have:=of_decide_eq_false h;omega
  have hi:((65 - D.length:Nat):Int) - 1=((64 - D.length:Nat):Int):=by omega
  have hx:=hx_get v hv16
  have h65:(64 - D.length) * 1+1≤(List.map AV.p cs).length:=by simp;omega
  have hset:(List.map AV.p cs).set ((64 - D.length) * 1) (.p (.int .u8 ((hxB v).toNat:Nat)))=(cs.set (64 - D.length) (.int .u8 ((hxB v).toNat:Nat))).map .p:=by rw [Nat.mul_one,List.map_set]
  simp only [ZZ,WW,Ze,reduceCtorEq,Nat.reduceAdd,Nat.reduceMul,Nat.reduceLeDiff,Nat.reduceLT,Nat.reduceEqDiff,hi,hx,h65,hset]
  ((repeat' (with_reducible apply And.intro))<;>try ((exact sc_)))
  refine cut_same zE_ ?_
  simp only [ZZ,WW,Ze,reduceCtorEq,Nat.reduceAdd,Nat.reduceMul,Nat.reduceLeDiff,Nat.reduceLT,Nat.reduceEqDiff]
  refine cut_same zE_ ?_
  have hlD:65 - (hxB v :: D).length=64 - D.length:=by simp only [List.length_cons];omega
  have hd:=setdrop (c:=hxB v) hlD hcl hD hcs
  have hl:(cs.set (64 - D.length) (PV.int .u8 ((hxB v).toNat:Nat))).length=65:=by simpa using hcl
  rw [hlD] at hd
  have hu2:hexF u=hxB v :: D:=by rw [← hF,hexF_small hv16];rfl
  rw [hu2]
  generalize cs.set (64 - D.length) (PV.int .u8 ((hxB v).toNat:Nat))=cs2 at *
  generalize hxB v :: D=D2 at *
  simp only [ZZ,WW,Ze,reduceCtorEq,Nat.reduceAdd,Nat.reduceMul,Nat.reduceLeDiff,Nat.reduceLT,Nat.reduceEqDiff]
  rw [ops_re]
  refine ⟨_,_,re_box (k:=.l 12) (cs:=cs2) rfl,?_⟩
  simp only [ZZ,WW,Ze,reduceCtorEq,Nat.reduceAdd,Nat.reduceMul,Nat.reduceLeDiff,Nat.reduceLT,Nat.reduceEqDiff,hl,hd,bytesP_one,Int.toNat_natCast]
  ((repeat' (with_reducible apply And.intro))<;>try ((exact sc_)))
theorem FormatUintI_ok (hTZ:PCall Tryz.prog E 172 [.int .u64 16] (·=int 4)) (u:Nat) (hu:u < 18446744073709551616):PCall Tryz.prog E 143 [.int .u64 (u:Nat),int 16] (·=.str (hexF u)):=by
 refine pcallF mixed Tryz.func143 ck_internal_strconv_FormatUint ?_
 simp only [a0,l0,OS.ao,List.map_cons,List.map_nil,List.length_cons,List.length_nil,List.cons_append,List.nil_append,Nat.reduceSub,Nat.reduceAdd,List.replicate_succ,List.replicate_zero,ir_internal_strconv_FormatUint,rs_internal_strconv_FormatUint,ZZ,WW,Ze,reduceCtorEq,Nat.reduceAdd,Nat.reduceMul,Nat.reduceLeDiff,Nat.reduceLT,Nat.reduceEqDiff]
 have e2:decide ((16:Int)=10)=false:=by decide
 simp only [ZZ,WW,Ze,reduceCtorEq,Nat.reduceAdd,Nat.reduceMul,Nat.reduceLeDiff,Nat.reduceLT,Nat.reduceEqDiff,e2]
 refine use1 (formatBits_ok hTZ u hu) rfl (.inl rfl) ?_
 simp only [ZZ,WW,Ze,reduceCtorEq,Nat.reduceAdd,Nat.reduceMul,Nat.reduceLeDiff,Nat.reduceLT,Nat.reduceEqDiff]
theorem FormatUint_ok (hTZ:PCall Tryz.prog E 172 [.int .u64 16] (·=int 4)) (u:Nat) (hu:u < 18446744073709551616):PCall Tryz.prog E 110 [.int .u64 (u:Nat),int 16] (·=.str (hexF u)):=by
 refine pcallF mixed Tryz.func110 ck_strconv_FormatUint ?_
 simp only [a0,l0,OS.ao,List.map_cons,List.map_nil,List.length_cons,List.length_nil,List.cons_append,List.nil_append,Nat.reduceSub,Nat.reduceAdd,List.replicate_succ,List.replicate_zero,ir_strconv_FormatUint,rs_strconv_FormatUint,ZZ,WW,Ze,reduceCtorEq,Nat.reduceAdd,Nat.reduceMul,Nat.reduceLeDiff,Nat.reduceLT,Nat.reduceEqDiff]
 refine use1 (FormatUintI_ok hTZ u hu) rfl (.inl rfl) ?_
 simp only [ZZ,WW,Ze,reduceCtorEq,Nat.reduceAdd,Nat.reduceMul,Nat.reduceLeDiff,Nat.reduceLT,Nat.reduceEqDiff]
end
end Go.Proofs.YtinffddgojhdfaaGreatDoor
namespace Go.Proofs.YtinffddgojhdfaaGreatDoor
section
variable {E:Envt}
end
section
variable {E:Envt}
end
section
variable {E:Envt}
end
def cov (l:List (Int×Int)) (j:Nat):Bool:=l.any fun s=>decide (s.1≤j) && decide ((j:Int) < s.2)
def bl (p:List Bool):List (List PV):=p.map fun b=>[.bool b]
section
variable {E:Envt}
def onAt (p:List Bool) (i:Nat):Bool:=p.getD i false
end
def cv (l:List (Int×Int)) (j:Int):Prop:=∃ s∈l,s.1≤j∧j < s.2
structure Right (l:List (Int×Int)):Prop where
 ok:∀ s∈l,s.1 < s.2
 ord:l.Pairwise (fun s t=>s.2 < t.1)
theorem Right.tail {s:Int×Int} {l:List (Int×Int)} (h:Right (s :: l)):Right l:=⟨fun t ht=>h.ok t (by simp [ht]),(List.pairwise_cons.1 h.ord).2⟩
theorem Right.head {s:Int×Int} {l:List (Int×Int)} (h:Right (s :: l)):s.1 < s.2∧∀ t∈l,s.2 < t.1:=⟨h.ok s (by simp),(List.pairwise_cons.1 h.ord).1⟩
structure FromInv (p:List Bool) (k:Nat) (out:List (Int×Int)):Prop where
 right:Right out
 bd:∀ s∈out,s.2≤k
 last:onAt p (k - 1)=true→0 < k→∃ (i:List (Int×Int)) (y:Int×Int),out=i++[y]∧y.2=(k:Int)
 gap:onAt p (k - 1)=false→0 < k→∀ s∈out,s.2 < k
 cov:∀ j,cv out j↔∃ i:Nat,j=i∧i < k∧onAt p i=true
structure InB (s:Int×Int) (o0 b:List (Int×Int)) (st:Int×List (Int×Int)):Prop where
 lo:s.1≤st.1
 src:st.1=s.1∨∃ x∈b,st.1=x.2
 right:Right st.2
 bd:∀ t∈st.2,t.2 < st.1
 hi:∀ t∈st.2,t∈o0∨t.2≤s.2
 fre:∀ j,st.1≤j→j < s.2→¬ cv b j
 cov:∀ j,cv st.2 j↔cv o0 j∨(s.1≤j∧j < st.1∧j < s.2∧¬ cv b j)
structure InA (b a out:List (Int×Int)):Prop where
 right:Right out
 bd:∀ t∈out,∃ s∈a,t.2≤s.2
 cov:∀ j,cv out j↔cv a j∧¬ cv b j
structure InP (l out:List (Int×Int)):Prop where
 right:Right out
 src:∀ t∈out,(∃ u∈l,t.1=u.1)∧∃ u∈l,t.2=u.2
 cov:∀ j,cv out j↔cv l j
section
variable {E:Envt}
end
section
variable {E:Envt}
end
end Go.Proofs.YtinffddgojhdfaaGreatDoor
namespace Go.Proofs.YtinffddgojhdfaaGreatDoor
open Go.RowKit
def E0:Envt where
 ok w:=Lib.Utf8Tabs 1 2 w∧∃ m:Int,w.cell? ⟨0,0,none⟩=some (.int .i64 m)
 bl b:=b=1∨b=2∨b=0
 mono w w' hb h:=by
  obtain ⟨⟨h1,h2⟩,m,h3⟩:=h
  have e1:=hb _ (.inl rfl)
  have e2:=hb _ (.inr (.inl rfl))
  have e3:=hb _ (.inr (.inr rfl))
  exact ⟨⟨fun c hc=>(World.cell?_of_block (w:=w) e1).trans (h1 c hc),fun i hi=>⟨(World.cell?_of_block (w:=w) e2).trans (h2 i hi).1,(World.cell?_of_block (w:=w) e2).trans (h2 i hi).2⟩⟩,m,(World.cell?_of_block (w:=w) e3).trans h3⟩
theorem Valid_ok (s:List UInt8) (hs:s.length≤1000000000000):PCall Tryz.prog E0 140 [.str s] (·=.bool (Lib.validD s)):=
 pcall_flat rfl rfl fun w hE=>(Any.utf8_ValidString Tryz.layValid ⟨s.toArray⟩ w (by simp [ByteArray.size];omega) hE.1).mono fun e w' h=>⟨by rw [h.1];rfl,grow_below h.2⟩
def ir_internal_stringslite_HasSuffix:IC:=(.seq (.reg [qO 4 (.mov (.c (.bool false)))]) (.seq (.reg [qM 5 0,qO 6 (.sln (.t 5)),qM 7 1,qO 8 (.sln (.t 7)),qO 9 (.bin .geq (.t 6) (.t 8)),qM 10 9,⟨some 11,.mov (.t 0),(some (10,true))⟩,⟨some 12,.mov (.t 0),(some (10,true))⟩,⟨some 13,.sln (.t 12),(some (10,true))⟩,⟨some 14,.mov (.t 1),(some (10,true))⟩,⟨some 15,.sln (.t 14),(some (10,true))⟩,⟨some 16,.bin .sub (.t 13) (.t 15),(some (10,true))⟩,⟨some 17,.ssl (.t 11) (some (.t 16)) none,(some (10,true))⟩,⟨some 18,.mov (.t 1),(some (10,true))⟩,⟨some 19,.bin .eql (.t 17) (.t 18),(some (10,true))⟩,qO 20 (.pick (.t 10) (.t 19) (.c (.bool false))),qM 4 20]) .ret))
def rs_internal_stringslite_HasSuffix:List IRes:=[.t 4]
theorem ck_internal_stringslite_HasSuffix:chkF Tryz.prog Tryz.f141 ir_internal_stringslite_HasSuffix rs_internal_stringslite_HasSuffix 21=true:=by kernel_rfl
def ir_strings_HasSuffix:IC:=(.seq (.reg [qO 4 (.mov (.c (.bool false)))]) (.seq (.reg [qM 5 0,qM 6 1,qO 7 (.call 141 [.t 5,.t 6]),qM 4 7]) .ret))
def rs_strings_HasSuffix:List IRes:=[.t 4]
theorem ck_strings_HasSuffix:chkF Tryz.prog Tryz.f108 ir_strings_HasSuffix rs_strings_HasSuffix 8=true:=by kernel_rfl
def ir_base_Visible_L0:IC:=(.seq (.reg [qO 10 (.bin .lss (.t 9) (.t 8))]) (.seq (.cond (.t 10) .skip (.exit 0)) (.seq (.block 1 (.seq (.reg [qM 11 9,qM 5 11]) (.seq (.reg [qM 12 0,qM 13 5,qO 14 (.idx (.t 12) (.t 13)),qM 6 14]) (.seq (.reg [qM 15 6,qO 16 (.bin .lss (.t 15) (.c (.int .u8 32))),qM 17 16,⟨some 18,.mov (.t 1),(some (17,true))⟩,⟨some 19,.mov (.t 18),(some (17,true))⟩,⟨some 20,.mov (.t 6),(some (19,true))⟩,⟨some 21,.bin .eql (.t 20) (.c (.int .u8 10)),(some (19,true))⟩,⟨some 22,.pick (.t 19) (.t 21) (.c (.bool false)),(some (17,true))⟩,⟨some 23,.not (.t 22),(some (17,true))⟩,qO 24 (.pick (.t 17) (.t 23) (.c (.bool false))),qM 25 24,⟨some 26,.mov (.t 6),(some (25,false))⟩,⟨some 27,.bin .eql (.t 26) (.c (.int .u8 127)),(some (25,false))⟩,qO 28 (.pick (.t 25) (.c (.bool true)) (.t 27))]) (.cond (.t 28) (.seq (.reg [qO 4 (.mov (.c (.bool false)))]) .ret) .skip))))) (.reg [qO 29 (.bin .add (.t 9) (.c (.int .i64 1))),qM 9 29]))))
def ir_base_Visible:IC:=(.seq (.reg [qO 4 (.mov (.c (.bool false)))]) (.seq (.seq (.reg [qM 7 0,qO 8 (.sln (.t 7)),qO 9 (.mov (.c (.int .i64 0)))]) (.block 0 (.loop ir_base_Visible_L0))) (.seq (.reg [qM 30 0,qO 31 (.call 140 [.t 30]),qM 4 31]) .ret)))
def rs_base_Visible:List IRes:=[.t 4]
theorem ck_base_Visible:chkF Tryz.prog Tryz.f107 ir_base_Visible rs_base_Visible 32=true:=by kernel_rfl
section
variable {E:Envt}
def sufE (s t:List UInt8):Bool:=decide ((t.length:Int)≤s.length) && decide (s.drop (s.length - t.length)=t)
theorem sHasSuffix_ok (s t:List UInt8) (hs:s.length≤1000000000000):PCall Tryz.prog E 141 [.str s,.str t] (·=.bool (sufE s t)):=by
 refine pcallF mixed Tryz.func141 ck_internal_stringslite_HasSuffix ?_
 simp only [a0,l0,OS.ao,List.map_cons,List.map_nil,List.length_cons,List.length_nil,List.cons_append,List.nil_append,Nat.reduceSub,Nat.reduceAdd,List.replicate_succ,List.replicate_zero,ir_internal_stringslite_HasSuffix,rs_internal_stringslite_HasSuffix,ZZ,WW,Ze,reduceCtorEq,Nat.reduceAdd,Nat.reduceMul,Nat.reduceLeDiff,Nat.reduceLT,Nat.reduceEqDiff]
 ((repeat' (with_reducible apply And.intro))<;>try ((exact sc_)))
 rw [show ((s.length:Int) - t.length).toNat=s.length - t.length from by omega,List.take_length]
 rfl
theorem HasSuffix_ok (s t:List UInt8) (hs:s.length≤1000000000000):PCall Tryz.prog E 108 [.str s,.str t] (·=.bool (sufE s t)):=by
 refine pcallF mixed Tryz.func108 ck_strings_HasSuffix ?_
 simp only [a0,l0,OS.ao,List.map_cons,List.map_nil,List.length_cons,List.length_nil,List.cons_append,List.nil_append,Nat.reduceSub,Nat.reduceAdd,List.replicate_succ,List.replicate_zero,ir_strings_HasSuffix,rs_strings_HasSuffix,ZZ,WW,Ze,reduceCtorEq,Nat.reduceAdd,Nat.reduceMul,Nat.reduceLeDiff,Nat.reduceLT,Nat.reduceEqDiff]
 refine use1 (sHasSuffix_ok s t hs) rfl (.inl rfl) ?_
 simp only [ZZ,WW,Ze,reduceCtorEq,Nat.reduceAdd,Nat.reduceMul,Nat.reduceLeDiff,Nat.reduceLT,Nat.reduceEqDiff]
def badB (feeds:Bool) (c:UInt8):Bool:=(decide ((c.toNat:Int) < 32) && !(feeds && decide ((c.toNat:Int)=10))) || decide ((c.toNat:Int)=127)
def visE (s:List UInt8) (feeds:Bool):Bool:=(s.all fun c=>!badB feeds c) && Lib.validD s
theorem all_take {s:List UInt8} {k:Nat} {c:UInt8} {p:UInt8→Bool} (h:s[k]?=some c):(s.take (k+1)).all p=((s.take k).all p && p c):=by
 obtain ⟨hk,hx⟩:=List.getElem?_eq_some_iff.1 h
 rw [List.take_succ_eq_append_getElem hk,List.all_append,hx]
 simp
end
theorem Visible_ok (s:List UInt8) (feeds:Bool) (hs:s.length≤1000000000):PCall Tryz.prog E0 107 [.str s,.bool feeds] (·=.bool (visE s feeds)):=by
 refine pcallF mixed Tryz.func107 ck_base_Visible ?_
 simp only [a0,l0,OS.ao,List.map_cons,List.map_nil,List.length_cons,List.length_nil,List.cons_append,List.nil_append,Nat.reduceSub,Nat.reduceAdd,List.replicate_succ,List.replicate_zero,ir_base_Visible,rs_base_Visible,ZZ,WW,Ze,reduceCtorEq,Nat.reduceAdd,Nat.reduceMul,Nat.reduceLeDiff,Nat.reduceLT,Nat.reduceEqDiff]
 refine loop_intro (fun n fr L=>∃ (k:Nat),k≤s.length∧n=s.length - k∧(((s.take k).all fun c=>!badB feeds c)=true)∧fr=[.p (.str s),.p (.bool feeds),oo,oo,oo,oo,oo,oo,.p (int (s.length:Nat)),.p (int (k:Nat)),oo,oo,oo,oo,oo,oo,oo,oo,oo,oo,oo,oo,oo,oo,oo,oo,oo,oo,oo,oo,oo,oo]∧L=[]) (s.length) [.p (.str s),.p (.bool feeds),oo,oo,oo,oo,oo,oo,.p (int (s.length:Nat)),.p (int (0:Nat)),oo,oo,oo,oo,oo,oo,oo,oo,oo,oo,oo,oo,oo,oo,oo,oo,oo,oo,oo,oo,oo,oo] [] (by (simp only [ZZ,WW,Ze,reduceCtorEq,Nat.reduceAdd,Nat.reduceMul,Nat.reduceLeDiff,Nat.reduceLT,Nat.reduceEqDiff];try trivial)) (by (simp only [ZZ,WW,Ze,reduceCtorEq,Nat.reduceAdd,Nat.reduceMul,Nat.reduceLeDiff,Nat.reduceLT,Nat.reduceEqDiff];try trivial)) ⟨0,by omega,by omega,by simp,rfl,rfl⟩ ?_
 rintro n fr L ⟨k,hk,rfl,hall,rfl,rfl⟩
 simp only [ir_base_Visible_L0,ZZ,WW,Ze,reduceCtorEq,Nat.reduceAdd,Nat.reduceMul,Nat.reduceLeDiff,Nat.reduceLT,Nat.reduceEqDiff]
 refine br ?_ ?_
 ·intro h
  have hlt:k < s.length:=by have:=of_decide_eq_true h;omega
  obtain ⟨c,hc⟩:∃ x,s[k]?=some x:=⟨_,List.getElem?_eq_getElem hlt⟩
  have hg:s.getD k 0=c:=by simp [List.getD,hc]
  have hnx:=all_take (p:=fun c=>!badB feeds c) hc
  simp only [ZZ,WW,Ze,reduceCtorEq,Nat.reduceAdd,Nat.reduceMul,Nat.reduceLeDiff,Nat.reduceLT,Nat.reduceEqDiff,hg]
  ((repeat' (with_reducible apply And.intro))<;>try ((exact sc_)))
  refine br ?_ ?_
  ·intro hb
   have hb:badB feeds c=true:=hb
   simp only [ZZ,WW,Ze,reduceCtorEq,Nat.reduceAdd,Nat.reduceMul,Nat.reduceLeDiff,Nat.reduceLT,Nat.reduceEqDiff]
   have:(s.all fun c=>!badB feeds c)=false:=by
    rw [List.all_eq_false]
    exact ⟨c,List.mem_of_getElem? hc,by simp [hb]⟩
   simp [visE,this]
  ·intro hb
   have hb:badB feeds c=false:=hb
   simp only [ZZ,WW,Ze,reduceCtorEq,Nat.reduceAdd,Nat.reduceMul,Nat.reduceLeDiff,Nat.reduceLT,Nat.reduceEqDiff]
   ((repeat' (with_reducible apply And.intro))<;>try ((exact sc_)))
   refine end_round (s.length - (k+1)) [.p (.str s),.p (.bool feeds),oo,oo,oo,oo,oo,oo,.p (int (s.length:Nat)),.p (int ((k+1):Nat)),oo,oo,oo,oo,oo,oo,oo,oo,oo,oo,oo,oo,oo,oo,oo,oo,oo,oo,oo,oo,oo,oo] [] (by omega) (by (simp only [ZZ,WW,Ze,reduceCtorEq,Nat.reduceAdd,Nat.reduceMul,Nat.reduceLeDiff,Nat.reduceLT,Nat.reduceEqDiff];try trivial)) (by (simp only [ZZ,WW,Ze,reduceCtorEq,Nat.reduceAdd,Nat.reduceMul,Nat.reduceLeDiff,Nat.reduceLT,Nat.reduceEqDiff];try trivial)) ⟨k+1,by omega,rfl,by rw [hnx,hall,hb];rfl,rfl,rfl⟩
 ·intro h
  have hge:s.length≤k:=by have:=of_decide_eq_false h;omega
  rw [List.take_of_length_le hge] at hall
  simp only [ZZ,WW,Ze,reduceCtorEq,Nat.reduceAdd,Nat.reduceMul,Nat.reduceLeDiff,Nat.reduceLT,Nat.reduceEqDiff]
  refine use1 (Valid_ok s (by omega)) rfl (.inl rfl) ?_
  simp only [ZZ,WW,Ze,reduceCtorEq,Nat.reduceAdd,Nat.reduceMul,Nat.reduceLeDiff,Nat.reduceLT,Nat.reduceEqDiff]
  simp [visE,hall]
section
variable {E:Envt}
end
theorem var_blockD {P:Program} {w w':World} {n:String} {g:Nat} (hg:P.globalNamed n=some g) (hb:w'.heap[g]?=w.heap[g]?):w'.var? P n=w.var? P n:=by
 simp only [World.var?,hg,Option.bind_some,hb]
def ED:Envt where
 ok w:=E0.ok w∧Lib.TabIs Tryz.prog w "internal/strconv.uint64pow10" .u64 Lib.pow10Tab∧TabAt 5 Lib.deBruijn64tab w
 bl b:=E0.bl b∨b=3∨b=5
 mono w w' hb h:=⟨E0.mono w w' (fun b hbb=>hb b (.inl hbb)) h.1,(var_blockD (by kernel_rfl) (hb _ (.inr (.inl rfl)))).trans h.2.1,fun j hj=>(World.cell?_of_block (hb _ (.inr (.inr rfl)))).trans (h.2.2 j hj)⟩
theorem upD {f:FuncId} {args:List PV} {φ:PV→Prop} (h:PCall Tryz.prog E0 f args φ):PCall Tryz.prog ED f args φ:=fun w U vs hU hE hEb hA=>h w U vs hU hE.1 (fun c hc=>hEb c (.inl hc)) hA
theorem grow_seqD (w:World) (k:Nat) (os:Array Obj):Grow w (Sort.grow (w.drewN k) os) (fun _=>False):=⟨rfl,rfl,rfl,by simp [Sort.grow,World.drewN],fun b hb _=>by simp [Sort.grow,World.drewN,Array.getElem?_append_left hb]⟩
theorem Itoa_okD (n:Int) (h0:-9223372036854775808≤n) (h1:n≤9223372036854775807):PCall Tryz.prog ED 72 [int n] (·=.str (Lib.itoa n)):=
 pcall_flat rfl rfl fun w hE=>(Any.strconv_Itoa Tryz.layItoa n h0 h1 w hE.2.1).mono fun e w' h=>⟨h.1,by obtain ⟨k,os,rfl⟩:=h.2;exact grow_seqD w k os⟩
theorem TZ_okD:PCall Tryz.prog ED 172 [.int .u64 16] (·=int 4):=
 pcall_flat rfl rfl fun w hE=>(Any7.bits_TrailingZeros Tryz.layTZ 16 (by omega) w (fun _=>hE.2.2)).mono fun e w' h=>⟨by have h1:=h.1;rw [show Lib.ctz 64 16=4 by decide] at h1;exact h1,by rw [h.2];exact Grow.refl _ _⟩
theorem FormatUint_okD (u:Nat) (hu:u < 18446744073709551616):PCall Tryz.prog ED 110 [.int .u64 (u:Nat),int 16] (·=.str (hexF u)):=FormatUint_ok TZ_okD u hu
def IsRow (k:IntKind) (w:World) (a:Option Addr) (len cap:Nat) (zs:List Int):Prop:=
 (a=none∧len=0∧cap=0∧zs=[])∨
 ∃ x,a=some x∧len≤cap∧cap≤maxLen∧zs.length=cap∧(∀ i,i < zs.length→w.cell? (x.add i)=some (.int k (zs.getD i 0)))∧∀ n∈zs,(Lit.int k n).wf=true
theorem repE_ints {w:World} {U:Nat→Prop} {b:Nat}:∀ (l:List Int) (off:Nat),(∀ i,i < l.length→w.cell? ⟨b,off+i,none⟩=some (.int .i64 (l.getD i 0)))→PRepE w U b 1 off (l.map fun x=>[.int .i64 x])
 |[],off,h=>trivial
 |x :: r,off,h=>by
  refine ⟨rfl,⟨⟨_,by simpa using h 0 (by simp),rfl,rfl⟩,trivial⟩,repE_ints r (off+1) (fun i hi=>?_)⟩
  have:=h (i+1) (by simpa using hi)
  rw [show off+1+i=off+(i+1) from by omega]
  simpa using this
theorem isRow_rep {w:World} {a:Option Addr} {len cap:Nat} {zs:List Int} (h:IsRow .i64 w a len cap zs):PRep w (fun _=>False) (ints (zs.take len)) (.slice a len cap)∧(zs.take len).length≤9223372036854775807:=by
 rcases h with ⟨rfl,rfl,rfl,rfl⟩|⟨x,rfl,h1,h2,h3,h4,_⟩
 ·exact ⟨⟨none,0,rfl,by simp,fun h=>by simp at h⟩,by simp⟩
 ·have hl:(zs.take len).length=len:=by rw [List.length_take];omega
  refine ⟨⟨some x,cap,by rw [List.length_map,hl],by rw [List.length_map,hl];exact h1,fun hne=>?_⟩,by rw [hl];unfold maxLen at h2;omega⟩
  have h0:0 < len:=by
   rcases Nat.eq_zero_or_pos len with h'|h'
   ·subst h';simp at hne
   ·exact h'
  obtain ⟨b,off,spot⟩:=x
  have hc:=h4 0 (by omega)
  have hspot:spot=none:=by simpa [Addr.add] using World.cell?_spot hc
  subst hspot
  have hb:b < w.heap.size:=by
   have:=World.block_lt_of_cell? w _ hc
   simpa [Addr.add] using this
  refine ⟨b,off,rfl,hb,fun h=>h,repE_ints _ _ (fun i hi=>?_)⟩
  rw [hl] at hi
  have:=h4 i (by omega)
  rw [addr_addA] at this
  rw [this]
  congr 2
  rw [List.getD_eq_getElem?_getD,List.getD_eq_getElem?_getD,List.getElem?_take_of_lt hi]
theorem walk_of {P:Program} {E:Envt} {f:FuncId} (h:∀ z:List Int,z.length≤9223372036854775807→PCall P E f [ints z] (·=.bool true)) (a0:Option Addr) (len0 cap0:Nat) (z0:List Int) (w:World) (h0:IsRow .i64 w a0 len0 cap0 z0) (hok:E.ok w) (hbl:∀ b,E.bl b→b < w.heap.size) :
  Calls P f #[.slice a0 len0 cap0] w fun e w'=>e=.returned (.bool true)∧Below w.heap.size w w':=by
 obtain ⟨h1,h2⟩:=isRow_rep h0
 refine (h _ h2 w (fun _=>False) [.slice a0 len0 cap0] (fun _ h=>h.elim) hok hbl ⟨_,[],rfl,h1,rfl⟩).mono ?_
 rintro e w' ⟨v,x,rfl,rfl,hv,hg⟩
 refine ⟨by rw [PRep.bool_eq hv],⟨hg.os,hg.tape,hg.output,hg.size,fun k hk=>hg.block k hk (fun h=>h)⟩⟩
theorem ba_size (s:List UInt8):(⟨s.toArray⟩:ByteArray).size=s.length:=by simp [ByteArray.size]
section
variable {E:Envt}
theorem Repeat_ok (s:List UInt8) (n:Nat) (hn:n≤1000000) (hs:s.length≤1000000):PCall Tryz.prog E 54 [.str s,int n] (·=.str (Lib.repeatL s n)):=
 pcall_flat rfl rfl fun w _=>(r_Repeat ⟨s.toArray⟩ n w (by omega) (by rw [ba_size];exact Nat.le_trans (Nat.mul_le_mul hs hn) (by decide))).mono fun e w' h=>⟨h.1,grow_below h.2⟩
theorem HasPrefix_ok (s p:List UInt8):PCall Tryz.prog E 89 [.str s,.str p] (·=.bool (Lib.hasPrefix s p)):=
 pcall_flat rfl rfl fun w _=>(Any.strings_HasPrefix Tryz.layPrefix ⟨s.toArray⟩ ⟨p.toArray⟩ w).mono fun e w' h=>⟨h.1,by rw [h.2];exact Grow.refl _ _⟩
end
theorem Index_ok (s t:List UInt8) (hs:s.length≤1000000000):PCall Tryz.prog E0 142 [.str s,.str t] (·=int (Lib.index s t)):=
 pcall_flat rfl rfl fun w hE=>by
  obtain ⟨_,m,hm⟩:=hE
  exact (Any.strings_Index { Tryz.layIndex with } ⟨s.toArray⟩ ⟨t.toArray⟩ m w (by rw [ba_size];omega) hm).mono fun e w' h=>⟨h.1,by rw [h.2];exact Grow.refl _ _⟩
def ir_chaseref1_wellFormed_L0:IC:=(.seq (.reg [qO 11 (.bin .lss (.t 10) (.t 9))]) (.seq (.cond (.t 11) .skip (.exit 0)) (.seq (.block 1 (.seq (.reg [qO 12 (.ixa 1 (.t 8) (.t 10)),qO 13 (.ld 1 false (.t 12)),qM 6 13]) (.seq (.reg [qM 14 6,qO 15 (.bin .lss (.t 14) (.c (.int .u8 32))),qM 16 15,⟨some 17,.mov (.t 1),(some (16,true))⟩,⟨some 18,.mov (.t 17),(some (16,true))⟩,⟨some 19,.mov (.t 6),(some (18,true))⟩,⟨some 20,.bin .eql (.t 19) (.c (.int .u8 10)),(some (18,true))⟩,⟨some 21,.pick (.t 18) (.t 20) (.c (.bool false)),(some (16,true))⟩,⟨some 22,.not (.t 21),(some (16,true))⟩,qO 23 (.pick (.t 16) (.t 22) (.c (.bool false))),qM 24 23,⟨some 25,.mov (.t 6),(some (24,false))⟩,⟨some 26,.bin .eql (.t 25) (.c (.int .u8 127)),(some (24,false))⟩,qO 27 (.pick (.t 24) (.c (.bool true)) (.t 26))]) (.cond (.t 27) (.seq (.reg [qO 4 (.mov (.c (.bool false)))]) .ret) .skip)))) (.reg [qO 28 (.bin .add (.t 10) (.c (.int .i64 1))),qM 10 28]))))
def ir_chaseref1_wellFormed:IC:=(.seq (.reg [qO 4 (.mov (.c (.bool false)))]) (.seq (.seq (.reg [qM 7 0,qO 8 (.s2b 5 (.t 7)),qO 9 (.len (.t 8)),qO 10 (.mov (.c (.int .i64 0)))]) (.block 0 (.loop ir_chaseref1_wellFormed_L0))) (.seq (.reg [qM 29 0,qO 30 (.call 140 [.t 29]),qM 4 30]) .ret)))
def rs_chaseref1_wellFormed:List IRes:=[.t 4]
theorem ck_chaseref1_wellFormed:chkF Tryz.prog Tryz.f113 ir_chaseref1_wellFormed rs_chaseref1_wellFormed 31=true:=by kernel_rfl
theorem all256 {p:UInt8→Prop} (h:∀ n:Fin 256,p (UInt8.ofNat n.val)) (c:UInt8):p c:=by
 have:=h ⟨c.toNat,c.toNat_lt⟩
 simpa using this
section
variable {E:Envt}
end
theorem wellFormed_ok (s:List UInt8) (feeds:Bool) (hs:s.length≤1000000000):PCall Tryz.prog E0 113 [.str s,.bool feeds] (·=.bool (visE s feeds)):=by
 refine pcallF mixed Tryz.func113 ck_chaseref1_wellFormed ?_
 simp only [a0,l0,OS.ao,List.map_cons,List.map_nil,List.length_cons,List.length_nil,List.cons_append,List.nil_append,Nat.reduceSub,Nat.reduceAdd,List.replicate_succ,List.replicate_zero,ir_chaseref1_wellFormed,rs_chaseref1_wellFormed,ZZ,WW,Ze,reduceCtorEq,Nat.reduceAdd,Nat.reduceMul,Nat.reduceLeDiff,Nat.reduceLT,Nat.reduceEqDiff]
 refine ⟨by omega,?_⟩
 have hln:(s.map fun q=>[PV.int .u8 (q.toNat:Nat)]).length=s.length:=by simp
 have hget:∀ k c,s[k]?=some c→(s.map fun q=>[PV.int .u8 (q.toNat:Nat)]).getD k []=[.int .u8 (c.toNat:Nat)]:=fun k c h=>getD_map h
 generalize (s.map fun q=>[PV.int .u8 (q.toNat:Nat)])=es at hln hget ⊢
 simp only [ZZ,WW,Ze,reduceCtorEq,Nat.reduceAdd,Nat.reduceMul,Nat.reduceLeDiff,Nat.reduceLT,Nat.reduceEqDiff,hln]
 refine loop_intro (fun n fr L=>∃ (k:Nat),k≤s.length∧n=s.length - k∧(((s.take k).all fun c=>!badB feeds c)=true)∧fr=[.p (.str s),.p (.bool feeds),oo,oo,oo,oo,oo,oo,.row (.l 8),.p (int (s.length:Nat)),.p (int (k:Nat)),oo,oo,oo,oo,oo,oo,oo,oo,oo,oo,oo,oo,oo,oo,oo,oo,oo,oo,oo,oo]∧L=[(.l 8,.row es 5 1 false)]) (s.length) [.p (.str s),.p (.bool feeds),oo,oo,oo,oo,oo,oo,.row (.l 8),.p (int (s.length:Nat)),.p (int (0:Nat)),oo,oo,oo,oo,oo,oo,oo,oo,oo,oo,oo,oo,oo,oo,oo,oo,oo,oo,oo,oo] [(.l 8,.row es 5 1 false)] (by (simp only [ZZ,WW,Ze,reduceCtorEq,Nat.reduceAdd,Nat.reduceMul,Nat.reduceLeDiff,Nat.reduceLT,Nat.reduceEqDiff];try trivial)) (by (simp only [ZZ,WW,Ze,reduceCtorEq,Nat.reduceAdd,Nat.reduceMul,Nat.reduceLeDiff,Nat.reduceLT,Nat.reduceEqDiff];try trivial)) ⟨0,by omega,by omega,by simp,rfl,rfl⟩ ?_
 rintro n fr L ⟨k,hk,rfl,hall,rfl,rfl⟩
 simp only [ir_chaseref1_wellFormed_L0,ZZ,WW,Ze,reduceCtorEq,Nat.reduceAdd,Nat.reduceMul,Nat.reduceLeDiff,Nat.reduceLT,Nat.reduceEqDiff]
 refine br ?_ ?_
 ·intro h
  have hlt:k < s.length:=by have:=of_decide_eq_true h;omega
  obtain ⟨c,hc⟩:∃ x,s[k]?=some x:=⟨_,List.getElem?_eq_getElem hlt⟩
  have hg:=hget k c hc
  have hnx:=all_take (p:=fun c=>!badB feeds c) hc
  simp only [ZZ,WW,Ze,reduceCtorEq,Nat.reduceAdd,Nat.reduceMul,Nat.reduceLeDiff,Nat.reduceLT,Nat.reduceEqDiff,hg,hln]
  ((repeat' (with_reducible apply And.intro))<;>try ((exact sc_)))
  refine br ?_ ?_
  ·intro hb
   have hb:badB feeds c=true:=hb
   simp only [ZZ,WW,Ze,reduceCtorEq,Nat.reduceAdd,Nat.reduceMul,Nat.reduceLeDiff,Nat.reduceLT,Nat.reduceEqDiff]
   have:(s.all fun c=>!badB feeds c)=false:=by
    rw [List.all_eq_false]
    exact ⟨c,List.mem_of_getElem? hc,by simp [hb]⟩
   simp [visE,this]
  ·intro hb
   have hb:badB feeds c=false:=hb
   simp only [ZZ,WW,Ze,reduceCtorEq,Nat.reduceAdd,Nat.reduceMul,Nat.reduceLeDiff,Nat.reduceLT,Nat.reduceEqDiff]
   ((repeat' (with_reducible apply And.intro))<;>try ((exact sc_)))
   refine end_round (s.length - (k+1)) [.p (.str s),.p (.bool feeds),oo,oo,oo,oo,oo,oo,.row (.l 8),.p (int (s.length:Nat)),.p (int ((k+1):Nat)),oo,oo,oo,oo,oo,oo,oo,oo,oo,oo,oo,oo,oo,oo,oo,oo,oo,oo,oo,oo] [(.l 8,.row es 5 1 false)] (by omega) (by (simp only [ZZ,WW,Ze,reduceCtorEq,Nat.reduceAdd,Nat.reduceMul,Nat.reduceLeDiff,Nat.reduceLT,Nat.reduceEqDiff];try trivial)) (by (simp only [ZZ,WW,Ze,reduceCtorEq,Nat.reduceAdd,Nat.reduceMul,Nat.reduceLeDiff,Nat.reduceLT,Nat.reduceEqDiff];try trivial)) ⟨k+1,by omega,rfl,by rw [hnx,hall,hb];rfl,rfl,rfl⟩
 ·intro h
  have hge:s.length≤k:=by have:=of_decide_eq_false h;omega
  rw [List.take_of_length_le hge] at hall
  simp only [ZZ,WW,Ze,reduceCtorEq,Nat.reduceAdd,Nat.reduceMul,Nat.reduceLeDiff,Nat.reduceLT,Nat.reduceEqDiff]
  refine use1 (Valid_ok s (by omega)) rfl (.inl rfl) ?_
  simp only [ZZ,WW,Ze,reduceCtorEq,Nat.reduceAdd,Nat.reduceMul,Nat.reduceLeDiff,Nat.reduceLT,Nat.reduceEqDiff]
  simp [visE,hall]
def ir_base_Digit:IC:=(.seq (.reg [qO 2 (.mov (.c (.bool false)))]) (.seq (.reg [qM 3 0,qO 4 (.bin .geq (.t 3) (.c (.int .u8 48))),qM 5 4,⟨some 6,.mov (.t 0),(some (5,true))⟩,⟨some 7,.bin .leq (.t 6) (.c (.int .u8 57)),(some (5,true))⟩,qO 8 (.pick (.t 5) (.t 7) (.c (.bool false))),qM 2 8]) .ret))
def rs_base_Digit:List IRes:=[.t 2]
theorem ck_base_Digit:chkF Tryz.prog Tryz.f76 ir_base_Digit rs_base_Digit 9=true:=by kernel_rfl
def digB (c:UInt8):Bool:=decide (48≤(c.toNat:Int)) && decide ((c.toNat:Int)≤57)
section
variable {E:Envt}
theorem Digit_ok (c:UInt8):PCall Tryz.prog E 76 [.int .u8 (c.toNat:Nat)] (·=.bool (digB c)):=by
 refine pcallF mixed Tryz.func76 ck_base_Digit ?_
 simp only [a0,l0,OS.ao,List.map_cons,List.map_nil,List.length_cons,List.length_nil,List.cons_append,List.nil_append,Nat.reduceSub,Nat.reduceAdd,List.replicate_succ,List.replicate_zero,ir_base_Digit,rs_base_Digit,ZZ,WW,Ze,reduceCtorEq,Nat.reduceAdd,Nat.reduceMul,Nat.reduceLeDiff,Nat.reduceLT,Nat.reduceEqDiff]
 ((repeat' (with_reducible apply And.intro))<;>try ((exact sc_)))
def strE (l:List (List UInt8)):List (List PV):=l.map fun x=>[PV.str x]
theorem strE_len (l:List (List UInt8)):(strE l).length=l.length:=by simp [strE]
theorem strE_get {l:List (List UInt8)} {k:Nat} {x:List UInt8} (h:l[k]?=some x):(strE l).getD k []=[.str x]:=getD_map h
end
section
variable {E:Envt}
end
end Go.Proofs.YtinffddgojhdfaaGreatDoor
namespace Go.Proofs.YtinffddgojhdfaaGreatDoor
open Go.Lib Go.RowKit Go.Shelf
theorem indexByte_absent {l:List UInt8} {c:UInt8} (h:∀ b∈l,b≠c):Lib.indexByte l c=-1:=by
 have h1:=Lib.contains_iff_indexByte l c
 have h2:l.contains c=false:=by
  rw [Bool.eq_false_iff]
  intro h3
  exact h c (by simpa using h3) rfl
 rw [h2] at h1
 have h3:¬ (0:Int)≤Lib.indexByte l c:=of_decide_eq_false h1.symm
 have h4:-1≤Lib.indexByte l c:=by rw [← Lib.indexAny_one];exact Lib.indexAny_ge _ _
 omega
def Asc (s:ByteArray):Prop:=∀ (j:Nat) (b:UInt8),s.data.toList[j]?=some b→b.toNat < 128
theorem Asc.rest {s:ByteArray} (h:Asc s) (i:Nat) {c:UInt8} (hc:128≤c.toNat):Lib.indexByte (s.extract i s.size).data.toList c=-1:=by
 refine indexByte_absent fun b hb e=>?_
 have hb:=mem_extract hb
 obtain ⟨j,hj⟩:=List.getElem?_of_mem hb
 have:=h j b hj
 rw [e] at this
 omega
section
variable {P:Program} {ρ:Ren}
end
end Go.Proofs.YtinffddgojhdfaaGreatDoor
namespace Go.Proofs.YtinffddgojhdfaaGreatDoor
open Go.RowKit
def ir_chaseref1_made:IC:=(.seq (.reg [qO 4 (.mov (.c (.bool false)))]) (.seq (.reg [qM 5 0,qM 6 1,qO 7 (.call 99 [.t 5,.t 6]),qO 8 (.bin .eql (.t 7) (.c (.str []))),qM 4 8]) .ret))
def rs_chaseref1_made:List IRes:=[.t 4]
theorem ck_chaseref1_made:chkF Tryz.prog Tryz.f64 ir_chaseref1_made rs_chaseref1_made 9=true:=by kernel_rfl
def madeF (s of:List UInt8):Bool:=decide (Lib.trimS s of=[])
theorem dropW_nil {p:UInt8→Bool}:∀ {l:List UInt8},l.dropWhile p=[]↔l.all p=true
 |[]=>by simp
 |x :: r=>by
  simp only [List.dropWhile,List.all_cons]
  cases h:p x
  ·simp
  ·simpa using dropW_nil (l:=r)
theorem madeF_all (s of:List UInt8):madeF s of=s.all (fun c=>of.contains c):=by
 rw [Bool.eq_iff_iff,madeF,decide_eq_true_iff,Lib.trimS,Lib.trimLeftS,Lib.trimRightS,dropW_nil]
 constructor
 ·intro h
  have h2:∀ l:List UInt8,(l.dropWhile fun c=>of.contains c).all (fun c=>of.contains c)=true→l.all (fun c=>of.contains c)=true:=by
   intro l
   induction l with
   |nil=>simp
   |cons x r ih=>
    simp only [List.dropWhile]
    cases hx:of.contains x
    ·intro h;exact h
    ·intro h;simp only [List.all_cons,hx,Bool.true_and];exact ih h
  have:=h2 s.reverse (by simpa [List.all_reverse] using h)
  simpa [List.all_reverse] using this
 ·intro h
  have:(s.reverse.dropWhile fun c=>of.contains c)=[]:=dropW_nil.2 (by simpa [List.all_reverse] using h)
  rw [this]
  simp
section
variable {E:Envt}
def asc (l:List UInt8):Bool:=l.all fun b=>decide (b.toNat < 128)
theorem asc_at {l:List UInt8} (h:asc l=true):∀ (j:Nat) b,(⟨l.toArray⟩:ByteArray).data.toList[j]?=some b→b.toNat < 128:=
 fun _ b hb=>of_decide_eq_true (List.all_eq_true.1 h b (List.mem_of_getElem? (by simpa using hb)))
theorem TrimSet_ok (s cs:List UInt8) (hs:s.length≤1000000000) (hcs:cs.length≤1000000) (h2:asc cs=true):PCall Tryz.prog E 99 [.str s,.str cs] (·=.str (Lib.trimS s cs)):=
 pcall_flat rfl rfl fun w _=>(Any.strings_Trim_laid Tryz.layTrim (by kernel_rfl) ⟨s.toArray⟩ ⟨cs.toArray⟩ w (by rw [ba_size];omega) (by rw [ba_size];omega) (asc_at h2)).mono fun e w' h=>⟨h.1,grow_below h.2⟩
theorem made_ok (s of:List UInt8) (hs:s.length≤1000000000) (ho:of.length≤1000) (ha:asc of=true):PCall Tryz.prog E 64 [.str s,.str of] (·=.bool (madeF s of)):=by
 refine pcallF mixed Tryz.func64 ck_chaseref1_made ?_
 simp only [a0,l0,OS.ao,List.map_cons,List.map_nil,List.length_cons,List.length_nil,List.cons_append,List.nil_append,Nat.reduceSub,Nat.reduceAdd,List.replicate_succ,List.replicate_zero,ir_chaseref1_made,rs_chaseref1_made,ZZ,WW,Ze,reduceCtorEq,Nat.reduceAdd,Nat.reduceMul,Nat.reduceLeDiff,Nat.reduceLT,Nat.reduceEqDiff]
 refine use1 (TrimSet_ok s of hs (by omega) ha) rfl (.inl rfl) ?_
 simp only [ZZ,WW,Ze,reduceCtorEq,Nat.reduceAdd,Nat.reduceMul,Nat.reduceLeDiff,Nat.reduceLT,Nat.reduceEqDiff]
 rfl
end
end Go.Proofs.YtinffddgojhdfaaGreatDoor
