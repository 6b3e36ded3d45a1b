import Derived.Test.YtehfjlpenlffmaaGreatDoorZ4
import Derived.Test.YtehfjlpenlffmaaGreatDoorProg
import Derived.KernelRfl
set_option linter.unusedVariables false
set_option linter.unusedSimpArgs false
set_option linter.defProp false
namespace Go.Proofs.YtehfjlpenlffmaaGreatDoor
theorem mixed:Tryz.prog.follows .mixedOrders=true:=by kernel_rfl
abbrev int (n:Int):PV:=.int .i64 n
def ints (l:List Int):PV:=.sl 1 (l.map fun x=>[.int .i64 x])
def strs (l:List (List UInt8)):PV:=.sl 1 (l.map fun x=>[.str x])
theorem getD_map {α β:Type} {f:α→β} {l:List α} {k:Nat} {x:α} {d:β} (h:l[k]?=some x):(l.map f).getD k d=f x:=by
 simp [List.getD,h]
theorem i64_of {n:Int} (h1:-9223372036854775808≤n) (h2:n≤9223372036854775807):I64 n:=⟨h1,h2⟩
theorem Zl0 {α:Type} {n:Nat}:([]:List α).take n=[]:=by simp
theorem Zl1 {α:Type} {n:Nat}:([]:List α).drop n=[]:=by simp
theorem Zl2 {α:Type} {l:List α}:l++[]=l:=by simp
theorem Zl3 {p:Prop}:(True∧p)=p:=by simp
theorem Zl4 {p:Prop}:(p∧True)=p:=by simp
theorem Zl5 {α:Type} {h:Decidable True} {a b:α}:(if True then a else b)=a:=by simp
theorem Zl6 {α:Type} {h:Decidable False} {a b:α}:(if False then a else b)=b:=by simp
theorem Zl7 {b:Bool}:(b && true)=b:=by simp
theorem Zl8 {b:Bool}:(true && b)=b:=rfl
theorem Zl9:(!true)=false:=rfl
theorem Zl10:(!false)=true:=rfl
theorem Zl11 {α:Type} {a b:α}:(bif true then a else b)=a:=rfl
theorem Zl12 {α:Type} {a b:α}:(bif false then a else b)=b:=rfl
theorem Zl13 {p:Prop}:(p→p)=True:=by simp
theorem Zl14 {p:Prop}:(p∧p)=p:=by simp
theorem Zl15 {p:Prop}:(True→p)=p:=by simp
theorem Zl16 {p:Prop}:(p→True)=True:=by simp
theorem Zl17 {n:Nat}:0+n=n:=by simp
theorem Zl18 {n:Nat}:n+0=n:=rfl
theorem Zl19 {b c:Bool}:(bif b then c else false)=(b && c):=by simp
theorem Zl20 {b c:Bool}:(bif b then true else c)=(b || c):=by simp
theorem Zl21 {n:Nat}:((n:Int)).toNat=n:=rfl
theorem Zl22:(false=true)=False:=by simp
theorem Zl23 {α:Type} {a b:α}:(a≠b)=¬ (a=b):=by simp
theorem Zl24:(¬ False)=True:=by simp
theorem Zl25:(¬ True)=False:=by simp
theorem Zl26 {a b:Nat}:(Key.l a=Key.l b)=(a=b):=by simp
theorem Zl27 {a b:Nat}:(Key.b a=Key.b b)=(a=b):=by simp
theorem Zl28 {α:Type} {a:α} {l:List α} {d:α}:(a :: l).getD 0 d=a:=rfl
theorem Zl29 {α:Type} {a:α} {l:List α} {d:α} {n:Nat}:(a :: l).getD (n+1) d=l.getD n d:=rfl
theorem Zl30 {α:Type} {d:α} {n:Nat}:([]:List α).getD n d=d:=rfl
theorem Zl31 {α:Type} {a:α} {l:List α}:(a :: l)[0]?=some a:=rfl
theorem Zl32 {α:Type} {a:α} {l:List α} {n:Nat}:(a :: l)[n+1]?=l[n]?:=rfl
theorem Zl33 {α:Type} {a b:α} {l:List α}:(a :: l).set 0 b=b :: l:=rfl
theorem Zl34 {α:Type} {a b:α} {l:List α} {n:Nat}:(a :: l).set (n+1) b=a :: l.set n b:=rfl
theorem Zl35 {α β:Type} {f:α→β} {a:α} {l:List α}:(a :: l).map f=f a :: l.map f:=rfl
theorem Zl36 {α β:Type} {f:α→β}:[].map f=[]:=rfl
theorem Zl37 {α:Type} {a:α} {l:List α}:(a :: l).length=l.length+1:=rfl
theorem Zl38 {α:Type}:([]:List α).length=0:=rfl
theorem Zl39 {α:Type} {p:α→Bool} {a:α} {l:List α}:(a :: l).all p=(p a && l.all p):=rfl
theorem Zl40 {α:Type} {p:α→Bool}:[].all p=true:=rfl
theorem Zl41 {α:Type} {a:α} {l:List α} {n:Nat}:(a :: l).take (n+1)=a :: l.take n:=rfl
theorem Zl42 {α:Type} {l:List α}:l.take 0=[]:=rfl
theorem Zl43 {α:Type} {a:α} {l:List α} {n:Nat}:(a :: l).drop (n+1)=l.drop n:=rfl
theorem Zl44 {α:Type} {l:List α}:l.drop 0=l:=rfl
theorem Zl45 {α β:Type} {f:α→β} {a:α}:(some a).map f=some (f a):=rfl
theorem Zl46 {α β:Type} {f:α→β}:(none:Option α).map f=none:=rfl
theorem Zl47 {α:Type} {a:α} {l m:List α}:(a :: l)++m=a :: (l++m):=rfl
theorem Zl48 {α:Type} {l:List α}:[]++l=l:=rfl
theorem Zl49 {α:Type} {a:α} {l:List α}:(a :: l).isEmpty=false:=rfl
theorem Zl50 {α:Type}:([]:List α).isEmpty=true:=rfl
abbrev qO (d:Nat) (o:IOp):IOper:=⟨some d,o,none⟩
abbrev qM (d s:Nat):IOper:=⟨some d,.mov (.t s),none⟩
abbrev oo:AV:=.any
theorem WW.{u}:(∀ {α:Sort u} (a b:α),(if True then a else b)=a)∧(∀ {α:Sort u} (a b:α),(if False then a else b)=b)∧(∀ {α:Sort u} [Nonempty α] (b:Prop),(α→b)↔b):=⟨fun _ _=>rfl,fun _ _=>rfl,fun _=>by simp⟩
def ZZ:=And.intro (And.intro (And.intro (And.intro (And.intro (And.intro (And.intro (And.intro (And.intro @awp_skip (And.intro @awp_exit @awp_ret)) (And.intro @awp_seq (And.intro @awp_block @awp_reg))) (And.intro (And.intro @awp_drg (And.intro @awp_drp @awp_loop)) (And.intro @awp_cond (And.intro @awp_cut @thenC_n)))) (And.intro (And.intro (And.intro @thenC_r (And.intro @thenC_e @blockQ_n)) (And.intro @blockQ_r (And.intro @blockQ_e @roundQ_n))) (And.intro (And.intro @roundQ_r (And.intro @roundQ_e @midQ_n)) (And.intro @midQ_r (And.intro @midQ_e @retQ_r))))) (And.intro (And.intro (And.intro (And.intro @retQ_n (And.intro @retF_r @retF_n)) (And.intro @RetK_some (And.intro @mkRes1 @mkRes2))) (And.intro (And.intro @mkRes3 (And.intro @BrC_true @BrC_false)) (And.intro @OpsK_some (And.intro @GdK_some @GdK_none)))) (And.intro (And.intro (And.intro @StepK_some (And.intro @ops_nil @o_mov)) (And.intro @o_pick (And.intro @o_bin @o_bnb))) (And.intro (And.intro @o_eqa (And.intro @o_not @o_neg)) (And.intro (And.intro @o_len @o_sln) (And.intro @o_mx @o_mn)))))) (And.intro (And.intro (And.intro (And.intro (And.intro @o_idx (And.intro @o_ssl @o_vsl)) (And.intro @o_ixa (And.intro @o_fla @o_fld))) (And.intro (And.intro @o_ld (And.intro @o_ldl @o_ext)) (And.intro @o_bld (And.intro @o_cvi @o_cvs)))) (And.intro (And.intro (And.intro @o_b2s (And.intro @o_bsl @o_nck)) (And.intro @o_nli (And.intro @o_mkf @o_cap0))) (And.intro (And.intro @o_vsn (And.intro @o_mpl @o_mpn)) (And.intro @o_bldg (And.intro @o_ldg @o_nilr))))) (And.intro (And.intro (And.intro (And.intro @o_alc (And.intro @o_box @o_st)) (And.intro @o_app (And.intro @o_bsr @o_s2b))) (And.intro (And.intro @o_mks (And.intro @o_apz @o_trn)) (And.intro @o_mkm (And.intro @o_mpu @o_stg)))) (And.intro (And.intro (And.intro @o_alcd (And.intro @o_bsrd @o_rng)) (And.intro @o_ent (And.intro @o_mpd @o_cpy))) (And.intro (And.intro @g_mov (And.intro @g_pick @g_bin)) (And.intro (And.intro @g_bnb @g_eqa) (And.intro @g_not @g_neg))))))) (And.intro (And.intro (And.intro (And.intro (And.intro (And.intro @g_len (And.intro @g_sln @g_mx)) (And.intro @g_mn (And.intro @g_idx @g_ssl))) (And.intro (And.intro @g_vsl (And.intro @g_ixa @g_fla)) (And.intro @g_fld (And.intro @g_ld @g_ldl)))) (And.intro (And.intro (And.intro @g_ext (And.intro @g_bld @g_cvi)) (And.intro @g_cvs (And.intro @g_b2s @g_bsl))) (And.intro (And.intro @g_nck (And.intro @g_nli @g_mkf)) (And.intro @g_cap0 (And.intro @g_vsn @g_mpl))))) (And.intro (And.intro (And.intro (And.intro @g_mpn (And.intro @g_bldg @g_ldg)) (And.intro @ops_call (And.intro @ops_dcall @ops_pcall))) (And.intro (And.intro @ops_fcl (And.intro @ops_pcallg @ops_callg)) (And.intro @ops_callv (And.intro @ops_callvg @FnK_some)))) (And.intro (And.intro (And.intro @ops_pcv (And.intro @ops_pvks @ops_fz)) (And.intro @ops_hole (And.intro @ops_isn @ops_nxt))) (And.intro (And.intro @FzK_some (And.intro @FzK_none @Zl13)) (And.intro (And.intro @Zl28 @Zl29) (And.intro @Zl30 @Zl31)))))) (And.intro (And.intro (And.intro (And.intro (And.intro @Zl32 (And.intro @Zl33 @Zl34)) (And.intro @Zl35 (And.intro @Zl36 @Zl37))) (And.intro (And.intro @Zl38 (And.intro @Zl39 @Zl40)) (And.intro @Zl41 (And.intro @Zl42 @Zl43)))) (And.intro (And.intro (And.intro @Zl44 (And.intro @Zl0 @Zl1)) (And.intro @Zl45 (And.intro @Zl46 @Zl3))) (And.intro (And.intro @Zl4 (And.intro @Zl5 @Zl6)) (And.intro (And.intro @Zl7 @Zl8) (And.intro @Zl9 @Zl10))))) (And.intro (And.intro (And.intro (And.intro @Zl11 (And.intro @Zl12 @Zl26)) (And.intro @Zl27 (And.intro @Zl14 @Zl15))) (And.intro (And.intro @Zl16 (And.intro @Zl17 @Zl18)) (And.intro @Zl2 (And.intro @Zl48 @Zl47)))) (And.intro (And.intro (And.intro @Zl19 (And.intro @Zl20 @bool_beq_true)) (And.intro @bool_beq_false (And.intro @map_kill_p @map_thaw_p))) (And.intro (And.intro @Zl21 (And.intro @Zl49 @Zl50)) (And.intro (And.intro @Zl22 @Zl23) (And.intro @Zl24 @Zl25)))))))) (And.intro (And.intro (And.intro (And.intro (And.intro (And.intro (And.intro (And.intro @FnG_some @IsnK_some) (And.intro @Za.eq_1 @Zb.eq_1)) (And.intro (And.intro @Zb.eq_2 @Zb.eq_3) (And.intro @Zc.eq_1 @Zc.eq_2))) (And.intro (And.intro (And.intro @Zd.eq_1 @Zd.eq_2) (And.intro @Zf.eq_1 @Zf.eq_2)) (And.intro (And.intro @Zf.eq_3 @Zf.eq_4) (And.intro @Zf.eq_5 @Zf.eq_6)))) (And.intro (And.intro (And.intro (And.intro @Zf.eq_7 @Zf.eq_8) (And.intro @Zf.eq_9 @Zf.eq_10)) (And.intro (And.intro @Zf.eq_11 @Zf.eq_12) (And.intro @Zf.eq_13 @Zf.eq_14))) (And.intro (And.intro (And.intro @Zf.eq_15 @Zf.eq_16) (And.intro @Zf.eq_17 @Zf.eq_18)) (And.intro (And.intro @Zf.eq_19 @Zf.eq_20) (And.intro @Zf.eq_21 @Zf.eq_22))))) (And.intro (And.intro (And.intro (And.intro (And.intro @Zf.eq_23 @Zf.eq_24) (And.intro @Zf.eq_25 @Zf.eq_26)) (And.intro (And.intro @Zf.eq_27 @Zf.eq_28) (And.intro @Zf.eq_29 @Zf.eq_30))) (And.intro (And.intro (And.intro @Zf.eq_31 @Zf.eq_32) (And.intro @Zf.eq_33 @Zf.eq_34)) (And.intro (And.intro @Zf.eq_35 @Zf.eq_36) (And.intro @Zg.eq_1 @Zg.eq_2)))) (And.intro (And.intro (And.intro (And.intro @Zh.eq_1 @Zi.eq_1) (And.intro @Zi.eq_2 @Zi.eq_3)) (And.intro (And.intro @rd.eq_1 @rd.eq_2) (And.intro @rd.eq_3 @rd.eq_4))) (And.intro (And.intro (And.intro @AV.un.eq_1 @AV.un.eq_2) (And.intro @AV.unA.eq_1 @AV.ad.eq_1)) (And.intro (And.intro @AV.ad.eq_2 @Zj.eq_1) (And.intro @Zk.eq_1 @Zk.eq_2)))))) (And.intro (And.intro (And.intro (And.intro (And.intro (And.intro @Zl.eq_1 @Zl.eq_2) (And.intro @Zl.eq_3 @Zm.eq_1)) (And.intro (And.intro @Zm.eq_2 @Zn.eq_1) (And.intro @Zo.eq_1 @Zo.eq_2))) (And.intro (And.intro (And.intro @Zo.eq_3 @Zo.eq_4) (And.intro @Zo.eq_5 @Zp.eq_1)) (And.intro (And.intro @Zp.eq_2 @Zp.eq_3) (And.intro @Zp.eq_4 @Zp.eq_5)))) (And.intro (And.intro (And.intro (And.intro @Zp.eq_6 @Zp.eq_7) (And.intro @Zp.eq_8 @Zp.eq_9)) (And.intro (And.intro @Zp.eq_10 @Zp.eq_11) (And.intro @Zp.eq_12 @Zp.eq_13))) (And.intro (And.intro (And.intro @Zp.eq_14 @Zq.eq_1) (And.intro @Zq.eq_2 @Zq.eq_3)) (And.intro (And.intro @Zr.eq_1 @Zr.eq_2) (And.intro @Zr.eq_3 @Zr.eq_4))))) (And.intro (And.intro (And.intro (And.intro (And.intro @Zr.eq_5 @Zr.eq_6) (And.intro @Zr.eq_7 @Zr.eq_8)) (And.intro (And.intro @Zs.eq_1 @Zs.eq_2) (And.intro @Zs.eq_3 @Zt.eq_1))) (And.intro (And.intro (And.intro @Zu.eq_1 @Zu.eq_2) (And.intro @Zu.eq_3 @Zu.eq_4)) (And.intro (And.intro @Zu.eq_5 @Zv.eq_1) (And.intro @Zv.eq_2 @Zw.eq_1)))) (And.intro (And.intro (And.intro (And.intro @Zw.eq_2 @Zw.eq_3) (And.intro @Zw.eq_4 @Zx.eq_1)) (And.intro (And.intro @Zx.eq_2 @Zx.eq_3) (And.intro @Zy.eq_1 @Zy.eq_2))) (And.intro (And.intro (And.intro @Zy.eq_3 @Zz.eq_1) (And.intro @Zz.eq_2 @Zaa.eq_1)) (And.intro (And.intro @Zab.eq_1 @Zab.eq_2) (And.intro @Zac.eq_1 (And.intro @Zac.eq_2 @Zad.eq_1)))))))) (And.intro (And.intro (And.intro (And.intro (And.intro (And.intro (And.intro @Zad.eq_2 @Zae.eq_1) (And.intro @Zae.eq_2 @Zaf.eq_1)) (And.intro (And.intro @Zaf.eq_2 @Zag.eq_1) (And.intro @Zag.eq_2 @Zag.eq_3))) (And.intro (And.intro (And.intro @Zag.eq_4 @Zag.eq_5) (And.intro @Zah.eq_1 @Zah.eq_2)) (And.intro (And.intro @Zah.eq_3 @Zai.eq_1) (And.intro @Zai.eq_2 @Zaj.eq_1)))) (And.intro (And.intro (And.intro (And.intro @Zaj.eq_2 @Zaj.eq_3) (And.intro @Zak.eq_1 @Zak.eq_2)) (And.intro (And.intro @Zak.eq_3 @Zal.eq_1) (And.intro @Zal.eq_2 @Zal.eq_3))) (And.intro (And.intro (And.intro @Zal.eq_4 @Zam.eq_1) (And.intro @Zan.eq_1 @Zao.eq_1)) (And.intro (And.intro @Zao.eq_2 @wk1.eq_1) (And.intro @wk1.eq_2 @wk.eq_1))))) (And.intro (And.intro (And.intro (And.intro (And.intro @wk.eq_2 @wk.eq_3) (And.intro @Zap.eq_1 @Zap.eq_2)) (And.intro (And.intro @Zap.eq_3 @Zaq.eq_1) (And.intro @Zar.eq_1 @Zas.eq_1))) (And.intro (And.intro (And.intro @Zas.eq_2 @Zat.eq_1) (And.intro @Zat.eq_2 @Zau.eq_1)) (And.intro (And.intro @Zau.eq_2 @Zav.eq_1) (And.intro @Zaw.eq_1 @Zaw.eq_2)))) (And.intro (And.intro (And.intro (And.intro @AV.kill.eq_1 @AV.kill.eq_2) (And.intro @AV.kill.eq_3 @AV.kill.eq_4)) (And.intro (And.intro @AV.kill.eq_5 @AV.kill.eq_6) (And.intro @AV.kill.eq_7 @AV.kill.eq_8))) (And.intro (And.intro (And.intro @AV.kill.eq_9 @AV.kill.eq_10) (And.intro @AO.kill.eq_1 @AO.kill.eq_2)) (And.intro (And.intro @AO.kill.eq_3 @AO.kill.eq_4) (And.intro @AO.kill.eq_5 @AO.kill.eq_6)))))) (And.intro (And.intro (And.intro (And.intro (And.intro (And.intro @AV.thaw.eq_1 @AV.thaw.eq_2) (And.intro @AV.thaw.eq_3 @AV.thaw.eq_4)) (And.intro (And.intro @AV.thaw.eq_5 @AV.thaw.eq_6) (And.intro @AV.thaw.eq_7 @AV.thaw.eq_8))) (And.intro (And.intro (And.intro @AV.thaw.eq_9 @AV.thaw.eq_10) (And.intro @Zax.eq_1 @Zax.eq_2)) (And.intro (And.intro @AO.thaw.eq_1 @AO.thaw.eq_2) (And.intro @AO.thaw.eq_3 @AO.thaw.eq_4)))) (And.intro (And.intro (And.intro (And.intro @AO.thaw.eq_5 @AO.thaw.eq_6) (And.intro @Zay.eq_1 @Zay.eq_2)) (And.intro (And.intro @Zay.eq_3 @Zay.eq_4) (And.intro @Zaz.eq_1 @Zaz.eq_2))) (And.intro (And.intro (And.intro @Zba.eq_1 @Zba.eq_2) (And.intro @Zbb.eq_1 @Zbb.eq_2)) (And.intro (And.intro @Zbc.eq_1 @Zbc.eq_2) (And.intro @Zbd.eq_1 @Zbd.eq_2))))) (And.intro (And.intro (And.intro (And.intro (And.intro @Zbe.eq_1 @Zbe.eq_2) (And.intro @Zbf.eq_1 @Zbf.eq_2)) (And.intro (And.intro @Zbf.eq_3 @Zbf.eq_4) (And.intro @Zbg.eq_1 @Zbg.eq_2))) (And.intro (And.intro (And.intro @Zbh.eq_1 @Zbh.eq_2) (And.intro @Zbi.eq_1 @Zbi.eq_2)) (And.intro (And.intro @Zbi.eq_3 @Zbi.eq_4) (And.intro @Zbi.eq_5 @Zbi.eq_6)))) (And.intro (And.intro (And.intro (And.intro @Zbj.eq_1 @Zbj.eq_2) (And.intro @Zbj.eq_3 @Zbj.eq_4)) (And.intro (And.intro @Zbj.eq_5 @Zbj.eq_6) (And.intro @Zbk.eq_1 @Zbk.eq_2))) (And.intro (And.intro (And.intro @Zbk.eq_3 @Zbk.eq_4) (And.intro @Zbk.eq_5 @Zbk.eq_6)) (And.intro (And.intro @Zbl.eq_1 @Zbl.eq_2) (And.intro @FclK_some (And.intro @argP0_nil @argP0_p)))))))))) (And.intro (And.intro @thaw_P.eq_1 @thaw_P.eq_2) (And.intro @caps_P.eq_1 (And.intro @caps_P.eq_2 @caps_P.eq_3)))
theorem zE_ {p:Prop} (h:p:=by simp only [ZZ,WW,Ze,reduceCtorEq,Nat.reduceAdd,Nat.reduceMul,Nat.reduceLeDiff,Nat.reduceLT,Nat.reduceEqDiff]):p:=h
theorem zF_ {p:Prop} (h:p:=by (simp only [ZZ,WW,Ze,reduceCtorEq,Nat.reduceAdd,Nat.reduceMul,Nat.reduceLeDiff,Nat.reduceLT,Nat.reduceEqDiff];try trivial)):p:=h
theorem zG_ {p:Prop} (h:p:=by (simp only [ZZ,WW,Ze,reduceCtorEq,Nat.reduceAdd,Nat.reduceMul,Nat.reduceLeDiff,Nat.reduceLT,Nat.reduceEqDiff];trivial)):p:=h
theorem sc_ {p:Prop} (h:p:=by first|first|assumption|trivial|exact (fun hq=>by rw [hq];rfl)|exact i64_of (by omega) (by omega)|omega|(simp;done)|(simp;omega)|(intro hsc;have hs0:=hsc;(try have hsd:=of_decide_eq_true hsc);(try simp only [Bool.not_eq_true',Bool.or_eq_false_iff,Bool.and_eq_true,Bool.or_eq_true,decide_eq_true_eq,decide_eq_false_iff_not] at hsc);(repeat' (with_reducible apply And.intro))<;>(first|assumption|trivial|exact (fun hq=>by rw [hq];rfl)|exact i64_of (by omega) (by omega)|omega|(simp;done)|(simp;omega)|(intro hse;simp [hse,hs0];done)|(intro hse;simp only [hse,hs0,Bool.true_and,Bool.and_true,Bool.not_false,Bool.not_true,Bool.and_self];done)))):p:=h
def ir_base_In:IC:=(.seq (.reg [qO 6 (.mov (.c (.bool false)))]) (.seq (.reg [qM 7 0,qM 8 1,qO 9 (.bin .geq (.t 7) (.t 8)),qM 10 9,⟨some 11,.mov (.t 0),(some (10,true))⟩,⟨some 12,.mov (.t 2),(some (10,true))⟩,⟨some 13,.bin .leq (.t 11) (.t 12),(some (10,true))⟩,qO 14 (.pick (.t 10) (.t 13) (.c (.bool false))),qM 6 14]) .ret))
def rs_base_In:List IRes:=[.t 6]
theorem ck_base_In:chkF Tryz.prog Tryz.f51 ir_base_In rs_base_In 15=true:=by kernel_rfl
def ir_base_When:IC:=(.seq (.reg [qO 4 (.mov (.c (.int .i64 0)))]) (.seq (.seq (.reg [qM 5 0]) (.cond (.t 5) (.seq (.reg [qM 6 1,qM 4 6]) .ret) .skip)) (.seq (.reg [qO 4 (.mov (.c (.int .i64 0)))]) .ret)))
def rs_base_When:List IRes:=[.t 4]
theorem ck_base_When:chkF Tryz.prog Tryz.f50 ir_base_When rs_base_When 7=true:=by kernel_rfl
def ir_base_First_L0:IC:=(.seq (.reg [qO 8 (.bin .lss (.t 7) (.t 6))]) (.seq (.cond (.t 8) .skip (.exit 0)) (.seq (.block 1 (.seq (.reg [qO 9 (.ixa 1 (.t 5) (.t 7)),qO 10 (.ld 1 false (.t 9)),qM 4 10]) (.seq (.reg [qM 11 4,qO 12 (.bin .neq (.t 11) (.c (.int .i64 0)))]) (.cond (.t 12) (.seq (.reg [qM 13 4,qM 2 13]) .ret) .skip)))) (.reg [qO 14 (.bin .add (.t 7) (.c (.int .i64 1))),qM 7 14]))))
def ir_base_First:IC:=(.seq (.reg [qO 2 (.mov (.c (.int .i64 0)))]) (.seq (.seq (.reg [qM 5 0,qO 6 (.len (.t 5)),qO 7 (.mov (.c (.int .i64 0)))]) (.block 0 (.loop ir_base_First_L0))) (.seq (.reg [qO 2 (.mov (.c (.int .i64 0)))]) .ret)))
def rs_base_First:List IRes:=[.t 2]
theorem ck_base_First:chkF Tryz.prog Tryz.f49 ir_base_First rs_base_First 15=true:=by kernel_rfl
def ir_chasemake_Below:IC:=(.seq (.reg [qO 4 (.mov (.c (.int .i64 0)))]) (.seq (.seq (.reg [qM 5 1,qO 6 (.bin .lss (.t 5) (.c (.int .i64 1)))]) (.cond (.t 6) (.seq (.reg [qO 4 (.mov (.c (.int .i64 0)))]) .ret) .skip)) (.seq (.reg [qM 7 0,qM 8 1,qO 9 (.bin .rem (.t 7) (.t 8)),qM 0 9]) (.seq (.seq (.reg [qM 10 0,qO 11 (.bin .lss (.t 10) (.c (.int .i64 0)))]) (.cond (.t 11) (.reg [qM 12 0,qM 13 1,qO 14 (.bin .add (.t 12) (.t 13)),qM 0 14]) .skip)) (.cut (.seq (.reg [qM 15 0,qM 4 15]) .ret))))))
def rs_chasemake_Below:List IRes:=[.t 4]
theorem ck_chasemake_Below:chkF Tryz.prog Tryz.f45 ir_chasemake_Below rs_chasemake_Below 16=true:=by kernel_rfl
def ir_chasemake_Stream_Next:IC:=(.seq (.reg [qO 4 (.mov (.c (.int .i64 0)))]) (.seq (.reg [qM 7 0,qO 8 (.nck (.t 7)),qO 9 (.fla 1 (.t 8)),qO 10 (.ld 1 false (.t 9)),qO 11 (.bin .add (.t 10) (.c (.int .i64 1))),qO 12 (.nck (.t 7)),qO 13 (.fla 1 (.t 12)),⟨none,.st 1 (.t 13) (.t 11),none⟩]) (.seq (.seq (.reg [qM 14 0,qO 15 (.nck (.t 14)),qO 16 (.fla 0 (.t 15)),qO 17 (.ld 1 false (.t 16)),qO 18 (.len (.t 17)),qO 19 (.bin .eql (.t 18) (.c (.int .i64 0)))]) (.cond (.t 19) (.seq (.reg [qM 20 0,qO 21 (.nck (.t 20)),qO 22 (.fla 1 (.t 21)),qO 23 (.ld 1 false (.t 22)),qO 24 (.bin .mul (.t 23) (.c (.int .i64 7919))),qM 25 1,qO 26 (.call 45 [.t 24,.t 25]),qM 4 26]) .ret) .skip)) (.seq (.drg [qM 27 0,qO 28 (.nck (.t 27)),qO 29 (.fla 1 (.t 28)),qO 30 (.ld 1 false (.t 29)),qO 31 (.bin .sub (.t 30) (.c (.int .i64 1))),qM 32 0,qO 33 (.nck (.t 32)),qO 34 (.fla 0 (.t 33)),qO 35 (.ld 1 false (.t 34)),qO 36 (.len (.t 35)),qO 37 (.bin .rem (.t 31) (.t 36)),qM 5 37]) (.seq (.drg [qM 38 0,qO 39 (.nck (.t 38)),qO 40 (.fla 1 (.t 39)),qO 41 (.ld 1 false (.t 40)),qO 42 (.bin .sub (.t 41) (.c (.int .i64 1))),qM 43 0,qO 44 (.nck (.t 43)),qO 45 (.fla 0 (.t 44)),qO 46 (.ld 1 false (.t 45)),qO 47 (.len (.t 46)),qO 48 (.bin .quo (.t 42) (.t 47)),qM 6 48]) (.seq (.reg [qM 49 0,qO 50 (.nck (.t 49)),qO 51 (.fla 0 (.t 50)),qO 52 (.ld 1 false (.t 51)),qM 53 5,qO 54 (.ixa 1 (.t 52) (.t 53)),qO 55 (.ld 1 false (.t 54)),qO 56 (.call 45 [.t 55,.c (.int .i64 1073741824)]),qM 57 6,qM 58 5,qO 59 (.bin .add (.c (.int .i64 7919)) (.t 58)),qO 60 (.bin .mul (.t 57) (.t 59)),qO 61 (.bin .add (.t 56) (.t 60)),qM 62 1,qO 63 (.call 45 [.t 61,.t 62]),qM 4 63]) .ret))))))
def rs_chasemake_Stream_Next:List IRes:=[.t 4]
theorem ck_chasemake_Stream_Next:chkF Tryz.prog Tryz.f10 ir_chasemake_Stream_Next rs_chasemake_Stream_Next 64=true:=by kernel_rfl
def ir_chasemake_Stream_Flip:IC:=(.seq (.reg [qO 4 (.mov (.c (.bool false)))]) (.seq (.reg [qM 5 0,qM 6 1,qO 7 (.call 10 [.t 5,.t 6]),qO 8 (.bin .eql (.t 7) (.c (.int .i64 0))),qM 4 8]) .ret))
def rs_chasemake_Stream_Flip:List IRes:=[.t 4]
theorem ck_chasemake_Stream_Flip:chkF Tryz.prog Tryz.f9 ir_chasemake_Stream_Flip rs_chasemake_Stream_Flip 9=true:=by kernel_rfl
def ir_chasemake_Stream_Range:IC:=(.seq (.reg [qO 6 (.mov (.c (.int .i64 0)))]) (.seq (.seq (.reg [qM 7 2,qM 8 1,qO 9 (.bin .lss (.t 7) (.t 8))]) (.cond (.t 9) (.seq (.reg [qM 10 1,qM 6 10]) .ret) .skip)) (.seq (.reg [qM 11 1,qM 12 0,qM 13 2,qM 14 1,qO 15 (.bin .sub (.t 13) (.t 14)),qO 16 (.bin .add (.t 15) (.c (.int .i64 1))),qO 17 (.call 10 [.t 12,.t 16]),qO 18 (.bin .add (.t 11) (.t 17)),qM 6 18]) .ret)))
def rs_chasemake_Stream_Range:List IRes:=[.t 6]
theorem ck_chasemake_Stream_Range:chkF Tryz.prog Tryz.f19 ir_chasemake_Stream_Range rs_chasemake_Stream_Range 19=true:=by kernel_rfl
def ir_chasemake_Stream_Pick:IC:=(.seq (.reg [qO 4 (.mov (.c (.int .i64 0)))]) (.seq (.reg [qM 5 1,qM 6 0,qM 7 1,qO 8 (.len (.t 7)),qO 9 (.call 10 [.t 6,.t 8]),qO 10 (.ixa 1 (.t 5) (.t 9)),qO 11 (.ld 1 false (.t 10)),qM 4 11]) .ret))
def rs_chasemake_Stream_Pick:List IRes:=[.t 4]
theorem ck_chasemake_Stream_Pick:chkF Tryz.prog Tryz.f43 ir_chasemake_Stream_Pick rs_chasemake_Stream_Pick 12=true:=by kernel_rfl
def ir_chasemake_Stream_h06one:IC:=(.seq (.reg [qO 4 (.mov (.c (.str [])))]) (.seq (.reg [qM 5 1,qM 6 0,qM 7 1,qO 8 (.len (.t 7)),qO 9 (.call 10 [.t 6,.t 8]),qO 10 (.ixa 1 (.t 5) (.t 9)),qO 11 (.ld 1 false (.t 10)),qM 4 11]) .ret))
def rs_chasemake_Stream_h06one:List IRes:=[.t 4]
theorem ck_chasemake_Stream_h06one:chkF Tryz.prog Tryz.f42 ir_chasemake_Stream_h06one rs_chasemake_Stream_h06one 12=true:=by kernel_rfl
section
variable {E:Envt}
def inE (n lo hi:Int):Bool:=decide (lo≤n) && decide (n≤hi)
theorem In_ok (n lo hi:Int):PCall Tryz.prog E 51 [int n,int lo,int hi] (·=.bool (inE n lo hi)):=by
 refine pcallF mixed Tryz.func51 ck_base_In ?_
 simp only [a0,l0,OS.ao,List.map_cons,List.map_nil,List.length_cons,List.length_nil,List.cons_append,List.nil_append,Nat.reduceSub,Nat.reduceAdd,List.replicate_succ,List.replicate_zero,ir_base_In,rs_base_In,ZZ,WW,Ze,reduceCtorEq,Nat.reduceAdd,Nat.reduceMul,Nat.reduceLeDiff,Nat.reduceLT,Nat.reduceEqDiff]
 rfl
def whenE (b:Bool) (e:Int):Int:=if b=true then e else 0
theorem When_ok (b:Bool) (e:Int):PCall Tryz.prog E 50 [.bool b,int e] (·=int (whenE b e)):=by
 refine pcallF mixed Tryz.func50 ck_base_When ?_
 simp only [a0,l0,OS.ao,List.map_cons,List.map_nil,List.length_cons,List.length_nil,List.cons_append,List.nil_append,Nat.reduceSub,Nat.reduceAdd,List.replicate_succ,List.replicate_zero,ir_base_When,rs_base_When,ZZ,WW,Ze,reduceCtorEq,Nat.reduceAdd,Nat.reduceMul,Nat.reduceLeDiff,Nat.reduceLT,Nat.reduceEqDiff]
 refine br ?_ ?_
 all_goals
  rintro rfl
  simp only [ZZ,WW,Ze,reduceCtorEq,Nat.reduceAdd,Nat.reduceMul,Nat.reduceLeDiff,Nat.reduceLT,Nat.reduceEqDiff]
  rfl
def firstE:List Int→Int
 |[]=>0
 |e :: r=>if e=0 then firstE r else e
theorem firstE_drop (l:List Int) (k:Nat) (x:Int) (h:l[k]?=some x):firstE (l.drop k)=if x=0 then firstE (l.drop (k+1)) else x:=by
 have hk:=(List.getElem?_eq_some_iff.1 h).1
 rw [List.drop_eq_getElem_cons hk,(List.getElem?_eq_some_iff.1 h).2]
 rfl
theorem First_ok (l:List Int) (hl:l.length≤1000000):PCall Tryz.prog E 49 [ints l] (·=int (firstE l)):=by
 refine pcallF mixed Tryz.func49 ck_base_First ?_
 simp only [a0,l0,OS.ao,List.map_cons,List.map_nil,List.length_cons,List.length_nil,List.cons_append,List.nil_append,Nat.reduceSub,Nat.reduceAdd,List.replicate_succ,List.replicate_zero,ir_base_First,rs_base_First,ZZ,WW,Ze,reduceCtorEq,Nat.reduceAdd,Nat.reduceMul,Nat.reduceLeDiff,Nat.reduceLT,Nat.reduceEqDiff]
 simp only [ints,ZZ,WW,Ze,reduceCtorEq,Nat.reduceAdd,Nat.reduceMul,Nat.reduceLeDiff,Nat.reduceLT,Nat.reduceEqDiff]
 generalize hes:l.map (fun x=>[PV.int IntKind.i64 x])=es
 have hln:es.length=l.length:=by rw [← hes];simp
 refine loop_intro (fun n fr L=>∃ k:Nat,k≤l.length∧n=l.length - k∧firstE l=firstE (l.drop k)∧fr=[.p (.sl 1 es),oo,oo,oo,oo,.p (.sl 1 es),.p (int (es.length:Nat)),.p (int (k:Nat)),oo,oo,oo,oo,oo,oo,oo]∧L=[]) l.length [.p (.sl 1 es),oo,oo,oo,oo,.p (.sl 1 es),.p (int (es.length:Nat)),.p (int (0:Nat)),oo,oo,oo,oo,oo,oo,oo] [] ?_ ?_ ⟨0,by omega,by omega,rfl,rfl,rfl⟩ ?_
 ·(simp only [ZZ,WW,Ze,reduceCtorEq,Nat.reduceAdd,Nat.reduceMul,Nat.reduceLeDiff,Nat.reduceLT,Nat.reduceEqDiff];try trivial)
 ·simp only [ZZ,WW,Ze,reduceCtorEq,Nat.reduceAdd,Nat.reduceMul,Nat.reduceLeDiff,Nat.reduceLT,Nat.reduceEqDiff]
 rintro n fr L ⟨k,hk,rfl,hf,rfl,rfl⟩
 simp only [ir_base_First_L0,ZZ,WW,Ze,reduceCtorEq,Nat.reduceAdd,Nat.reduceMul,Nat.reduceLeDiff,Nat.reduceLT,Nat.reduceEqDiff]
 refine br ?_ ?_
 ·intro h
  have hlt:k < l.length:=by have:=of_decide_eq_true h;omega
  obtain ⟨x,hx⟩:∃ x,l[k]?=some x:=⟨_,List.getElem?_eq_getElem hlt⟩
  have hg:es.getD k []=[PV.int .i64 x]:=by rw [← hes];exact getD_map hx
  have hd:=firstE_drop l k x hx
  simp only [ZZ,WW,Ze,reduceCtorEq,Nat.reduceAdd,Nat.reduceMul,Nat.reduceLeDiff,Nat.reduceLT,Nat.reduceEqDiff,hg]
  refine ⟨by omega,by omega,?_⟩
  refine br ?_ ?_
  ·intro h2
   simp only [ZZ,WW,Ze,reduceCtorEq,Nat.reduceAdd,Nat.reduceMul,Nat.reduceLeDiff,Nat.reduceLT,Nat.reduceEqDiff]
   rw [hf,hd,if_neg (by simpa using h2)]
  ·intro h2
   simp only [ZZ,WW,Ze,reduceCtorEq,Nat.reduceAdd,Nat.reduceMul,Nat.reduceLeDiff,Nat.reduceLT,Nat.reduceEqDiff]
   refine ⟨i64_of (by omega) (by omega),?_⟩
   refine end_round (l.length - (k+1)) [.p (.sl 1 es),oo,oo,oo,oo,.p (.sl 1 es),.p (int (es.length:Nat)),.p (int ((k+1:Nat))),oo,oo,oo,oo,oo,oo,oo] [] (by omega) ?_ ?_ ⟨k+1,by omega,rfl,by rw [hf,hd,if_pos (by simpa using h2)],rfl,rfl⟩
   ·(simp only [ZZ,WW,Ze,reduceCtorEq,Nat.reduceAdd,Nat.reduceMul,Nat.reduceLeDiff,Nat.reduceLT,Nat.reduceEqDiff];try trivial)
   ·simp only [ZZ,WW,Ze,reduceCtorEq,Nat.reduceAdd,Nat.reduceMul,Nat.reduceLeDiff,Nat.reduceLT,Nat.reduceEqDiff]
 ·intro h
  have hge:l.length≤k:=by have:=of_decide_eq_false h;omega
  simp only [ZZ,WW,Ze,reduceCtorEq,Nat.reduceAdd,Nat.reduceMul,Nat.reduceLeDiff,Nat.reduceLT,Nat.reduceEqDiff]
  rw [hf,List.drop_eq_nil_of_le hge]
  rfl
def below (x n:Int):Int:=if n < 1 then 0 else x % n
theorem below_lo (x n:Int):0≤below x n:=by
 unfold below
 split
 ·omega
 ·exact Int.emod_nonneg x (by omega)
theorem below_hi (x n:Int) (h:1≤n):below x n < n:=by
 unfold below
 rw [if_neg (by omega)]
 exact Int.emod_lt_of_pos x (by omega)
theorem tmod_cases (x n:Int) (hn:1≤n):x % n=if x.tmod n < 0 then x.tmod n+n else x.tmod n:=by
 have h2:=Int.emod_nonneg x (show n≠0 by omega)
 have h3:=Int.emod_lt_of_pos x (show 0 < n by omega)
 rw [Int.tmod_eq_emod]
 split<;>split at *<;>omega
theorem tmod_bd (x n:Int) (hn:1≤n):-n < x.tmod n∧x.tmod n < n:=by
 have h2:=Int.emod_nonneg x (show n≠0 by omega)
 have h3:=Int.emod_lt_of_pos x (show 0 < n by omega)
 rw [Int.tmod_eq_emod]
 split<;>omega
theorem Below_ok (x n:Int) (h2:n≤9223372036854775807):PCall Tryz.prog E 45 [int x,int n] (·=int (below x n)):=by
 refine pcallF mixed Tryz.func45 ck_chasemake_Below ?_
 simp only [a0,l0,OS.ao,List.map_cons,List.map_nil,List.length_cons,List.length_nil,List.cons_append,List.nil_append,Nat.reduceSub,Nat.reduceAdd,List.replicate_succ,List.replicate_zero,ir_chasemake_Below,rs_chasemake_Below,ZZ,WW,Ze,reduceCtorEq,Nat.reduceAdd,Nat.reduceMul,Nat.reduceLeDiff,Nat.reduceLT,Nat.reduceEqDiff]
 refine br ?_ ?_
 ·intro h
  simp only [ZZ,WW,Ze,reduceCtorEq,Nat.reduceAdd,Nat.reduceMul,Nat.reduceLeDiff,Nat.reduceLT,Nat.reduceEqDiff]
  have:n < 1:=of_decide_eq_true h
  simp [below,this]
 ·intro h
  have hn:¬ n < 1:=of_decide_eq_false h
  have hb:=tmod_bd x n (by omega)
  have hc:=tmod_cases x n (by omega)
  simp only [ZZ,WW,Ze,reduceCtorEq,Nat.reduceAdd,Nat.reduceMul,Nat.reduceLeDiff,Nat.reduceLT,Nat.reduceEqDiff]
  refine ⟨by omega,?_⟩
  refine br_join (fun fr L=>∃ y,y=x % n∧fr=[.p (int y),oo,oo,oo,oo,oo,oo,oo,oo,oo,oo,oo,oo,oo,oo,oo]∧L=[]) ?_ ?_ ?_
  ·intro h1
   have h1:=of_decide_eq_true h1
   simp only [ZZ,WW,Ze,reduceCtorEq,Nat.reduceAdd,Nat.reduceMul,Nat.reduceLeDiff,Nat.reduceLT,Nat.reduceEqDiff]
   refine ⟨i64_of (by omega) (by omega),to_mid [.p (int (x.tmod n+n)),oo,oo,oo,oo,oo,oo,oo,oo,oo,oo,oo,oo,oo,oo,oo] [] ?_ ?_ ⟨_,by rw [hc,if_pos h1],rfl,rfl⟩⟩
   ·(simp only [ZZ,WW,Ze,reduceCtorEq,Nat.reduceAdd,Nat.reduceMul,Nat.reduceLeDiff,Nat.reduceLT,Nat.reduceEqDiff];try trivial)
   ·simp only [ZZ,WW,Ze,reduceCtorEq,Nat.reduceAdd,Nat.reduceMul,Nat.reduceLeDiff,Nat.reduceLT,Nat.reduceEqDiff]
  ·intro h1
   have h1:=of_decide_eq_false h1
   simp only [ZZ,WW,Ze,reduceCtorEq,Nat.reduceAdd,Nat.reduceMul,Nat.reduceLeDiff,Nat.reduceLT,Nat.reduceEqDiff]
   refine to_mid [.p (int (x.tmod n)),oo,oo,oo,oo,oo,oo,oo,oo,oo,oo,oo,oo,oo,oo,oo] [] ?_ ?_ ⟨_,by rw [hc,if_neg h1],rfl,rfl⟩
   ·(simp only [ZZ,WW,Ze,reduceCtorEq,Nat.reduceAdd,Nat.reduceMul,Nat.reduceLeDiff,Nat.reduceLT,Nat.reduceEqDiff];try trivial)
   ·simp only [ZZ,WW,Ze,reduceCtorEq,Nat.reduceAdd,Nat.reduceMul,Nat.reduceLeDiff,Nat.reduceLT,Nat.reduceEqDiff]
  ·rintro fr L ⟨y,rfl,rfl,rfl⟩
   simp only [ZZ,WW,Ze,reduceCtorEq,Nat.reduceAdd,Nat.reduceMul,Nat.reduceLeDiff,Nat.reduceLT,Nat.reduceEqDiff]
   simp [below,hn]
def stm (l:List Int) (k:Nat):List PV:=[ints l,int k]
abbrev T:TypeId:=25
theorem Next_ok (l:List Int) (k:Nat) (n:Int) (hk:k≤1000000) (hl:l.length≤9223372036854775807) (h2:n≤9223372036854775807) :
  SCall Tryz.prog E 10 T (stm l k) [int n] (fun x cs'=>∃ y,x=int (below y n)∧cs'=stm l (k+1)):=by
 unfold SCall
 refine gcallP mixed Tryz.func10 ck_chasemake_Stream_Next ?_
 simp only [a0,l0,OS.ao,List.map_cons,List.map_nil,List.length_cons,List.length_nil,List.cons_append,List.nil_append,Nat.reduceSub,Nat.reduceAdd,List.replicate_succ,List.replicate_zero,stm,ir_chasemake_Stream_Next,rs_chasemake_Stream_Next,ZZ,WW,Ze,reduceCtorEq,Nat.reduceAdd,Nat.reduceMul,Nat.reduceLeDiff,Nat.reduceLT,Nat.reduceEqDiff]
 refine ⟨i64_of (by omega) (by omega),?_⟩
 simp only [ints,ZZ,WW,Ze,reduceCtorEq,Nat.reduceAdd,Nat.reduceMul,Nat.reduceLeDiff,Nat.reduceLT,Nat.reduceEqDiff]
 generalize hes:l.map (fun x=>[PV.int IntKind.i64 x])=es
 have hln:es.length=l.length:=by rw [← hes];simp
 have hc:[PV.sl 1 es,int ((k:Int)+1)]=[PV.sl 1 es,int ((k+1:Nat):Int)]:=by simp
 refine br ?_ ?_
 ·intro h
  simp only [ZZ,WW,Ze,reduceCtorEq,Nat.reduceAdd,Nat.reduceMul,Nat.reduceLeDiff,Nat.reduceLT,Nat.reduceEqDiff]
  refine ⟨i64_of (by omega) (by omega),?_⟩
  refine use1 (Below_ok _ _ h2) rfl (.inl rfl) ?_
  simp only [ZZ,WW,Ze,reduceCtorEq,Nat.reduceAdd,Nat.reduceMul,Nat.reduceLeDiff,Nat.reduceLT,Nat.reduceEqDiff]
  exact fin_S [PV.sl 1 es,int ((k:Int)+1)] rfl ⟨_,rfl,hc⟩
 ·intro h
  have hne:¬ ((es.length:Int)=0):=of_decide_eq_false h
  simp only [ZZ,WW,Ze,reduceCtorEq,Nat.reduceAdd,Nat.reduceMul,Nat.reduceLeDiff,Nat.reduceLT,Nat.reduceEqDiff]
  refine drg0 ?_
  simp only [ZZ,WW,Ze,reduceCtorEq,Nat.reduceAdd,Nat.reduceMul,Nat.reduceLeDiff,Nat.reduceLT,Nat.reduceEqDiff]
  refine ⟨i64_of (by omega) (by omega),⟨by omega,?_⟩⟩
  refine drg0 ?_
  have hkk:(k:Int)+1 - 1=k:=by omega
  have hrem:(k:Int).tmod (es.length:Int)=((k % es.length:Nat):Int):=by rw [Int.tmod_eq_emod_of_nonneg (by omega)];rfl
  have hquo:(k:Int).tdiv (es.length:Int)=((k / es.length:Nat):Int):=by rw [Int.tdiv_eq_ediv_of_nonneg (by omega)];rfl
  have hq1:k / es.length≤k:=Nat.div_le_self _ _
  have hr1:k % es.length≤k:=Nat.mod_le _ _
  have hr2:k % es.length < es.length:=Nat.mod_lt _ (by omega)
  obtain ⟨x,hx⟩:∃ x,l[k % es.length]?=some x:=⟨_,List.getElem?_eq_getElem (by omega)⟩
  have hg:es.getD (k % es.length) []=[PV.int .i64 x]:=by rw [← hes];exact getD_map (by rw [hes];exact hx)
  simp only [ZZ,WW,Ze,reduceCtorEq,Nat.reduceAdd,Nat.reduceMul,Nat.reduceLeDiff,Nat.reduceLT,Nat.reduceEqDiff,hkk,hrem,hquo,hg]
  generalize k / es.length=q at *
  generalize k % es.length=r at *
  refine ⟨i64_of (by omega) (by omega),⟨hne,i64_of (by omega) (by omega)⟩,⟨by omega,by omega⟩,by omega,?_⟩
  refine use1 (Below_ok _ _ (by decide)) rfl (.inl rfl) ?_
  have hb1:=below_lo x 1073741824
  have hb2:=below_hi x 1073741824 (by omega)
  have hm:(q:Int) * (7919+(r:Int))≤1000000 * 1007919:=Int.mul_le_mul (by omega) (by omega) (by omega) (by omega)
  have hm0:0≤(q:Int) * (7919+(r:Int)):=Int.mul_nonneg (by omega) (by omega)
  simp only [ZZ,WW,Ze,reduceCtorEq,Nat.reduceAdd,Nat.reduceMul,Nat.reduceLeDiff,Nat.reduceLT,Nat.reduceEqDiff]
  refine ⟨i64_of (by omega) (by omega),i64_of (by omega) (by omega),i64_of (by omega) (by omega),?_⟩
  refine use1 (Below_ok _ _ h2) rfl (.inl rfl) ?_
  simp only [ZZ,WW,Ze,reduceCtorEq,Nat.reduceAdd,Nat.reduceMul,Nat.reduceLeDiff,Nat.reduceLT,Nat.reduceEqDiff]
  exact fin_S [PV.sl 1 es,int ((k:Int)+1)] rfl ⟨_,rfl,hc⟩
theorem below_idx (x:Int) (n:Nat) (hn:0 < n):∃ i:Nat,i < n∧below x n=i:=by
 have h0:=below_lo x n
 have h1:=below_hi x n (by omega)
 exact ⟨(below x n).toNat,by omega,by omega⟩
theorem Flip_ok (l:List Int) (k:Nat) (n:Int) (hk:k≤1000000) (hl:l.length≤9223372036854775807) (h2:n≤9223372036854775807) :
  SCall Tryz.prog E 9 T (stm l k) [int n] (fun x cs'=>∃ b,x=.bool b∧cs'=stm l (k+1)):=by
 unfold SCall
 refine gcallP mixed Tryz.func9 ck_chasemake_Stream_Flip ?_
 simp only [a0,l0,OS.ao,List.map_cons,List.map_nil,List.length_cons,List.length_nil,List.cons_append,List.nil_append,Nat.reduceSub,Nat.reduceAdd,List.replicate_succ,List.replicate_zero,ir_chasemake_Stream_Flip,rs_chasemake_Stream_Flip,ZZ,WW,Ze,reduceCtorEq,Nat.reduceAdd,Nat.reduceMul,Nat.reduceLeDiff,Nat.reduceLT,Nat.reduceEqDiff]
 refine useS (Next_ok l k n hk hl h2) rfl rfl rfl zE_ ?_
 rintro x cs' ⟨y,rfl,rfl⟩
 simp only [ZZ,WW,Ze,reduceCtorEq,Nat.reduceAdd,Nat.reduceMul,Nat.reduceLeDiff,Nat.reduceLT,Nat.reduceEqDiff]
 exact fin_S (stm l (k+1)) rfl ⟨_,rfl,rfl⟩
theorem Range_ok (l:List Int) (k:Nat) (lo hi:Int) (hk:k≤1000000) (hl:l.length≤9223372036854775807) (h1:-1000000000≤lo) (h2:lo≤hi) (h3:hi≤1000000000) :
  SCall Tryz.prog E 19 T (stm l k) [int lo,int hi] (fun x cs'=>∃ y,x=int y∧lo≤y∧y≤hi∧cs'=stm l (k+1)):=by
 unfold SCall
 refine gcallP mixed Tryz.func19 ck_chasemake_Stream_Range ?_
 simp only [a0,l0,OS.ao,List.map_cons,List.map_nil,List.length_cons,List.length_nil,List.cons_append,List.nil_append,Nat.reduceSub,Nat.reduceAdd,List.replicate_succ,List.replicate_zero,ir_chasemake_Stream_Range,rs_chasemake_Stream_Range,ZZ,WW,Ze,reduceCtorEq,Nat.reduceAdd,Nat.reduceMul,Nat.reduceLeDiff,Nat.reduceLT,Nat.reduceEqDiff]
 refine br (fun h=>absurd (of_decide_eq_true h) (by omega)) ?_
 intro _
 simp only [ZZ,WW,Ze,reduceCtorEq,Nat.reduceAdd,Nat.reduceMul,Nat.reduceLeDiff,Nat.reduceLT,Nat.reduceEqDiff]
 refine ⟨i64_of (by omega) (by omega),i64_of (by omega) (by omega),?_⟩
 refine useS (Next_ok l k _ hk hl (by omega)) rfl rfl rfl zE_ ?_
 rintro x cs' ⟨y,rfl,rfl⟩
 have b1:=below_lo y (hi - lo+1)
 have b2:=below_hi y (hi - lo+1) (by omega)
 simp only [ZZ,WW,Ze,reduceCtorEq,Nat.reduceAdd,Nat.reduceMul,Nat.reduceLeDiff,Nat.reduceLT,Nat.reduceEqDiff]
 exact ⟨i64_of (by omega) (by omega),fin_S (stm l (k+1)) rfl ⟨_,rfl,by omega,by omega,rfl⟩⟩
theorem Pick_ok (l:List Int) (k:Nat) (c:List Int) (hk:k≤1000000) (hl:l.length≤9223372036854775807) (h0:0 < c.length) (h1:c.length≤1000000) :
  SCall Tryz.prog E 43 T (stm l k) [ints c] (fun x cs'=>∃ y,x=int y∧y∈c∧cs'=stm l (k+1)):=by
 unfold SCall
 refine gcallP mixed Tryz.func43 ck_chasemake_Stream_Pick ?_
 simp only [a0,l0,OS.ao,List.map_cons,List.map_nil,List.length_cons,List.length_nil,List.cons_append,List.nil_append,Nat.reduceSub,Nat.reduceAdd,List.replicate_succ,List.replicate_zero,ir_chasemake_Stream_Pick,rs_chasemake_Stream_Pick,ZZ,WW,Ze,reduceCtorEq,Nat.reduceAdd,Nat.reduceMul,Nat.reduceLeDiff,Nat.reduceLT,Nat.reduceEqDiff]
 simp only [ints,ZZ,WW,Ze,reduceCtorEq,Nat.reduceAdd,Nat.reduceMul,Nat.reduceLeDiff,Nat.reduceLT,Nat.reduceEqDiff]
 generalize hes:c.map (fun x=>[PV.int IntKind.i64 x])=es
 have hln:es.length=c.length:=by rw [← hes];simp
 refine useS (Next_ok l k _ hk hl (by omega)) rfl rfl rfl zE_ ?_
 rintro x cs' ⟨y,rfl,rfl⟩
 obtain ⟨i,hi,hy⟩:=below_idx y es.length (by omega)
 rw [hy]
 obtain ⟨z,hz⟩:∃ z,c[i]?=some z:=⟨_,List.getElem?_eq_getElem (by omega)⟩
 have hg:es.getD i []=[PV.int .i64 z]:=by rw [← hes];exact getD_map hz
 simp only [ZZ,WW,Ze,reduceCtorEq,Nat.reduceAdd,Nat.reduceMul,Nat.reduceLeDiff,Nat.reduceLT,Nat.reduceEqDiff,hg]
 exact ⟨⟨by omega,by omega⟩,by omega,fin_S (stm l (k+1)) rfl ⟨_,rfl,List.mem_of_getElem? hz,rfl⟩⟩
theorem one_ok (l:List Int) (k:Nat) (c:List (List UInt8)) (hk:k≤1000000) (hl:l.length≤9223372036854775807) (h0:0 < c.length) (h1:c.length≤1000000) :
  SCall Tryz.prog E 42 T (stm l k) [strs c] (fun x cs'=>∃ y,x=.str y∧y∈c∧cs'=stm l (k+1)):=by
 unfold SCall
 refine gcallP mixed Tryz.func42 ck_chasemake_Stream_h06one ?_
 simp only [a0,l0,OS.ao,List.map_cons,List.map_nil,List.length_cons,List.length_nil,List.cons_append,List.nil_append,Nat.reduceSub,Nat.reduceAdd,List.replicate_succ,List.replicate_zero,ir_chasemake_Stream_h06one,rs_chasemake_Stream_h06one,ZZ,WW,Ze,reduceCtorEq,Nat.reduceAdd,Nat.reduceMul,Nat.reduceLeDiff,Nat.reduceLT,Nat.reduceEqDiff]
 simp only [strs,ZZ,WW,Ze,reduceCtorEq,Nat.reduceAdd,Nat.reduceMul,Nat.reduceLeDiff,Nat.reduceLT,Nat.reduceEqDiff]
 generalize hes:c.map (fun x=>[PV.str x])=es
 have hln:es.length=c.length:=by rw [← hes];simp
 refine useS (Next_ok l k _ hk hl (by omega)) rfl rfl rfl zE_ ?_
 rintro x cs' ⟨y,rfl,rfl⟩
 obtain ⟨i,hi,hy⟩:=below_idx y es.length (by omega)
 rw [hy]
 obtain ⟨z,hz⟩:∃ z,c[i]?=some z:=⟨_,List.getElem?_eq_getElem (by omega)⟩
 have hg:es.getD i []=[PV.str z]:=by rw [← hes];exact getD_map hz
 simp only [ZZ,WW,Ze,reduceCtorEq,Nat.reduceAdd,Nat.reduceMul,Nat.reduceLeDiff,Nat.reduceLT,Nat.reduceEqDiff,hg]
 exact ⟨⟨by omega,by omega⟩,by omega,fin_S (stm l (k+1)) rfl ⟨_,rfl,List.mem_of_getElem? hz,rfl⟩⟩
end
def ir_privilege_CheckSpans_L0:IC:=(.seq (.reg [qO 25 (.bin .lss (.t 24) (.t 23))]) (.seq (.cond (.t 25) .skip (.exit 0)) (.seq (.block 1 (.seq (.reg [qM 26 24,qO 27 (.ixa 2 (.t 22) (.t 24)),qO 28 (.ld 2 true (.t 27)),qO 7 (.alc 108 [.int .i64 0,.int .i64 0]),qM 6 26,⟨none,.st 2 (.t 7) (.t 28),none⟩]) (.seq (.drg [qO 29 (.fla 0 (.t 7)),qO 30 (.ld 1 false (.t 29)),qO 31 (.bin .lss (.t 30) (.c (.int .i64 0))),qM 32 31,⟨some 33,.fla 0 (.t 7),(some (32,false))⟩,⟨some 34,.ld 1 false (.t 33),(some (32,false))⟩,⟨some 35,.fla 1 (.t 7),(some (32,false))⟩,⟨some 36,.ld 1 false (.t 35),(some (32,false))⟩,⟨some 37,.bin .geq (.t 34) (.t 36),(some (32,false))⟩,qO 38 (.pick (.t 32) (.c (.bool true)) (.t 37)),qM 39 38,⟨some 40,.fla 1 (.t 7),(some (39,false))⟩,⟨some 41,.ld 1 false (.t 40),(some (39,false))⟩,⟨some 42,.mov (.t 1),(some (39,false))⟩,⟨some 43,.bin .gtr (.t 41) (.t 42),(some (39,false))⟩,qO 44 (.pick (.t 39) (.c (.bool true)) (.t 43)),qO 45 (.pcall 0 50 [.t 44,.c (.int .i64 1)]),qM 46 6,qO 47 (.bin .gtr (.t 46) (.c (.int .i64 0))),qM 48 47,⟨some 49,.fla 0 (.t 7),(some (48,true))⟩,⟨some 50,.ld 1 false (.t 49),(some (48,true))⟩,⟨some 51,.mov (.t 0),(some (48,true))⟩,⟨some 52,.mov (.t 6),(some (48,true))⟩,⟨some 53,.mx (.t 52) (.c (.int .i64 1)),(some (48,true))⟩,⟨some 54,.bin .sub (.t 53) (.c (.int .i64 1)),(some (48,true))⟩,⟨some 55,.ixa 2 (.t 51) (.t 54),(some (48,true))⟩,⟨some 56,.fla 1 (.t 55),(some (48,true))⟩,⟨some 57,.ld 1 false (.t 56),(some (48,true))⟩,⟨some 58,.bin .leq (.t 50) (.t 57),(some (48,true))⟩,qO 59 (.pick (.t 48) (.t 58) (.c (.bool false))),qO 60 (.pcall 1 50 [.t 59,.c (.int .i64 7)]),qO 61 (.bsl 1 [.t 45,.t 60]),qO 62 (.pcall 2 49 [.t 61]),qM 8 62]) (.seq (.reg [qM 63 8,qO 64 (.bin .neq (.t 63) (.c (.int .i64 0)))]) (.cond (.t 64) (.seq (.reg [qM 65 8,qM 4 65]) .ret) .skip))))) (.reg [qO 66 (.bin .add (.t 24) (.c (.int .i64 1))),qM 24 66]))))
def ir_privilege_CheckSpans:IC:=(.seq (.reg [qO 4 (.mov (.c (.int .i64 0)))]) (.seq (.seq (.reg [qM 9 1,qO 10 (.call 51 [.t 9,.c (.int .i64 0),.c (.int .i64 200000)]),qO 11 (.not (.t 10)),qO 12 (.call 50 [.t 11,.c (.int .i64 1)]),qM 13 0,qO 14 (.len (.t 13)),qO 15 (.bin .gtr (.t 14) (.c (.int .i64 1000))),qO 16 (.call 50 [.t 15,.c (.int .i64 2)]),qO 17 (.bsl 1 [.t 12,.t 16]),qO 18 (.call 49 [.t 17]),qM 5 18]) (.seq (.reg [qM 19 5,qO 20 (.bin .neq (.t 19) (.c (.int .i64 0)))]) (.cond (.t 20) (.seq (.reg [qM 21 5,qM 4 21]) .ret) .skip))) (.seq (.seq (.reg [qM 22 0,qO 23 (.len (.t 22)),qO 24 (.mov (.c (.int .i64 0)))]) (.block 0 (.loop ir_privilege_CheckSpans_L0))) (.seq (.reg [qO 4 (.mov (.c (.int .i64 0)))]) .ret))))
def rs_privilege_CheckSpans:List IRes:=[.t 4]
theorem ck_privilege_CheckSpans:chkF Tryz.prog Tryz.f79 ir_privilege_CheckSpans rs_privilege_CheckSpans 67=true:=by kernel_rfl
def ir_chaseref1_SpansFault_L0:IC:=(.seq (.reg [qO 19 (.bin .lss (.t 18) (.t 17))]) (.seq (.cond (.t 19) .skip (.exit 0)) (.seq (.block 1 (.seq (.reg [qM 20 18,qO 21 (.ixa 2 (.t 16) (.t 18)),qO 22 (.ld 2 true (.t 21)),qO 6 (.alc 108 [.int .i64 0,.int .i64 0]),qM 5 20,⟨none,.st 2 (.t 6) (.t 22),none⟩]) (.seq (.seq (.reg [qO 23 (.fla 0 (.t 6)),qO 24 (.ld 1 false (.t 23)),qO 25 (.bin .lss (.t 24) (.c (.int .i64 0))),qM 26 25,⟨some 27,.fla 0 (.t 6),(some (26,false))⟩,⟨some 28,.ld 1 false (.t 27),(some (26,false))⟩,⟨some 29,.fla 1 (.t 6),(some (26,false))⟩,⟨some 30,.ld 1 false (.t 29),(some (26,false))⟩,⟨some 31,.bin .geq (.t 28) (.t 30),(some (26,false))⟩,qO 32 (.pick (.t 26) (.c (.bool true)) (.t 31)),qM 33 32,⟨some 34,.fla 1 (.t 6),(some (33,false))⟩,⟨some 35,.ld 1 false (.t 34),(some (33,false))⟩,⟨some 36,.mov (.t 1),(some (33,false))⟩,⟨some 37,.bin .gtr (.t 35) (.t 36),(some (33,false))⟩,qO 38 (.pick (.t 33) (.c (.bool true)) (.t 37))]) (.cond (.t 38) (.seq (.reg [qO 4 (.mov (.c (.int .i64 1)))]) .ret) .skip)) (.seq (.drg [qM 39 5,qO 40 (.bin .gtr (.t 39) (.c (.int .i64 0))),qM 41 40,⟨some 42,.fla 0 (.t 6),(some (41,true))⟩,⟨some 43,.ld 1 false (.t 42),(some (41,true))⟩,⟨some 44,.mov (.t 0),(some (41,true))⟩,⟨some 45,.mov (.t 5),(some (41,true))⟩,⟨some 46,.bin .sub (.t 45) (.c (.int .i64 1)),(some (41,true))⟩,⟨some 47,.ixa 2 (.t 44) (.t 46),(some (41,true))⟩,⟨some 48,.fla 1 (.t 47),(some (41,true))⟩,⟨some 49,.ld 1 false (.t 48),(some (41,true))⟩,⟨some 50,.bin .leq (.t 43) (.t 49),(some (41,true))⟩,qO 51 (.pick (.t 41) (.t 50) (.c (.bool false)))]) (.cond (.t 51) (.seq (.reg [qO 4 (.mov (.c (.int .i64 7)))]) .ret) .skip))))) (.reg [qO 52 (.bin .add (.t 18) (.c (.int .i64 1))),qM 18 52]))))
def ir_chaseref1_SpansFault:IC:=(.seq (.reg [qO 4 (.mov (.c (.int .i64 0)))]) (.seq (.seq (.reg [qM 7 1,qO 8 (.bin .lss (.t 7) (.c (.int .i64 0))),qM 9 8,⟨some 10,.mov (.t 1),(some (9,false))⟩,⟨some 11,.bin .gtr (.t 10) (.c (.int .i64 200000)),(some (9,false))⟩,qO 12 (.pick (.t 9) (.c (.bool true)) (.t 11))]) (.cond (.t 12) (.seq (.reg [qO 4 (.mov (.c (.int .i64 1)))]) .ret) .skip)) (.seq (.seq (.reg [qM 13 0,qO 14 (.len (.t 13)),qO 15 (.bin .gtr (.t 14) (.c (.int .i64 1000)))]) (.cond (.t 15) (.seq (.reg [qO 4 (.mov (.c (.int .i64 2)))]) .ret) .skip)) (.seq (.seq (.reg [qM 16 0,qO 17 (.len (.t 16)),qO 18 (.mov (.c (.int .i64 0)))]) (.block 0 (.loop ir_chaseref1_SpansFault_L0))) (.seq (.reg [qO 4 (.mov (.c (.int .i64 0)))]) .ret)))))
def rs_chaseref1_SpansFault:List IRes:=[.t 4]
theorem ck_chaseref1_SpansFault:chkF Tryz.prog Tryz.f73 ir_chaseref1_SpansFault rs_chaseref1_SpansFault 53=true:=by kernel_rfl
def spn (p:Int×Int):List PV:=[int p.1,int p.2]
def sps (l:List (Int×Int)):PV:=.sl 2 (l.map spn)
section
variable {E:Envt}
def badS (size:Int) (p:Int×Int):Bool:=decide (p.1 < 0) || decide (p.2≤p.1) || decide (size < p.2)
def errAt (size:Int) (l:List (Int×Int)) (k:Nat):Int:=
 if badS size (l.getD k (0,0))=true then 1 else if 0 < k∧(l.getD k (0,0)).1≤(l.getD (k - 1) (0,0)).2 then 7 else 0
def spansF (l:List (Int×Int)) (size:Int):Int:=
 if size < 0∨200000 < size then 1 else if 1000 < l.length then 2 else firstE ((List.range l.length).map (errAt size l))
theorem errAt_get (size:Int) (l:List (Int×Int)) {k:Nat} (h:k < l.length):((List.range l.length).map (errAt size l))[k]?=some (errAt size l k):=by
 rw [List.getElem?_map,List.getElem?_range h];rfl
theorem SpansFault_ok (l:List (Int×Int)) (size:Int) (hl:l.length≤1000000):PCall Tryz.prog E 73 [sps l,int size] (·=int (spansF l size)):=by
 refine pcallF mixed Tryz.func73 ck_chaseref1_SpansFault ?_
 simp only [a0,l0,OS.ao,List.map_cons,List.map_nil,List.length_cons,List.length_nil,List.cons_append,List.nil_append,Nat.reduceSub,Nat.reduceAdd,List.replicate_succ,List.replicate_zero,ir_chaseref1_SpansFault,rs_chaseref1_SpansFault,ZZ,WW,Ze,reduceCtorEq,Nat.reduceAdd,Nat.reduceMul,Nat.reduceLeDiff,Nat.reduceLT,Nat.reduceEqDiff]
 simp only [sps,ZZ,WW,Ze,reduceCtorEq,Nat.reduceAdd,Nat.reduceMul,Nat.reduceLeDiff,Nat.reduceLT,Nat.reduceEqDiff]
 generalize hes:l.map spn=es
 have hln:es.length=l.length:=by rw [← hes];simp
 refine ⟨by simp,?_⟩
 refine br ?_ ?_
 ·intro h
  simp only [ZZ,WW,Ze,reduceCtorEq,Nat.reduceAdd,Nat.reduceMul,Nat.reduceLeDiff,Nat.reduceLT,Nat.reduceEqDiff]
  have:size < 0∨200000 < size:=by simpa using h
  simp [spansF,this]
 intro h
 have hsz:¬ (size < 0∨200000 < size):=by simpa using h
 simp only [ZZ,WW,Ze,reduceCtorEq,Nat.reduceAdd,Nat.reduceMul,Nat.reduceLeDiff,Nat.reduceLT,Nat.reduceEqDiff]
 refine br ?_ ?_
 ·intro h
  simp only [ZZ,WW,Ze,reduceCtorEq,Nat.reduceAdd,Nat.reduceMul,Nat.reduceLeDiff,Nat.reduceLT,Nat.reduceEqDiff]
  have:1000 < l.length:=by have:=of_decide_eq_true h;omega
  simp [spansF,hsz,this]
 intro h
 have hle:¬ 1000 < l.length:=by have:=of_decide_eq_false h;omega
 simp only [ZZ,WW,Ze,reduceCtorEq,Nat.reduceAdd,Nat.reduceMul,Nat.reduceLeDiff,Nat.reduceLT,Nat.reduceEqDiff]
 have hF:spansF l size=firstE ((List.range l.length).map (errAt size l)):=by simp [spansF,hsz,hle]
 rw [hF]
 have hget:=fun {k:Nat} (h:k < l.length)=>firstE_drop _ k _ (errAt_get size l h)
 generalize hG:(List.range l.length).map (errAt size l)=G at *
 have hGl:G.length=l.length:=by rw [← hG];simp
 refine loop_intro (fun n fr L=>∃ k:Nat,k≤l.length∧n=l.length - k∧firstE G=firstE (G.drop k)∧fr=[.p (.sl 2 es),.p (int size),oo,oo,oo,oo,oo,oo,oo,oo,oo,oo,oo,oo,oo,oo,.p (.sl 2 es),.p (int (es.length:Nat)),.p (int (k:Nat)),oo,oo,oo,oo,oo,oo,oo,oo,oo,oo,oo,oo,oo,oo,oo,oo,oo,oo,oo,oo,oo,oo,oo,oo,oo,oo,oo,oo,oo,oo,oo,oo,oo,oo]∧L=[]) l.length [.p (.sl 2 es),.p (int size),oo,oo,oo,oo,oo,oo,oo,oo,oo,oo,oo,oo,oo,oo,.p (.sl 2 es),.p (int (es.length:Nat)),.p (int (0:Nat)),oo,oo,oo,oo,oo,oo,oo,oo,oo,oo,oo,oo,oo,oo,oo,oo,oo,oo,oo,oo,oo,oo,oo,oo,oo,oo,oo,oo,oo,oo,oo,oo,oo,oo] [] (by (simp only [ZZ,WW,Ze,reduceCtorEq,Nat.reduceAdd,Nat.reduceMul,Nat.reduceLeDiff,Nat.reduceLT,Nat.reduceEqDiff];try trivial)) zE_ ⟨0,by omega,by omega,rfl,rfl,rfl⟩ ?_
 rintro n fr L ⟨k,hk,rfl,hf,rfl,rfl⟩
 simp only [ir_chaseref1_SpansFault_L0,ZZ,WW,Ze,reduceCtorEq,Nat.reduceAdd,Nat.reduceMul,Nat.reduceLeDiff,Nat.reduceLT,Nat.reduceEqDiff]
 refine br ?_ ?_
 ·intro h
  have hlt:k < l.length:=by have:=of_decide_eq_true h;omega
  obtain ⟨x,hx⟩:∃ x,l[k]?=some x:=⟨_,List.getElem?_eq_getElem hlt⟩
  have hg:es.getD k []=spn x:=by rw [← hes];exact getD_map hx
  have hd:=hget hlt
  have hxd:l.getD k (0,0)=x:=by simp [List.getD,hx]
  simp only [ZZ,WW,Ze,reduceCtorEq,Nat.reduceAdd,Nat.reduceMul,Nat.reduceLeDiff,Nat.reduceLT,Nat.reduceEqDiff,hg,spn]
  ((repeat' (with_reducible apply And.intro))<;>try ((exact sc_)))
  obtain ⟨y,hy⟩:∃ y,l[k - 1]?=some y:=⟨_,List.getElem?_eq_getElem (by omega)⟩
  have hg2:es.getD (k - 1) []=spn y:=by rw [← hes];exact getD_map hy
  have hyd:l.getD (k - 1) (0,0)=y:=by simp [List.getD,hy]
  have hn1:((k:Int) - 1).toNat=k - 1:=by omega
  have he:errAt size l k=if (decide (x.1 < 0) || decide (x.2≤x.1) || decide (size < x.2))=true then 1 else if 0 < k∧x.1≤y.2 then 7 else 0:=by simp only [errAt,badS,hxd,hyd]
  refine br ?_ ?_
  ·intro hb
   simp only [ZZ,WW,Ze,reduceCtorEq,Nat.reduceAdd,Nat.reduceMul,Nat.reduceLeDiff,Nat.reduceLT,Nat.reduceEqDiff]
   rw [hf,hd,he,if_pos hb]
   rfl
  intro hb
  rw [if_neg (by rw [hb];simp)] at he
  simp only [ZZ,WW,Ze,reduceCtorEq,Nat.reduceAdd,Nat.reduceMul,Nat.reduceLeDiff,Nat.reduceLT,Nat.reduceEqDiff]
  refine drg0 ?_
  simp only [ZZ,WW,Ze,reduceCtorEq,Nat.reduceAdd,Nat.reduceMul,Nat.reduceLeDiff,Nat.reduceLT,Nat.reduceEqDiff,hn1,hg2,spn]
  ((repeat' (with_reducible apply And.intro))<;>try ((exact sc_)))
  refine br ?_ ?_
  ·intro h7
   have:0 < k∧x.1≤y.2:=by simpa using h7
   simp only [ZZ,WW,Ze,reduceCtorEq,Nat.reduceAdd,Nat.reduceMul,Nat.reduceLeDiff,Nat.reduceLT,Nat.reduceEqDiff]
   rw [hf,hd,he,if_pos this]
   rfl
  intro h7
  have:¬ (0 < k∧x.1≤y.2):=by simpa using h7
  simp only [ZZ,WW,Ze,reduceCtorEq,Nat.reduceAdd,Nat.reduceMul,Nat.reduceLeDiff,Nat.reduceLT,Nat.reduceEqDiff]
  refine ⟨i64_of (by omega) (by omega),?_⟩
  refine end_round (l.length - (k+1)) [.p (.sl 2 es),.p (int size),oo,oo,oo,oo,oo,oo,oo,oo,oo,oo,oo,oo,oo,oo,.p (.sl 2 es),.p (int (es.length:Nat)),.p (int ((k+1:Nat))),oo,oo,oo,oo,oo,oo,oo,oo,oo,oo,oo,oo,oo,oo,oo,oo,oo,oo,oo,oo,oo,oo,oo,oo,oo,oo,oo,oo,oo,oo,oo,oo,oo,oo] [] (by omega) (by (simp only [ZZ,WW,Ze,reduceCtorEq,Nat.reduceAdd,Nat.reduceMul,Nat.reduceLeDiff,Nat.reduceLT,Nat.reduceEqDiff];try trivial)) zE_ ⟨k+1,by omega,rfl,by rw [hf,hd,he,if_neg this];rfl,rfl,rfl⟩
 ·intro h
  have hge:l.length≤k:=by have:=of_decide_eq_false h;omega
  simp only [ZZ,WW,Ze,reduceCtorEq,Nat.reduceAdd,Nat.reduceMul,Nat.reduceLeDiff,Nat.reduceLT,Nat.reduceEqDiff]
  rw [hf,List.drop_eq_nil_of_le (by omega)]
  rfl
theorem CheckSpans_ok (l:List (Int×Int)) (size:Int) (hl:l.length≤1000000):PCall Tryz.prog E 79 [sps l,int size] (·=int (spansF l size)):=by
 refine pcallF mixed Tryz.func79 ck_privilege_CheckSpans ?_
 simp only [a0,l0,OS.ao,List.map_cons,List.map_nil,List.length_cons,List.length_nil,List.cons_append,List.nil_append,Nat.reduceSub,Nat.reduceAdd,List.replicate_succ,List.replicate_zero,ir_privilege_CheckSpans,rs_privilege_CheckSpans,ZZ,WW,Ze,reduceCtorEq,Nat.reduceAdd,Nat.reduceMul,Nat.reduceLeDiff,Nat.reduceLT,Nat.reduceEqDiff]
 simp only [sps,ZZ,WW,Ze,reduceCtorEq,Nat.reduceAdd,Nat.reduceMul,Nat.reduceLeDiff,Nat.reduceLT,Nat.reduceEqDiff]
 generalize hes:l.map spn=es
 have hln:es.length=l.length:=by rw [← hes];simp
 refine use1 (In_ok _ _ _) rfl (.inl rfl) ?_
 simp only [ZZ,WW,Ze,reduceCtorEq,Nat.reduceAdd,Nat.reduceMul,Nat.reduceLeDiff,Nat.reduceLT,Nat.reduceEqDiff]
 refine use1 (When_ok _ _) rfl (.inl rfl) ?_
 simp only [ZZ,WW,Ze,reduceCtorEq,Nat.reduceAdd,Nat.reduceMul,Nat.reduceLeDiff,Nat.reduceLT,Nat.reduceEqDiff]
 refine use1 (When_ok _ _) rfl (.inl rfl) ?_
 simp only [ZZ,WW,Ze,reduceCtorEq,Nat.reduceAdd,Nat.reduceMul,Nat.reduceLeDiff,Nat.reduceLT,Nat.reduceEqDiff]
 refine use1 (First_ok [whenE (!inE size 0 200000) 1,whenE (decide (1000 < (es.length:Int))) 2] (by simp)) rfl (.inl rfl) ?_
 simp only [ZZ,WW,Ze,reduceCtorEq,Nat.reduceAdd,Nat.reduceMul,Nat.reduceLeDiff,Nat.reduceLT,Nat.reduceEqDiff]
 have h0:firstE [whenE (!inE size 0 200000) 1,whenE (decide (1000 < (es.length:Int))) 2]=if size < 0∨200000 < size then 1 else if 1000 < l.length then 2 else 0:=by
  by_cases a1:size < 0∨200000 < size
  ·have:inE size 0 200000=false:=by simp [inE];omega
   simp [firstE,whenE,this,a1]
  ·have:inE size 0 200000=true:=by simp [inE];omega
   by_cases a2:1000 < l.length
   ·have a3:(1000:Int) < es.length:=by omega
    simp [firstE,whenE,this,a1,a2,a3]
   ·have a3:¬ (1000:Int) < es.length:=by omega
    simp [firstE,whenE,this,a1,a2,a3]
 rw [h0]
 refine br ?_ ?_
 ·intro h
  simp only [ZZ,WW,Ze,reduceCtorEq,Nat.reduceAdd,Nat.reduceMul,Nat.reduceLeDiff,Nat.reduceLT,Nat.reduceEqDiff]
  have h:¬ (if size < 0∨200000 < size then (1:Int) else if 1000 < l.length then 2 else 0)=0:=by simpa using h
  unfold spansF
  split at h
  ·simp [*]
  ·split at h
   ·simp [*]
   ·exact absurd rfl h
 intro h
 have h:(if size < 0∨200000 < size then (1:Int) else if 1000 < l.length then 2 else 0)=0:=by simpa using h
 have hsz:¬ (size < 0∨200000 < size):=by intro h';rw [if_pos h'] at h;cases h
 have hle:¬ 1000 < l.length:=by intro h';rw [if_neg hsz,if_pos h'] at h;cases h
 simp only [ZZ,WW,Ze,reduceCtorEq,Nat.reduceAdd,Nat.reduceMul,Nat.reduceLeDiff,Nat.reduceLT,Nat.reduceEqDiff]
 have hF:spansF l size=firstE ((List.range l.length).map (errAt size l)):=by simp [spansF,hsz,hle]
 rw [hF]
 have hget:=fun {k:Nat} (h:k < l.length)=>firstE_drop _ k _ (errAt_get size l h)
 generalize hG:(List.range l.length).map (errAt size l)=G at *
 have hGl:G.length=l.length:=by rw [← hG];simp
 refine loop_intro (fun n fr L=>∃ k:Nat,k≤l.length∧n=l.length - k∧firstE G=firstE (G.drop k)∧fr=[.p (.sl 2 es),.p (int size),oo,oo,oo,oo,oo,oo,oo,oo,oo,oo,oo,oo,oo,oo,oo,oo,oo,oo,oo,oo,.p (.sl 2 es),.p (int (es.length:Nat)),.p (int (k:Nat)),oo,oo,oo,oo,oo,oo,oo,oo,oo,oo,oo,oo,oo,oo,oo,oo,oo,oo,oo,oo,oo,oo,oo,oo,oo,oo,oo,oo,oo,oo,oo,oo,oo,oo,oo,oo,oo,oo,oo,oo,oo,oo]∧L=[]) l.length [.p (.sl 2 es),.p (int size),oo,oo,oo,oo,oo,oo,oo,oo,oo,oo,oo,oo,oo,oo,oo,oo,oo,oo,oo,oo,.p (.sl 2 es),.p (int (es.length:Nat)),.p (int (0:Nat)),oo,oo,oo,oo,oo,oo,oo,oo,oo,oo,oo,oo,oo,oo,oo,oo,oo,oo,oo,oo,oo,oo,oo,oo,oo,oo,oo,oo,oo,oo,oo,oo,oo,oo,oo,oo,oo,oo,oo,oo,oo,oo] [] (by (simp only [ZZ,WW,Ze,reduceCtorEq,Nat.reduceAdd,Nat.reduceMul,Nat.reduceLeDiff,Nat.reduceLT,Nat.reduceEqDiff];try trivial)) zE_ ⟨0,by omega,by omega,rfl,rfl,rfl⟩ ?_
 rintro n fr L ⟨k,hk,rfl,hf,rfl,rfl⟩
 simp only [ir_privilege_CheckSpans_L0,ZZ,WW,Ze,reduceCtorEq,Nat.reduceAdd,Nat.reduceMul,Nat.reduceLeDiff,Nat.reduceLT,Nat.reduceEqDiff]
 refine br ?_ ?_
 ·intro h
  have hlt:k < l.length:=by have:=of_decide_eq_true h;omega
  obtain ⟨x,hx⟩:∃ x,l[k]?=some x:=⟨_,List.getElem?_eq_getElem hlt⟩
  have hg:es.getD k []=spn x:=by rw [← hes];exact getD_map hx
  have hd:=hget hlt
  have hxd:l.getD k (0,0)=x:=by simp [List.getD,hx]
  obtain ⟨y,hy⟩:∃ y,l[k - 1]?=some y:=⟨_,List.getElem?_eq_getElem (by omega)⟩
  have hg2:es.getD (k - 1) []=spn y:=by rw [← hes];exact getD_map hy
  have hyd:l.getD (k - 1) (0,0)=y:=by simp [List.getD,hy]
  have hn1:(max (k:Int) 1 - 1).toNat=k - 1:=by omega
  have he:errAt size l k=if (decide (x.1 < 0) || decide (x.2≤x.1) || decide (size < x.2))=true then 1 else if 0 < k∧x.1≤y.2 then 7 else 0:=by simp only [errAt,badS,hxd,hyd]
  have he2:firstE [whenE (decide (x.1 < 0) || decide (x.2≤x.1) || decide (size < x.2)) 1,whenE (decide (0 < (k:Int)) && decide (x.1≤y.2)) 7]=errAt size l k:=by
   rw [he]
   generalize (decide (x.1 < 0) || decide (x.2≤x.1) || decide (size < x.2))=b
   cases b with
   |true=>simp [firstE,whenE]
   |false=>
    by_cases hq:0 < k∧x.1≤y.2
    ·simp [firstE,whenE,hq]
    ·simp [firstE,whenE,hq]
  simp only [ZZ,WW,Ze,reduceCtorEq,Nat.reduceAdd,Nat.reduceMul,Nat.reduceLeDiff,Nat.reduceLT,Nat.reduceEqDiff,hg,spn]
  ((repeat' (with_reducible apply And.intro))<;>try ((exact sc_)))
  refine drg3 (x1:=int (whenE (decide (x.1 < 0) || decide (x.2≤x.1) || decide (size < x.2)) 1)) (x2:=int (whenE (decide (0 < (k:Int)) && decide (x.1≤y.2)) 7)) (x3:=int (errAt size l k)) ?_
  simp only [ZZ,WW,Ze,reduceCtorEq,Nat.reduceAdd,Nat.reduceMul,Nat.reduceLeDiff,Nat.reduceLT,Nat.reduceEqDiff,hn1,hg2,spn]
  ((repeat' (with_reducible apply And.intro))<;>try (first|exact usep (When_ok _ _) rfl (.inl rfl)|(rw [← he2];exact usep (First_ok [_,_] (by simp)) rfl (.inl rfl))|(exact sc_)))
  refine br ?_ ?_
  ·intro h7
   have:¬ errAt size l k=0:=by simpa using h7
   simp only [ZZ,WW,Ze,reduceCtorEq,Nat.reduceAdd,Nat.reduceMul,Nat.reduceLeDiff,Nat.reduceLT,Nat.reduceEqDiff]
   rw [hf,hd,if_neg this]
  intro h7
  have:errAt size l k=0:=by simpa using h7
  simp only [ZZ,WW,Ze,reduceCtorEq,Nat.reduceAdd,Nat.reduceMul,Nat.reduceLeDiff,Nat.reduceLT,Nat.reduceEqDiff]
  refine ⟨i64_of (by omega) (by omega),?_⟩
  refine end_round (l.length - (k+1)) [.p (.sl 2 es),.p (int size),oo,oo,oo,oo,oo,oo,oo,oo,oo,oo,oo,oo,oo,oo,oo,oo,oo,oo,oo,oo,.p (.sl 2 es),.p (int (es.length:Nat)),.p (int ((k+1:Nat))),oo,oo,oo,oo,oo,oo,oo,oo,oo,oo,oo,oo,oo,oo,oo,oo,oo,oo,oo,oo,oo,oo,oo,oo,oo,oo,oo,oo,oo,oo,oo,oo,oo,oo,oo,oo,oo,oo,oo,oo,oo,oo] [] (by omega) (by (simp only [ZZ,WW,Ze,reduceCtorEq,Nat.reduceAdd,Nat.reduceMul,Nat.reduceLeDiff,Nat.reduceLT,Nat.reduceEqDiff];try trivial)) zE_ ⟨k+1,by omega,rfl,by rw [hf,hd,if_pos this],rfl,rfl⟩
 ·intro h
  have hge:l.length≤k:=by have:=of_decide_eq_false h;omega
  simp only [ZZ,WW,Ze,reduceCtorEq,Nat.reduceAdd,Nat.reduceMul,Nat.reduceLeDiff,Nat.reduceLT,Nat.reduceEqDiff]
  rw [hf,List.drop_eq_nil_of_le (by omega)]
  rfl
end
theorem firstE2_zero {a b:Int} (h:firstE [a,b]=0):a=0∧b=0:=by
 simp only [firstE] at h
 by_cases ha:a=0
 ·by_cases hb:b=0
  ·exact ⟨ha,hb⟩
  ·simp [ha,hb] at h
 ·simp [ha] at h
section
variable {E:Envt}
end
def ir_chasemake_Stream_SpanList_L0:IC:=(.seq (.reg [qO 12 (.bin .lss (.t 11) (.t 10))]) (.seq (.cond (.t 12) .skip (.exit 0)) (.seq (.block 1 (.seq (.reg [qM 13 6,qM 14 0,qO 15 (.bsl 1 [.c (.int .i64 0),.c (.int .i64 1),.c (.int .i64 2),.c (.int .i64 5)]),qO 16 (.call 43 [.t 14,.t 15]),qO 17 (.bin .add (.t 13) (.t 16)),qM 7 17]) (.seq (.reg [qM 18 7,qM 19 0,qO 20 (.bsl 1 [.c (.int .i64 1),.c (.int .i64 1),.c (.int .i64 2),.c (.int .i64 4),.c (.int .i64 9)]),qO 21 (.call 43 [.t 19,.t 20]),qO 22 (.bin .add (.t 18) (.t 21)),qM 8 22]) (.seq (.seq (.reg [qM 23 8,qM 24 1,qO 25 (.bin .gtr (.t 23) (.t 24))]) (.cond (.t 25) (.exit 0) .skip)) (.seq (.reg [qM 26 5,qM 27 7,qM 28 8,qO 29 (.bld [.int .i64 0,.int .i64 0] [(0,1,.t 27),(1,1,.t 28)]),qO 30 (.bsl 2 [.t 29]),qO 31 (.app 108 2 16 (.t 26) (.t 30)),qM 5 31]) (.reg [qM 32 8,qO 33 (.bin .add (.t 32) (.c (.int .i64 1))),qM 6 33])))))) (.reg [qO 34 (.bin .add (.t 11) (.c (.int .i64 1))),qM 11 34]))))
def ir_chasemake_Stream_SpanList:IC:=(.seq (.reg [qO 4 (.mov (.c (.nl 2)))]) (.seq (.reg [qO 5 (.nilr 108 2)]) (.seq (.reg [qO 6 (.mov (.c (.int .i64 0)))]) (.seq (.seq (.reg [qM 9 0,qO 10 (.call 10 [.t 9,.c (.int .i64 5)]),qO 11 (.mov (.c (.int .i64 0)))]) (.block 0 (.loop ir_chasemake_Stream_SpanList_L0))) (.cut (.seq (.reg [qM 35 5,qM 4 35]) .ret))))))
def rs_chasemake_Stream_SpanList:List IRes:=[.t 4]
theorem ck_chasemake_Stream_SpanList:chkF Tryz.prog Tryz.f130 ir_chasemake_Stream_SpanList rs_chasemake_Stream_SpanList 36=true:=by kernel_rfl
section
variable {E:Envt}
abbrev tSpan:Nat:=108
theorem SpanList_ok (l:List Int) (k:Nat) (size:Int) (hk:k≤900000) (hl:l.length≤9223372036854775807) :
  SFresh Tryz.prog E 130 T (stm l k) [int size] tSpan 2 (fun es cs'=>∃ (o:List (Int×Int)) (k':Nat),es=o.map spn∧o.length≤5∧cs'=stm l k'∧k'≤k+20):=by
 unfold SFresh
 refine gcallR mixed Tryz.func130 ck_chasemake_Stream_SpanList ?_
 simp only [a0,l0,OS.ao,List.map_cons,List.map_nil,List.length_cons,List.length_nil,List.cons_append,List.nil_append,Nat.reduceSub,Nat.reduceAdd,List.replicate_succ,List.replicate_zero,ir_chasemake_Stream_SpanList,rs_chasemake_Stream_SpanList,ZZ,WW,Ze,reduceCtorEq,Nat.reduceAdd,Nat.reduceMul,Nat.reduceLeDiff,Nat.reduceLT,Nat.reduceEqDiff]
 refine useS (Next_ok l k _ (by omega) hl (by decide)) rfl rfl rfl zE_ ?_
 rintro x cs' ⟨y,rfl,rfl⟩
 have b1:=below_lo y 5
 have b2:=below_hi y 5 (by omega)
 generalize below y 5=m at *
 simp only [ZZ,WW,Ze,reduceCtorEq,Nat.reduceAdd,Nat.reduceMul,Nat.reduceLeDiff,Nat.reduceLT,Nat.reduceEqDiff]
 refine loop_intro (fun n fr L=>∃ (i k':Nat) (at_:Int) (o:List (Int×Int)),n=5 - i∧i≤5∧(i:Int)≤m∧k'≤k+1+2 * i∧0≤at_∧at_≤20 * i∧o.length≤i∧fr=[.adr (.b 0) 0,.p (int size),oo,oo,oo,.row (.l 5),.p (int at_),oo,oo,oo,.p (int m),.p (int (i:Nat)),oo,oo,oo,oo,oo,oo,oo,oo,oo,oo,oo,oo,oo,oo,oo,oo,oo,oo,oo,oo,oo,oo,oo,oo]∧L=[(.b 0,.box ((stm l k').map .p) T),(.l 5,.row (o.map spn) tSpan 2 true)]) 5 [.adr (.b 0) 0,.p (int size),oo,oo,oo,.row (.l 5),.p (int 0),oo,oo,oo,.p (int m),.p (int (0:Nat)),oo,oo,oo,oo,oo,oo,oo,oo,oo,oo,oo,oo,oo,oo,oo,oo,oo,oo,oo,oo,oo,oo,oo,oo] [(.b 0,.box ((stm l (k+1)).map .p) T),(.l 5,.row [] tSpan 2 true)] (by (simp only [ZZ,WW,Ze,reduceCtorEq,Nat.reduceAdd,Nat.reduceMul,Nat.reduceLeDiff,Nat.reduceLT,Nat.reduceEqDiff];try trivial)) zE_ ⟨0,k+1,0,[],by omega,by omega,by omega,by omega,by omega,by omega,by simp,rfl,rfl⟩ ?_
 rintro n fr L ⟨i,k',at_,o,rfl,hi5,him,hk',ha0,ha1,ho,rfl,rfl⟩
 simp only [ir_chasemake_Stream_SpanList_L0,ZZ,WW,Ze,reduceCtorEq,Nat.reduceAdd,Nat.reduceMul,Nat.reduceLeDiff,Nat.reduceLT,Nat.reduceEqDiff]
 refine br ?_ ?_
 ·intro h
  have hlt:(i:Int) < m:=of_decide_eq_true h
  simp only [ZZ,WW,Ze,reduceCtorEq,Nat.reduceAdd,Nat.reduceMul,Nat.reduceLeDiff,Nat.reduceLT,Nat.reduceEqDiff]
  refine useS (Pick_ok l k' [0,1,2,5] (by omega) hl (by simp) (by simp)) rfl rfl rfl zE_ ?_
  rintro x cs' ⟨p,rfl,hp,rfl⟩
  have hp':0≤p∧p≤5:=by simp at hp;omega
  simp only [ZZ,WW,Ze,reduceCtorEq,Nat.reduceAdd,Nat.reduceMul,Nat.reduceLeDiff,Nat.reduceLT,Nat.reduceEqDiff]
  refine ⟨i64_of (by omega) (by omega),?_⟩
  refine useS (Pick_ok l (k'+1) [1,1,2,4,9] (by omega) hl (by simp) (by simp)) rfl rfl rfl zE_ ?_
  rintro x cs' ⟨q,rfl,hq,rfl⟩
  have hq':0≤q∧q≤9:=by simp at hq;omega
  simp only [ZZ,WW,Ze,reduceCtorEq,Nat.reduceAdd,Nat.reduceMul,Nat.reduceLeDiff,Nat.reduceLT,Nat.reduceEqDiff]
  refine ⟨i64_of (by omega) (by omega),?_⟩
  refine br ?_ ?_
  ·intro h2
   simp only [ZZ,WW,Ze,reduceCtorEq,Nat.reduceAdd,Nat.reduceMul,Nat.reduceLeDiff,Nat.reduceLT,Nat.reduceEqDiff]
   refine cut_same zE_ ?_
   simp only [ZZ,WW,Ze,reduceCtorEq,Nat.reduceAdd,Nat.reduceMul,Nat.reduceLeDiff,Nat.reduceLT,Nat.reduceEqDiff]
   exact fin_SF 5 _ (stm l (k'+1+1)) rfl rfl rfl ⟨o,k'+1+1,rfl,by omega,rfl,by omega⟩
  ·intro h2
   simp only [ZZ,WW,Ze,reduceCtorEq,Nat.reduceAdd,Nat.reduceMul,Nat.reduceLeDiff,Nat.reduceLT,Nat.reduceEqDiff]
   ((repeat' (with_reducible apply And.intro))<;>try ((exact sc_)))
   refine end_round (5 - (i+1)) [.adr (.b 0) 0,.p (int size),oo,oo,oo,.row (.l 5),.p (int (at_+p+q+1)),oo,oo,oo,.p (int m),.p (int ((i+1:Nat))),oo,oo,oo,oo,oo,oo,oo,oo,oo,oo,oo,oo,oo,oo,oo,oo,oo,oo,oo,oo,oo,oo,oo,oo] [(.b 0,.box ((stm l (k'+1+1)).map .p) T),(.l 5,.row ((o++[(at_+p,at_+p+q)]).map spn) tSpan 2 true)] (by omega) (by (simp only [ZZ,WW,Ze,reduceCtorEq,Nat.reduceAdd,Nat.reduceMul,Nat.reduceLeDiff,Nat.reduceLT,Nat.reduceEqDiff];try trivial)) (by simp only [List.map_append,spn,ZZ,WW,Ze,reduceCtorEq,Nat.reduceAdd,Nat.reduceMul,Nat.reduceLeDiff,Nat.reduceLT,Nat.reduceEqDiff]) ⟨i+1,k'+1+1,at_+p+q+1,o++[(at_+p,at_+p+q)],by omega,by omega,by omega,by omega,by omega,by omega,by simp;omega,rfl,rfl⟩
 ·intro h
  simp only [ZZ,WW,Ze,reduceCtorEq,Nat.reduceAdd,Nat.reduceMul,Nat.reduceLeDiff,Nat.reduceLT,Nat.reduceEqDiff]
  refine cut_same zE_ ?_
  simp only [ZZ,WW,Ze,reduceCtorEq,Nat.reduceAdd,Nat.reduceMul,Nat.reduceLeDiff,Nat.reduceLT,Nat.reduceEqDiff]
  exact fin_SF 5 _ (stm l k') rfl rfl rfl ⟨o,k',rfl,by omega,rfl,by omega⟩
end
def cov (l:List (Int×Int)) (j:Nat):Bool:=l.any fun s=>decide (s.1≤j) && decide ((j:Int) < s.2)
def bl (p:List Bool):List (List PV):=p.map fun b=>[.bool b]
section
variable {E:Envt}
def onAt (p:List Bool) (i:Nat):Bool:=p.getD i false
theorem firstE_mem {l:List Int} (h:firstE l=0):∀ x∈l,x=0:=by
 induction l with
 |nil=>intro x hx;cases hx
 |cons a l ih=>
  intro x hx
  simp only [firstE] at h
  split at h
  ·rename_i ha
   rcases List.mem_cons.1 hx with rfl|hx
   ·exact ha
   ·exact ih h x hx
  ·rename_i ha;exact absurd h ha
end
def cv (l:List (Int×Int)) (j:Int):Prop:=∃ s∈l,s.1≤j∧j < s.2
structure Right (l:List (Int×Int)):Prop where
 ok:∀ s∈l,s.1 < s.2
 ord:l.Pairwise (fun s t=>s.2 < t.1)
theorem Right.tail {s:Int×Int} {l:List (Int×Int)} (h:Right (s :: l)):Right l:=⟨fun t ht=>h.ok t (by simp [ht]),(List.pairwise_cons.1 h.ord).2⟩
theorem Right.head {s:Int×Int} {l:List (Int×Int)} (h:Right (s :: l)):s.1 < s.2∧∀ t∈l,s.2 < t.1:=⟨h.ok s (by simp),(List.pairwise_cons.1 h.ord).1⟩
structure FromInv (p:List Bool) (k:Nat) (out:List (Int×Int)):Prop where
 right:Right out
 bd:∀ s∈out,s.2≤k
 last:onAt p (k - 1)=true→0 < k→∃ (i:List (Int×Int)) (y:Int×Int),out=i++[y]∧y.2=(k:Int)
 gap:onAt p (k - 1)=false→0 < k→∀ s∈out,s.2 < k
 cov:∀ j,cv out j↔∃ i:Nat,j=i∧i < k∧onAt p i=true
structure InB (s:Int×Int) (o0 b:List (Int×Int)) (st:Int×List (Int×Int)):Prop where
 lo:s.1≤st.1
 src:st.1=s.1∨∃ x∈b,st.1=x.2
 right:Right st.2
 bd:∀ t∈st.2,t.2 < st.1
 hi:∀ t∈st.2,t∈o0∨t.2≤s.2
 fre:∀ j,st.1≤j→j < s.2→¬ cv b j
 cov:∀ j,cv st.2 j↔cv o0 j∨(s.1≤j∧j < st.1∧j < s.2∧¬ cv b j)
structure InA (b a out:List (Int×Int)):Prop where
 right:Right out
 bd:∀ t∈out,∃ s∈a,t.2≤s.2
 cov:∀ j,cv out j↔cv a j∧¬ cv b j
structure InP (l out:List (Int×Int)):Prop where
 right:Right out
 src:∀ t∈out,(∃ u∈l,t.1=u.1)∧∃ u∈l,t.2=u.2
 cov:∀ j,cv out j↔cv l j
section
variable {E:Envt}
end
section
variable {E:Envt}
end
end Go.Proofs.YtehfjlpenlffmaaGreatDoor
