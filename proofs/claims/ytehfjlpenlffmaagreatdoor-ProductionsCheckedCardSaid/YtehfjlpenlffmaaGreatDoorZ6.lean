import Derived.Test.YtehfjlpenlffmaaGreatDoorZ4
import Derived.Test.YtehfjlpenlffmaaGreatDoorProg
import Derived.KernelRfl
set_option linter.unusedVariables false
set_option linter.unusedSimpArgs false
set_option linter.defProp false
namespace Go.Proofs.YtehfjlpenlffmaaGreatDoor
open Nat renaming reduceAdd→zd,reduceMul→ze,reduceLeDiff→zb,reduceLT→zf,reduceEqDiff→za,reduceSub→zp
open List renaming map_cons→zj,map_nil→zo,length_cons→zi,length_nil→zn,cons_append→zl,nil_append→zm,replicate_succ→zh,replicate_zero→zk
theorem mixed:Tryz.prog.follows .mixedOrders=true:=by kernel_rfl
abbrev int (n:Int):PV:=.int .i64 n
def ints (l:List Int):PV:=.sl 1 (l.map fun x=>[.int .i64 x])
def strs (l:List (List UInt8)):PV:=.sl 1 (l.map fun x=>[.str x])
theorem qaH {α β:Type} {f:α→β} {l:List α} {k:Nat} {x:α} {d:β} (h:l[k]?=some x):(l.map f).getD k d=f x:=by
 simp [List.getD,h]
theorem qar {n:Int} (h1:-9223372036854775808≤n) (h2:n≤9223372036854775807):I64 n:=⟨h1,h2⟩
theorem Zl0 {α:Type} {n:Nat}:([]:List α).take n=[]:=by simp
theorem Zl1 {α:Type} {n:Nat}:([]:List α).drop n=[]:=by simp
theorem Zl2 {α:Type} {l:List α}:l++[]=l:=by simp
theorem Zl3 {p:Prop}:(True∧p)=p:=by simp
theorem Zl4 {p:Prop}:(p∧True)=p:=by simp
theorem Zl5 {α:Type} {h:Decidable True} {a b:α}:(if True then a else b)=a:=by simp
theorem Zl6 {α:Type} {h:Decidable False} {a b:α}:(if False then a else b)=b:=by simp
theorem Zl7 {b:Bool}:(b && true)=b:=by simp
theorem Zl8 {b:Bool}:(true && b)=b:=rfl
theorem Zl9:(!true)=false:=rfl
theorem Zl10:(!false)=true:=rfl
theorem Zl11 {α:Type} {a b:α}:(bif true then a else b)=a:=rfl
theorem Zl12 {α:Type} {a b:α}:(bif false then a else b)=b:=rfl
theorem Zl13 {p:Prop}:(p→p)=True:=by simp
theorem Zl14 {p:Prop}:(p∧p)=p:=by simp
theorem Zl15 {p:Prop}:(True→p)=p:=by simp
theorem Zl16 {p:Prop}:(p→True)=True:=by simp
theorem Zl17 {n:Nat}:0+n=n:=by simp
theorem Zl18 {n:Nat}:n+0=n:=rfl
theorem Zl19 {b c:Bool}:(bif b then c else false)=(b && c):=by simp
theorem Zl20 {b c:Bool}:(bif b then true else c)=(b || c):=by simp
theorem Zl21 {n:Nat}:((n:Int)).toNat=n:=rfl
theorem Zl22:(false=true)=False:=by simp
theorem Zl23 {α:Type} {a b:α}:(a≠b)=¬ (a=b):=by simp
theorem Zl24:(¬ False)=True:=by simp
theorem Zl25:(¬ True)=False:=by simp
theorem Zl26 {a b:Nat}:(Key.l a=Key.l b)=(a=b):=by simp
theorem Zl27 {a b:Nat}:(Key.b a=Key.b b)=(a=b):=by simp
theorem Zl28 {α:Type} {a:α} {l:List α} {d:α}:(a :: l).getD 0 d=a:=rfl
theorem Zl29 {α:Type} {a:α} {l:List α} {d:α} {n:Nat}:(a :: l).getD (n+1) d=l.getD n d:=rfl
theorem Zl30 {α:Type} {d:α} {n:Nat}:([]:List α).getD n d=d:=rfl
theorem Zl31 {α:Type} {a:α} {l:List α}:(a :: l)[0]?=some a:=rfl
theorem Zl32 {α:Type} {a:α} {l:List α} {n:Nat}:(a :: l)[n+1]?=l[n]?:=rfl
theorem Zl33 {α:Type} {a b:α} {l:List α}:(a :: l).set 0 b=b :: l:=rfl
theorem Zl34 {α:Type} {a b:α} {l:List α} {n:Nat}:(a :: l).set (n+1) b=a :: l.set n b:=rfl
theorem Zl35 {α β:Type} {f:α→β} {a:α} {l:List α}:(a :: l).map f=f a :: l.map f:=rfl
theorem Zl36 {α β:Type} {f:α→β}:[].map f=[]:=rfl
theorem Zl37 {α:Type} {a:α} {l:List α}:(a :: l).length=l.length+1:=rfl
theorem Zl38 {α:Type}:([]:List α).length=0:=rfl
theorem Zl39 {α:Type} {p:α→Bool} {a:α} {l:List α}:(a :: l).all p=(p a && l.all p):=rfl
theorem Zl40 {α:Type} {p:α→Bool}:[].all p=true:=rfl
theorem Zl41 {α:Type} {a:α} {l:List α} {n:Nat}:(a :: l).take (n+1)=a :: l.take n:=rfl
theorem Zl42 {α:Type} {l:List α}:l.take 0=[]:=rfl
theorem Zl43 {α:Type} {a:α} {l:List α} {n:Nat}:(a :: l).drop (n+1)=l.drop n:=rfl
theorem Zl44 {α:Type} {l:List α}:l.drop 0=l:=rfl
theorem Zl45 {α β:Type} {f:α→β} {a:α}:(some a).map f=some (f a):=rfl
theorem Zl46 {α β:Type} {f:α→β}:(none:Option α).map f=none:=rfl
theorem Zl47 {α:Type} {a:α} {l m:List α}:(a :: l)++m=a :: (l++m):=rfl
theorem Zl48 {α:Type} {l:List α}:[]++l=l:=rfl
theorem Zl49 {α:Type} {a:α} {l:List α}:(a :: l).isEmpty=false:=rfl
theorem Zl50 {α:Type}:([]:List α).isEmpty=true:=rfl
abbrev qO (d:Nat) (o:IOp):IOper:=⟨some d,o,none⟩
abbrev qM (d s:Nat):IOper:=⟨some d,.mov (.t s),none⟩
abbrev oo:AV:=.any
theorem WW.{u}:(∀ {α:Sort u} (a b:α),(if True then a else b)=a)∧(∀ {α:Sort u} (a b:α),(if False then a else b)=b)∧(∀ {α:Sort u} [Nonempty α] (b:Prop),(α→b)↔b):=⟨fun _ _=>rfl,fun _ _=>rfl,fun _=>by simp⟩
def ZZ:=And.intro (And.intro (And.intro (And.intro (And.intro (And.intro (And.intro (And.intro @quf (And.intro @quh @qwY)) (And.intro @qwX (And.intro @qsw @qwZ))) (And.intro (And.intro @qw1 (And.intro @qw0 @qug)) (And.intro @qui (And.intro @qw2 @qu6)))) (And.intro (And.intro (And.intro @qu5 (And.intro @qu7 @qua)) (And.intro @qt9 (And.intro @qub @qte))) (And.intro (And.intro @qtd (And.intro @qtf @qxU)) (And.intro (And.intro @qxT @qxV) (And.intro @qxv @qxw))))) (And.intro (And.intro (And.intro (And.intro @qxx (And.intro @qxy @qxt)) (And.intro @qxu (And.intro @qsB @qxS))) (And.intro (And.intro @qxR (And.intro @qxQ @quE)) (And.intro @qsP (And.intro @qsG @qux)))) (And.intro (And.intro (And.intro @quy (And.intro @qqE @qwb)) (And.intro @qyV (And.intro @qxJ @qzi))) (And.intro (And.intro @qzg (And.intro @qy8 @qyM)) (And.intro (And.intro @qyO @qyZ) (And.intro @qyJ @o_mx)))))) (And.intro (And.intro (And.intro (And.intro (And.intro @o_mn (And.intro @qy4 @qyI)) (And.intro @qyE (And.intro @qy3 @qy6))) (And.intro (And.intro @qy5 (And.intro @o_ld @qy1)) (And.intro @qy0 (And.intro @qy7 @qzh)))) (And.intro (And.intro (And.intro @qzb (And.intro @qza @qzj)) (And.intro @qze (And.intro @qyP @qyN))) (And.intro (And.intro @qyY (And.intro @qxL @qyD)) (And.intro (And.intro @qyS @qyR) (And.intro @qxN @qy2))))) (And.intro (And.intro (And.intro (And.intro @qxK (And.intro @qzm @qzf)) (And.intro @o_st (And.intro @qyG @qyT))) (And.intro (And.intro @qzl (And.intro @qzd @qyK)) (And.intro (And.intro @qyW @qzk) (And.intro @qyF @qyX)))) (And.intro (And.intro (And.intro @qyQ (And.intro @qyH @qxO)) (And.intro @qxM (And.intro @qyL @qy9))) (And.intro (And.intro @qyU (And.intro @qzc @qzB)) (And.intro (And.intro @qx6 @qzS) (And.intro @qzQ @qzM))))))) (And.intro (And.intro (And.intro (And.intro (And.intro (And.intro @qzv (And.intro @qzx @qzD)) (And.intro @qzu (And.intro @g_mx @g_mn))) (And.intro (And.intro @qzI (And.intro @qzt @qzs)) (And.intro @qzH (And.intro @qzK @qzJ)))) (And.intro (And.intro (And.intro @g_ld (And.intro @qzF @qzE)) (And.intro @qzL (And.intro @qzR @qzO))) (And.intro (And.intro @qzN (And.intro @qzT @qzP)) (And.intro (And.intro @qzy @qzw) (And.intro @qzC @qx7))))) (And.intro (And.intro (And.intro (And.intro @qzr (And.intro @qzA @qzz)) (And.intro @qx8 (And.intro @qzG @qtr))) (And.intro (And.intro @qrB (And.intro @qrA @qwd)) (And.intro (And.intro @qqo @qrD) (And.intro @qrC @qqp)))) (And.intro (And.intro (And.intro @quB (And.intro @qv9 @qtp)) (And.intro @qxI (And.intro @qtq @qwc))) (And.intro (And.intro @qwa (And.intro @quz @quA)) (And.intro (And.intro @Zl13 @Zl28) (And.intro @Zl29 @Zl30)))))) (And.intro (And.intro (And.intro (And.intro (And.intro @Zl31 (And.intro @Zl32 @Zl33)) (And.intro @Zl34 (And.intro @Zl35 @Zl36))) (And.intro (And.intro @Zl37 (And.intro @Zl38 @Zl39)) (And.intro @Zl40 (And.intro @Zl41 @Zl42)))) (And.intro (And.intro (And.intro @Zl43 (And.intro @Zl44 @Zl0)) (And.intro @Zl1 (And.intro @Zl45 @Zl46))) (And.intro (And.intro @Zl3 (And.intro @Zl4 @Zl5)) (And.intro (And.intro @Zl6 @Zl7) (And.intro @Zl8 @Zl9))))) (And.intro (And.intro (And.intro (And.intro @Zl10 (And.intro @Zl11 @Zl12)) (And.intro @Zl26 (And.intro @Zl27 @Zl14))) (And.intro (And.intro @Zl15 (And.intro @Zl16 @Zl17)) (And.intro (And.intro @Zl18 @Zl2) (And.intro @Zl48 @Zl47)))) (And.intro (And.intro (And.intro @Zl19 (And.intro @Zl20 @qmT)) (And.intro @qlo (And.intro @qlF @qqs))) (And.intro (And.intro @Zl21 (And.intro @Zl49 @Zl50)) (And.intro (And.intro @Zl22 @Zl23) (And.intro @Zl24 @Zl25)))))))) (And.intro (And.intro (And.intro (And.intro (And.intro (And.intro (And.intro (And.intro @quC @qsI) (And.intro @Za.eq_1 @Zb.eq_1)) (And.intro (And.intro @Zb.eq_2 @Zb.eq_3) (And.intro @Zc.eq_1 @Zc.eq_2))) (And.intro (And.intro (And.intro @Zd.eq_1 @Zd.eq_2) (And.intro @Zf.eq_1 @Zf.eq_2)) (And.intro (And.intro @Zf.eq_3 @Zf.eq_4) (And.intro @Zf.eq_5 @Zf.eq_6)))) (And.intro (And.intro (And.intro (And.intro @Zf.eq_7 @Zf.eq_8) (And.intro @Zf.eq_9 @Zf.eq_10)) (And.intro (And.intro @Zf.eq_11 @Zf.eq_12) (And.intro @Zf.eq_13 @Zf.eq_14))) (And.intro (And.intro (And.intro @Zf.eq_15 @Zf.eq_16) (And.intro @Zf.eq_17 @Zf.eq_18)) (And.intro (And.intro @Zf.eq_19 @Zf.eq_20) (And.intro @Zf.eq_21 (And.intro @Zf.eq_22 @Zf.eq_23)))))) (And.intro (And.intro (And.intro (And.intro (And.intro @Zf.eq_24 @Zf.eq_25) (And.intro @Zf.eq_26 @Zf.eq_27)) (And.intro (And.intro @Zf.eq_28 @Zf.eq_29) (And.intro @Zf.eq_30 @Zf.eq_31))) (And.intro (And.intro (And.intro @Zf.eq_32 @Zf.eq_33) (And.intro @Zf.eq_34 @Zf.eq_35)) (And.intro (And.intro @Zf.eq_36 @Zf.eq_37) (And.intro @Zg.eq_1 @Zg.eq_2)))) (And.intro (And.intro (And.intro (And.intro @Zh.eq_1 @Zi.eq_1) (And.intro @Zi.eq_2 @Zi.eq_3)) (And.intro (And.intro @rd.eq_1 @rd.eq_2) (And.intro @rd.eq_3 @rd.eq_4))) (And.intro (And.intro (And.intro @AV.un.eq_1 @AV.un.eq_2) (And.intro @AV.unA.eq_1 @AV.ad.eq_1)) (And.intro (And.intro @AV.ad.eq_2 @Zj.eq_1) (And.intro @Zk.eq_1 (And.intro @Zk.eq_2 @Zl.eq_1))))))) (And.intro (And.intro (And.intro (And.intro (And.intro (And.intro @Zl.eq_2 @Zl.eq_3) (And.intro @Zm.eq_1 @Zm.eq_2)) (And.intro (And.intro @Zn.eq_1 @Zo.eq_1) (And.intro @Zo.eq_2 @Zo.eq_3))) (And.intro (And.intro (And.intro @Zo.eq_4 @Zo.eq_5) (And.intro @Zp.eq_1 @Zp.eq_2)) (And.intro (And.intro @Zp.eq_3 @Zp.eq_4) (And.intro @Zp.eq_5 @Zp.eq_6)))) (And.intro (And.intro (And.intro (And.intro @Zp.eq_7 @Zp.eq_8) (And.intro @Zp.eq_9 @Zp.eq_10)) (And.intro (And.intro @Zp.eq_11 @Zp.eq_12) (And.intro @Zp.eq_13 @Zp.eq_14))) (And.intro (And.intro (And.intro @Zq.eq_1 @Zq.eq_2) (And.intro @Zq.eq_3 @Zr.eq_1)) (And.intro (And.intro @Zr.eq_2 @Zr.eq_3) (And.intro @Zr.eq_4 (And.intro @Zr.eq_5 @Zr.eq_6)))))) (And.intro (And.intro (And.intro (And.intro (And.intro @Zr.eq_7 @Zr.eq_8) (And.intro @Zs.eq_1 @Zs.eq_2)) (And.intro (And.intro @Zs.eq_3 @Zt.eq_1) (And.intro @Zu.eq_1 @Zu.eq_2))) (And.intro (And.intro (And.intro @Zu.eq_3 @Zu.eq_4) (And.intro @Zu.eq_5 @Zv.eq_1)) (And.intro (And.intro @Zv.eq_2 @Zw.eq_1) (And.intro @Zw.eq_2 (And.intro @Zw.eq_3 @Zw.eq_4))))) (And.intro (And.intro (And.intro (And.intro @Zx.eq_1 @Zx.eq_2) (And.intro @Zx.eq_3 @Zy.eq_1)) (And.intro (And.intro @Zy.eq_2 @Zy.eq_3) (And.intro @Zz.eq_1 @Zz.eq_2))) (And.intro (And.intro (And.intro @Zaa.eq_1 @Zab.eq_1) (And.intro @Zab.eq_2 @Zac.eq_1)) (And.intro (And.intro @Zac.eq_2 @Zad.eq_1) (And.intro @Zad.eq_2 (And.intro @Zae.eq_1 @Zae.eq_2)))))))) (And.intro (And.intro (And.intro (And.intro (And.intro (And.intro (And.intro @Zaf.eq_1 @Zaf.eq_2) (And.intro @Zag.eq_1 @Zag.eq_2)) (And.intro (And.intro @Zag.eq_3 @Zag.eq_4) (And.intro @Zag.eq_5 @Zah.eq_1))) (And.intro (And.intro (And.intro @Zah.eq_2 @Zah.eq_3) (And.intro @Zai.eq_1 @Zai.eq_2)) (And.intro (And.intro @Zaj.eq_1 @Zaj.eq_2) (And.intro @Zaj.eq_3 @Zak.eq_1)))) (And.intro (And.intro (And.intro (And.intro @Zak.eq_2 @Zak.eq_3) (And.intro @Zal.eq_1 @Zal.eq_2)) (And.intro (And.intro @Zal.eq_3 @Zal.eq_4) (And.intro @Zam.eq_1 @Zan.eq_1))) (And.intro (And.intro (And.intro @Zao.eq_1 @Zao.eq_2) (And.intro @wk1.eq_1 @wk1.eq_2)) (And.intro (And.intro @wk.eq_1 @wk.eq_2) (And.intro @wk.eq_3 (And.intro @Zap.eq_1 @Zap.eq_2)))))) (And.intro (And.intro (And.intro (And.intro (And.intro @Zap.eq_3 @Zaq.eq_1) (And.intro @Zar.eq_1 @Zas.eq_1)) (And.intro (And.intro @Zas.eq_2 @Zat.eq_1) (And.intro @Zat.eq_2 @Zau.eq_1))) (And.intro (And.intro (And.intro @Zau.eq_2 @Zav.eq_1) (And.intro @Zaw.eq_1 @Zaw.eq_2)) (And.intro (And.intro @AV.kill.eq_1 @AV.kill.eq_2) (And.intro @AV.kill.eq_3 @AV.kill.eq_4)))) (And.intro (And.intro (And.intro (And.intro @AV.kill.eq_5 @AV.kill.eq_6) (And.intro @AV.kill.eq_7 @AV.kill.eq_8)) (And.intro (And.intro @AV.kill.eq_9 @AV.kill.eq_10) (And.intro @AV.kill.eq_11 @AO.kill.eq_1))) (And.intro (And.intro (And.intro @AO.kill.eq_2 @AO.kill.eq_3) (And.intro @AO.kill.eq_4 @AO.kill.eq_5)) (And.intro (And.intro @AO.kill.eq_6 @AV.thaw.eq_1) (And.intro @AV.thaw.eq_2 (And.intro @AV.thaw.eq_3 @AV.thaw.eq_4))))))) (And.intro (And.intro (And.intro (And.intro (And.intro (And.intro @AV.thaw.eq_5 @AV.thaw.eq_6) (And.intro @AV.thaw.eq_7 @AV.thaw.eq_8)) (And.intro (And.intro @AV.thaw.eq_9 @AV.thaw.eq_10) (And.intro @AV.thaw.eq_11 @Zax.eq_1))) (And.intro (And.intro (And.intro @Zax.eq_2 @AO.thaw.eq_1) (And.intro @AO.thaw.eq_2 @AO.thaw.eq_3)) (And.intro (And.intro @AO.thaw.eq_4 @AO.thaw.eq_5) (And.intro @AO.thaw.eq_6 @Zay.eq_1)))) (And.intro (And.intro (And.intro (And.intro @Zay.eq_2 @Zay.eq_3) (And.intro @Zay.eq_4 @Zaz.eq_1)) (And.intro (And.intro @Zaz.eq_2 @Zba.eq_1) (And.intro @Zba.eq_2 @Zbb.eq_1))) (And.intro (And.intro (And.intro @Zbb.eq_2 @Zbc.eq_1) (And.intro @Zbc.eq_2 @Zbd.eq_1)) (And.intro (And.intro @Zbd.eq_2 @Zbe.eq_1) (And.intro @Zbe.eq_2 (And.intro @Zbf.eq_1 @Zbf.eq_2)))))) (And.intro (And.intro (And.intro (And.intro (And.intro @Zbf.eq_3 @Zbf.eq_4) (And.intro @Zbg.eq_1 @Zbg.eq_2)) (And.intro (And.intro @Zbh.eq_1 @Zbh.eq_2) (And.intro @Zbi.eq_1 @Zbi.eq_2))) (And.intro (And.intro (And.intro @Zbi.eq_3 @Zbi.eq_4) (And.intro @Zbi.eq_5 @Zbi.eq_6)) (And.intro (And.intro @Zbj.eq_1 @Zbj.eq_2) (And.intro @Zbj.eq_3 (And.intro @Zbj.eq_4 @Zbj.eq_5))))) (And.intro (And.intro (And.intro (And.intro @Zbj.eq_6 @Zbk.eq_1) (And.intro @Zbk.eq_2 @Zbk.eq_3)) (And.intro (And.intro @Zbk.eq_4 @Zbk.eq_5) (And.intro @Zbk.eq_6 @Zbl.eq_1))) (And.intro (And.intro (And.intro @Zbl.eq_2 @qsL) (And.intro @qsy @qw3)) (And.intro (And.intro @thaw_P.eq_1 @thaw_P.eq_2) (And.intro @caps_P.eq_1 (And.intro @caps_P.eq_2 @caps_P.eq_3)))))))))
theorem zE_ {p:Prop} (h:p:=by simp only [ZZ,WW,Ze,reduceCtorEq,zd,ze,zb,zf,za]):p:=h
theorem zF_ {p:Prop} (h:p:=by (simp only [ZZ,WW,Ze,reduceCtorEq,zd,ze,zb,zf,za];try trivial)):p:=h
theorem zG_ {p:Prop} (h:p:=by (simp only [ZZ,WW,Ze,reduceCtorEq,zd,ze,zb,zf,za];trivial)):p:=h
theorem sc_ {p:Prop} (h:p:=by first|first|assumption|trivial|exact (fun hq=>by rw [hq];rfl)|exact qar (by omega) (by omega)|omega|(simp;done)|(simp;omega)|(intro hsc;have hs0:=hsc;(try have hsd:=of_decide_eq_true hsc);(try simp only [Bool.not_eq_true',Bool.or_eq_false_iff,Bool.and_eq_true,Bool.or_eq_true,decide_eq_true_eq,decide_eq_false_iff_not] at hsc);(repeat' (with_reducible apply And.intro))<;>(first|assumption|trivial|exact (fun hq=>by rw [hq];rfl)|exact qar (by omega) (by omega)|omega|(simp;done)|(simp;omega)|(intro hse;simp [hse,hs0];done)|(intro hse;simp only [hse,hs0,Bool.true_and,Bool.and_true,Bool.not_false,Bool.not_true,Bool.and_self];done)))):p:=h
def qlJ:IC:=(.seq (.reg [qO 6 (.mov (.c (.bool false)))]) (.seq (.reg [qM 7 0,qM 8 1,qO 9 (.bin .geq (.t 7) (.t 8)),qM 10 9,⟨some 11,.mov (.t 0),(some (10,true))⟩,⟨some 12,.mov (.t 2),(some (10,true))⟩,⟨some 13,.bin .leq (.t 11) (.t 12),(some (10,true))⟩,qO 14 (.pick (.t 10) (.t 13) (.c (.bool false))),qM 6 14]) .ret))
def qlx:List IRes:=[.t 6]
theorem qqA:chkF Tryz.prog Tryz.f51 qlJ qlx 15=true:=by kernel_rfl
def qjV:IC:=(.seq (.reg [qO 4 (.mov (.c (.int .i64 0)))]) (.seq (.seq (.reg [qM 5 0]) (.cond (.t 5) (.seq (.reg [qM 6 1,qM 4 6]) .ret) .skip)) (.seq (.reg [qO 4 (.mov (.c (.int .i64 0)))]) .ret)))
def qjR:List IRes:=[.t 4]
theorem qn3:chkF Tryz.prog Tryz.f50 qjV qjR 7=true:=by kernel_rfl
def qhv:IC:=(.seq (.reg [qO 8 (.bin .lss (.t 7) (.t 6))]) (.seq (.cond (.t 8) .skip (.exit 0)) (.seq (.block 1 (.seq (.reg [qO 9 (.ixa 1 (.t 5) (.t 7)),qO 10 (.ld 1 false (.t 9)),qM 4 10]) (.seq (.reg [qM 11 4,qO 12 (.bin .neq (.t 11) (.c (.int .i64 0)))]) (.cond (.t 12) (.seq (.reg [qM 13 4,qM 2 13]) .ret) .skip)))) (.reg [qO 14 (.bin .add (.t 7) (.c (.int .i64 1))),qM 7 14]))))
def qjb:IC:=(.seq (.reg [qO 2 (.mov (.c (.int .i64 0)))]) (.seq (.seq (.reg [qM 5 0,qO 6 (.len (.t 5)),qO 7 (.mov (.c (.int .i64 0)))]) (.block 0 (.loop qhv))) (.seq (.reg [qO 2 (.mov (.c (.int .i64 0)))]) .ret)))
def qi2:List IRes:=[.t 2]
theorem qmP:chkF Tryz.prog Tryz.f49 qjb qi2 15=true:=by kernel_rfl
def qgr:IC:=(.seq (.reg [qO 4 (.mov (.c (.int .i64 0)))]) (.seq (.seq (.reg [qM 5 1,qO 6 (.bin .lss (.t 5) (.c (.int .i64 1)))]) (.cond (.t 6) (.seq (.reg [qO 4 (.mov (.c (.int .i64 0)))]) .ret) .skip)) (.seq (.reg [qM 7 0,qM 8 1,qO 9 (.bin .rem (.t 7) (.t 8)),qM 0 9]) (.seq (.seq (.reg [qM 10 0,qO 11 (.bin .lss (.t 10) (.c (.int .i64 0)))]) (.cond (.t 11) (.reg [qM 12 0,qM 13 1,qO 14 (.bin .add (.t 12) (.t 13)),qM 0 14]) .skip)) (.cut (.seq (.reg [qM 15 0,qM 4 15]) .ret))))))
def qgi:List IRes:=[.t 4]
theorem qjq:chkF Tryz.prog Tryz.f45 qgr qgi 16=true:=by kernel_rfl
def qb6:IC:=(.seq (.reg [qO 4 (.mov (.c (.int .i64 0)))]) (.seq (.reg [qM 7 0,qO 8 (.nck (.t 7)),qO 9 (.fla 1 (.t 8)),qO 10 (.ld 1 false (.t 9)),qO 11 (.bin .add (.t 10) (.c (.int .i64 1))),qO 12 (.nck (.t 7)),qO 13 (.fla 1 (.t 12)),⟨none,.st 1 (.t 13) (.t 11),none⟩]) (.seq (.seq (.reg [qM 14 0,qO 15 (.nck (.t 14)),qO 16 (.fla 0 (.t 15)),qO 17 (.ld 1 false (.t 16)),qO 18 (.len (.t 17)),qO 19 (.bin .eql (.t 18) (.c (.int .i64 0)))]) (.cond (.t 19) (.seq (.reg [qM 20 0,qO 21 (.nck (.t 20)),qO 22 (.fla 1 (.t 21)),qO 23 (.ld 1 false (.t 22)),qO 24 (.bin .mul (.t 23) (.c (.int .i64 7919))),qM 25 1,qO 26 (.call 45 [.t 24,.t 25]),qM 4 26]) .ret) .skip)) (.seq (.drg [qM 27 0,qO 28 (.nck (.t 27)),qO 29 (.fla 1 (.t 28)),qO 30 (.ld 1 false (.t 29)),qO 31 (.bin .sub (.t 30) (.c (.int .i64 1))),qM 32 0,qO 33 (.nck (.t 32)),qO 34 (.fla 0 (.t 33)),qO 35 (.ld 1 false (.t 34)),qO 36 (.len (.t 35)),qO 37 (.bin .rem (.t 31) (.t 36)),qM 5 37]) (.seq (.drg [qM 38 0,qO 39 (.nck (.t 38)),qO 40 (.fla 1 (.t 39)),qO 41 (.ld 1 false (.t 40)),qO 42 (.bin .sub (.t 41) (.c (.int .i64 1))),qM 43 0,qO 44 (.nck (.t 43)),qO 45 (.fla 0 (.t 44)),qO 46 (.ld 1 false (.t 45)),qO 47 (.len (.t 46)),qO 48 (.bin .quo (.t 42) (.t 47)),qM 6 48]) (.seq (.reg [qM 49 0,qO 50 (.nck (.t 49)),qO 51 (.fla 0 (.t 50)),qO 52 (.ld 1 false (.t 51)),qM 53 5,qO 54 (.ixa 1 (.t 52) (.t 53)),qO 55 (.ld 1 false (.t 54)),qO 56 (.call 45 [.t 55,.c (.int .i64 1073741824)]),qM 57 6,qM 58 5,qO 59 (.bin .add (.c (.int .i64 7919)) (.t 58)),qO 60 (.bin .mul (.t 57) (.t 59)),qO 61 (.bin .add (.t 56) (.t 60)),qM 62 1,qO 63 (.call 45 [.t 61,.t 62]),qM 4 63]) .ret))))))
def qbT:List IRes:=[.t 4]
theorem qdL:chkF Tryz.prog Tryz.f10 qb6 qbT 64=true:=by kernel_rfl
def qdJ:IC:=(.seq (.reg [qO 4 (.mov (.c (.bool false)))]) (.seq (.reg [qM 5 0,qM 6 1,qO 7 (.call 10 [.t 5,.t 6]),qO 8 (.bin .eql (.t 7) (.c (.int .i64 0))),qM 4 8]) .ret))
def qdD:List IRes:=[.t 4]
theorem qgT:chkF Tryz.prog Tryz.f9 qdJ qdD 9=true:=by kernel_rfl
def qdr:IC:=(.seq (.reg [qO 6 (.mov (.c (.int .i64 0)))]) (.seq (.seq (.reg [qM 7 2,qM 8 1,qO 9 (.bin .lss (.t 7) (.t 8))]) (.cond (.t 9) (.seq (.reg [qM 10 1,qM 6 10]) .ret) .skip)) (.seq (.reg [qM 11 1,qM 12 0,qM 13 2,qM 14 1,qO 15 (.bin .sub (.t 13) (.t 14)),qO 16 (.bin .add (.t 15) (.c (.int .i64 1))),qO 17 (.call 10 [.t 12,.t 16]),qO 18 (.bin .add (.t 11) (.t 17)),qM 6 18]) .ret)))
def qde:List IRes:=[.t 6]
theorem qgA:chkF Tryz.prog Tryz.f19 qdr qde 19=true:=by kernel_rfl
def qb5:IC:=(.seq (.reg [qO 4 (.mov (.c (.int .i64 0)))]) (.seq (.reg [qM 5 1,qM 6 0,qM 7 1,qO 8 (.len (.t 7)),qO 9 (.call 10 [.t 6,.t 8]),qO 10 (.ixa 1 (.t 5) (.t 9)),qO 11 (.ld 1 false (.t 10)),qM 4 11]) .ret))
def qbS:List IRes:=[.t 4]
theorem qdK:chkF Tryz.prog Tryz.f43 qb5 qbS 12=true:=by kernel_rfl
def qc2:IC:=(.seq (.reg [qO 4 (.mov (.c (.str [])))]) (.seq (.reg [qM 5 1,qM 6 0,qM 7 1,qO 8 (.len (.t 7)),qO 9 (.call 10 [.t 6,.t 8]),qO 10 (.ixa 1 (.t 5) (.t 9)),qO 11 (.ld 1 false (.t 10)),qM 4 11]) .ret))
def qcQ:List IRes:=[.t 4]
theorem qf8:chkF Tryz.prog Tryz.f42 qc2 qcQ 12=true:=by kernel_rfl
section
variable {E:Envt}
def inE (n lo hi:Int):Bool:=decide (lo≤n) && decide (n≤hi)
theorem qqK (n lo hi:Int):PCall Tryz.prog E 51 [int n,int lo,int hi] (·=.bool (inE n lo hi)):=by
 refine qag mixed Tryz.func51 qqA ?_
 simp only [a0,l0,OS.ao,zj,zo,zi,zn,zl,zm,zp,zd,zh,zk,qlJ,qlx,ZZ,WW,Ze,reduceCtorEq,zd,ze,zb,zf,za]
 rfl
def qaj (b:Bool) (e:Int):Int:=if b=true then e else 0
theorem qfh (b:Bool) (e:Int):PCall Tryz.prog E 50 [.bool b,int e] (·=int (qaj b e)):=by
 refine qag mixed Tryz.func50 qn3 ?_
 simp only [a0,l0,OS.ao,zj,zo,zi,zn,zl,zm,zp,zd,zh,zk,qjV,qjR,ZZ,WW,Ze,reduceCtorEq,zd,ze,zb,zf,za]
 refine br ?_ ?_
 all_goals
  rintro rfl
  simp only [ZZ,WW,Ze,reduceCtorEq,zd,ze,zb,zf,za]
  rfl
def qaf:List Int→Int
 |[]=>0
 |e :: r=>if e=0 then qaf r else e
theorem qbr (l:List Int) (k:Nat) (x:Int) (h:l[k]?=some x):qaf (l.drop k)=if x=0 then qaf (l.drop (k+1)) else x:=by
 have hk:=(List.getElem?_eq_some_iff.1 h).1
 rw [List.drop_eq_getElem_cons hk,(List.getElem?_eq_some_iff.1 h).2]
 rfl
theorem qij (l:List Int) (hl:l.length≤1000000):PCall Tryz.prog E 49 [ints l] (·=int (qaf l)):=by
 refine qag mixed Tryz.func49 qmP ?_
 simp only [a0,l0,OS.ao,zj,zo,zi,zn,zl,zm,zp,zd,zh,zk,qjb,qi2,ZZ,WW,Ze,reduceCtorEq,zd,ze,zb,zf,za]
 simp only [ints,ZZ,WW,Ze,reduceCtorEq,zd,ze,zb,zf,za]
 generalize hes:l.map (fun x=>[PV.int IntKind.i64 x])=es
 have hln:es.length=l.length:=by rw [← hes];simp
 refine qad (fun n fr L=>∃ k:Nat,k≤l.length∧n=l.length - k∧qaf l=qaf (l.drop k)∧fr=[.p (.sl 1 es),oo,oo,oo,oo,.p (.sl 1 es),.p (int (es.length:Nat)),.p (int (k:Nat)),oo,oo,oo,oo,oo,oo,oo]∧L=[]) l.length [.p (.sl 1 es),oo,oo,oo,oo,.p (.sl 1 es),.p (int (es.length:Nat)),.p (int (0:Nat)),oo,oo,oo,oo,oo,oo,oo] [] ?_ ?_ ⟨0,by omega,by omega,rfl,rfl,rfl⟩ ?_
 ·(simp only [ZZ,WW,Ze,reduceCtorEq,zd,ze,zb,zf,za];try trivial)
 ·simp only [ZZ,WW,Ze,reduceCtorEq,zd,ze,zb,zf,za]
 rintro n fr L ⟨k,hk,rfl,hf,rfl,rfl⟩
 simp only [qhv,ZZ,WW,Ze,reduceCtorEq,zd,ze,zb,zf,za]
 refine br ?_ ?_
 ·intro h
  have hlt:k < l.length:=by have:=of_decide_eq_true h;omega
  obtain ⟨x,hx⟩:∃ x,l[k]?=some x:=⟨_,List.getElem?_eq_getElem hlt⟩
  have hg:es.getD k []=[PV.int .i64 x]:=by rw [← hes];exact qaH hx
  have hd:=qbr l k x hx
  simp only [ZZ,WW,Ze,reduceCtorEq,zd,ze,zb,zf,za,hg]
  refine ⟨by omega,by omega,?_⟩
  refine br ?_ ?_
  ·intro h2
   simp only [ZZ,WW,Ze,reduceCtorEq,zd,ze,zb,zf,za]
   rw [hf,hd,if_neg (by simpa using h2)]
  ·intro h2
   simp only [ZZ,WW,Ze,reduceCtorEq,zd,ze,zb,zf,za]
   refine ⟨qar (by omega) (by omega),?_⟩
   refine qac (l.length - (k+1)) [.p (.sl 1 es),oo,oo,oo,oo,.p (.sl 1 es),.p (int (es.length:Nat)),.p (int ((k+1:Nat))),oo,oo,oo,oo,oo,oo,oo] [] (by omega) ?_ ?_ ⟨k+1,by omega,rfl,by rw [hf,hd,if_pos (by simpa using h2)],rfl,rfl⟩
   ·(simp only [ZZ,WW,Ze,reduceCtorEq,zd,ze,zb,zf,za];try trivial)
   ·simp only [ZZ,WW,Ze,reduceCtorEq,zd,ze,zb,zf,za]
 ·intro h
  have hge:l.length≤k:=by have:=of_decide_eq_false h;omega
  simp only [ZZ,WW,Ze,reduceCtorEq,zd,ze,zb,zf,za]
  rw [hf,List.drop_eq_nil_of_le hge]
  rfl
def qee (x n:Int):Int:=if n < 1 then 0 else x % n
theorem qeJ (x n:Int):0≤qee x n:=by
 unfold qee
 split
 ·omega
 ·exact Int.emod_nonneg x (by omega)
theorem qeK (x n:Int) (h:1≤n):qee x n < n:=by
 unfold qee
 rw [if_neg (by omega)]
 exact Int.emod_lt_of_pos x (by omega)
theorem qqd (x n:Int) (hn:1≤n):x % n=if x.tmod n < 0 then x.tmod n+n else x.tmod n:=by
 have h2:=Int.emod_nonneg x (show n≠0 by omega)
 have h3:=Int.emod_lt_of_pos x (show 0 < n by omega)
 rw [Int.tmod_eq_emod]
 split<;>split at *<;>omega
theorem qu4 (x n:Int) (hn:1≤n):-n < x.tmod n∧x.tmod n < n:=by
 have h2:=Int.emod_nonneg x (show n≠0 by omega)
 have h3:=Int.emod_lt_of_pos x (show 0 < n by omega)
 rw [Int.tmod_eq_emod]
 split<;>omega
theorem qik (x n:Int) (h2:n≤9223372036854775807):PCall Tryz.prog E 45 [int x,int n] (·=int (qee x n)):=by
 refine qag mixed Tryz.func45 qjq ?_
 simp only [a0,l0,OS.ao,zj,zo,zi,zn,zl,zm,zp,zd,zh,zk,qgr,qgi,ZZ,WW,Ze,reduceCtorEq,zd,ze,zb,zf,za]
 refine br ?_ ?_
 ·intro h
  simp only [ZZ,WW,Ze,reduceCtorEq,zd,ze,zb,zf,za]
  have:n < 1:=of_decide_eq_true h
  simp [qee,this]
 ·intro h
  have hn:¬ n < 1:=of_decide_eq_false h
  have hb:=qu4 x n (by omega)
  have hc:=qqd x n (by omega)
  simp only [ZZ,WW,Ze,reduceCtorEq,zd,ze,zb,zf,za]
  refine ⟨by omega,?_⟩
  refine qk7 (fun fr L=>∃ y,y=x % n∧fr=[.p (int y),oo,oo,oo,oo,oo,oo,oo,oo,oo,oo,oo,oo,oo,oo,oo]∧L=[]) ?_ ?_ ?_
  ·intro h1
   have h1:=of_decide_eq_true h1
   simp only [ZZ,WW,Ze,reduceCtorEq,zd,ze,zb,zf,za]
   refine ⟨qar (by omega) (by omega),qhF [.p (int (x.tmod n+n)),oo,oo,oo,oo,oo,oo,oo,oo,oo,oo,oo,oo,oo,oo,oo] [] ?_ ?_ ⟨_,by rw [hc,if_pos h1],rfl,rfl⟩⟩
   ·(simp only [ZZ,WW,Ze,reduceCtorEq,zd,ze,zb,zf,za];try trivial)
   ·simp only [ZZ,WW,Ze,reduceCtorEq,zd,ze,zb,zf,za]
  ·intro h1
   have h1:=of_decide_eq_false h1
   simp only [ZZ,WW,Ze,reduceCtorEq,zd,ze,zb,zf,za]
   refine qhF [.p (int (x.tmod n)),oo,oo,oo,oo,oo,oo,oo,oo,oo,oo,oo,oo,oo,oo,oo] [] ?_ ?_ ⟨_,by rw [hc,if_neg h1],rfl,rfl⟩
   ·(simp only [ZZ,WW,Ze,reduceCtorEq,zd,ze,zb,zf,za];try trivial)
   ·simp only [ZZ,WW,Ze,reduceCtorEq,zd,ze,zb,zf,za]
  ·rintro fr L ⟨y,rfl,rfl,rfl⟩
   simp only [ZZ,WW,Ze,reduceCtorEq,zd,ze,zb,zf,za]
   simp [qee,hn]
def stm (l:List Int) (k:Nat):List PV:=[ints l,int k]
abbrev T:TypeId:=25
theorem qdB (l:List Int) (k:Nat) (n:Int) (hk:k≤1000000) (hl:l.length≤9223372036854775807) (h2:n≤9223372036854775807) :
  qgV Tryz.prog E 10 T (stm l k) [int n] (fun x cs'=>∃ y,x=int (qee y n)∧cs'=stm l (k+1)):=by
 unfold qgV
 refine qf4 mixed Tryz.func10 qdL ?_
 simp only [a0,l0,OS.ao,zj,zo,zi,zn,zl,zm,zp,zd,zh,zk,stm,qb6,qbT,ZZ,WW,Ze,reduceCtorEq,zd,ze,zb,zf,za]
 refine ⟨qar (by omega) (by omega),?_⟩
 simp only [ints,ZZ,WW,Ze,reduceCtorEq,zd,ze,zb,zf,za]
 generalize hes:l.map (fun x=>[PV.int IntKind.i64 x])=es
 have hln:es.length=l.length:=by rw [← hes];simp
 have hc:[PV.sl 1 es,int ((k:Int)+1)]=[PV.sl 1 es,int ((k+1:Nat):Int)]:=by simp
 refine br ?_ ?_
 ·intro h
  simp only [ZZ,WW,Ze,reduceCtorEq,zd,ze,zb,zf,za]
  refine ⟨qar (by omega) (by omega),?_⟩
  refine use1 (qik _ _ h2) rfl (.inl rfl) ?_
  simp only [ZZ,WW,Ze,reduceCtorEq,zd,ze,zb,zf,za]
  exact qe7 [PV.sl 1 es,int ((k:Int)+1)] rfl ⟨_,rfl,hc⟩
 ·intro h
  have hne:¬ ((es.length:Int)=0):=of_decide_eq_false h
  simp only [ZZ,WW,Ze,reduceCtorEq,zd,ze,zb,zf,za]
  refine drg0 ?_
  simp only [ZZ,WW,Ze,reduceCtorEq,zd,ze,zb,zf,za]
  refine ⟨qar (by omega) (by omega),⟨by omega,?_⟩⟩
  refine drg0 ?_
  have hkk:(k:Int)+1 - 1=k:=by omega
  have hrem:(k:Int).tmod (es.length:Int)=((k % es.length:Nat):Int):=by rw [Int.tmod_eq_emod_of_nonneg (by omega)];rfl
  have hquo:(k:Int).tdiv (es.length:Int)=((k / es.length:Nat):Int):=by rw [Int.tdiv_eq_ediv_of_nonneg (by omega)];rfl
  have hq1:k / es.length≤k:=Nat.div_le_self _ _
  have hr1:k % es.length≤k:=Nat.mod_le _ _
  have hr2:k % es.length < es.length:=Nat.mod_lt _ (by omega)
  obtain ⟨x,hx⟩:∃ x,l[k % es.length]?=some x:=⟨_,List.getElem?_eq_getElem (by omega)⟩
  have hg:es.getD (k % es.length) []=[PV.int .i64 x]:=by rw [← hes];exact qaH (by rw [hes];exact hx)
  simp only [ZZ,WW,Ze,reduceCtorEq,zd,ze,zb,zf,za,hkk,hrem,hquo,hg]
  generalize k / es.length=q at *
  generalize k % es.length=r at *
  refine ⟨qar (by omega) (by omega),⟨hne,qar (by omega) (by omega)⟩,⟨by omega,by omega⟩,by omega,?_⟩
  refine use1 (qik _ _ (by decide)) rfl (.inl rfl) ?_
  have hb1:=qeJ x 1073741824
  have hb2:=qeK x 1073741824 (by omega)
  have hm:(q:Int) * (7919+(r:Int))≤1000000 * 1007919:=Int.mul_le_mul (by omega) (by omega) (by omega) (by omega)
  have hm0:0≤(q:Int) * (7919+(r:Int)):=Int.mul_nonneg (by omega) (by omega)
  simp only [ZZ,WW,Ze,reduceCtorEq,zd,ze,zb,zf,za]
  refine ⟨qar (by omega) (by omega),qar (by omega) (by omega),qar (by omega) (by omega),?_⟩
  refine use1 (qik _ _ h2) rfl (.inl rfl) ?_
  simp only [ZZ,WW,Ze,reduceCtorEq,zd,ze,zb,zf,za]
  exact qe7 [PV.sl 1 es,int ((k:Int)+1)] rfl ⟨_,rfl,hc⟩
theorem qh2 (x:Int) (n:Nat) (hn:0 < n):∃ i:Nat,i < n∧qee x n=i:=by
 have h0:=qeJ x n
 have h1:=qeK x n (by omega)
 exact ⟨(qee x n).toNat,by omega,by omega⟩
theorem qhi (l:List Int) (k:Nat) (n:Int) (hk:k≤1000000) (hl:l.length≤9223372036854775807) (h2:n≤9223372036854775807) :
  qgV Tryz.prog E 9 T (stm l k) [int n] (fun x cs'=>∃ b,x=.bool b∧cs'=stm l (k+1)):=by
 unfold qgV
 refine qf4 mixed Tryz.func9 qgT ?_
 simp only [a0,l0,OS.ao,zj,zo,zi,zn,zl,zm,zp,zd,zh,zk,qdJ,qdD,ZZ,WW,Ze,reduceCtorEq,zd,ze,zb,zf,za]
 refine useS (qdB l k n hk hl h2) rfl rfl rfl zE_ ?_
 rintro x cs' ⟨y,rfl,rfl⟩
 simp only [ZZ,WW,Ze,reduceCtorEq,zd,ze,zb,zf,za]
 exact qe7 (stm l (k+1)) rfl ⟨_,rfl,rfl⟩
theorem qp7 (l:List Int) (k:Nat) (lo hi:Int) (hk:k≤1000000) (hl:l.length≤9223372036854775807) (h1:-1000000000≤lo) (h2:lo≤hi) (h3:hi≤1000000000) :
  qgV Tryz.prog E 19 T (stm l k) [int lo,int hi] (fun x cs'=>∃ y,x=int y∧lo≤y∧y≤hi∧cs'=stm l (k+1)):=by
 unfold qgV
 refine qf4 mixed Tryz.func19 qgA ?_
 simp only [a0,l0,OS.ao,zj,zo,zi,zn,zl,zm,zp,zd,zh,zk,qdr,qde,ZZ,WW,Ze,reduceCtorEq,zd,ze,zb,zf,za]
 refine br (fun h=>absurd (of_decide_eq_true h) (by omega)) ?_
 intro _
 simp only [ZZ,WW,Ze,reduceCtorEq,zd,ze,zb,zf,za]
 refine ⟨qar (by omega) (by omega),qar (by omega) (by omega),?_⟩
 refine useS (qdB l k _ hk hl (by omega)) rfl rfl rfl zE_ ?_
 rintro x cs' ⟨y,rfl,rfl⟩
 have b1:=qeJ y (hi - lo+1)
 have b2:=qeK y (hi - lo+1) (by omega)
 simp only [ZZ,WW,Ze,reduceCtorEq,zd,ze,zb,zf,za]
 exact ⟨qar (by omega) (by omega),qe7 (stm l (k+1)) rfl ⟨_,rfl,by omega,by omega,rfl⟩⟩
theorem qeb (l:List Int) (k:Nat) (c:List Int) (hk:k≤1000000) (hl:l.length≤9223372036854775807) (h0:0 < c.length) (h1:c.length≤1000000) :
  qgV Tryz.prog E 43 T (stm l k) [ints c] (fun x cs'=>∃ y,x=int y∧y∈c∧cs'=stm l (k+1)):=by
 unfold qgV
 refine qf4 mixed Tryz.func43 qdK ?_
 simp only [a0,l0,OS.ao,zj,zo,zi,zn,zl,zm,zp,zd,zh,zk,qb5,qbS,ZZ,WW,Ze,reduceCtorEq,zd,ze,zb,zf,za]
 simp only [ints,ZZ,WW,Ze,reduceCtorEq,zd,ze,zb,zf,za]
 generalize hes:c.map (fun x=>[PV.int IntKind.i64 x])=es
 have hln:es.length=c.length:=by rw [← hes];simp
 refine useS (qdB l k _ hk hl (by omega)) rfl rfl rfl zE_ ?_
 rintro x cs' ⟨y,rfl,rfl⟩
 obtain ⟨i,hi,hy⟩:=qh2 y es.length (by omega)
 rw [hy]
 obtain ⟨z,hz⟩:∃ z,c[i]?=some z:=⟨_,List.getElem?_eq_getElem (by omega)⟩
 have hg:es.getD i []=[PV.int .i64 z]:=by rw [← hes];exact qaH hz
 simp only [ZZ,WW,Ze,reduceCtorEq,zd,ze,zb,zf,za,hg]
 exact ⟨⟨by omega,by omega⟩,by omega,qe7 (stm l (k+1)) rfl ⟨_,rfl,List.mem_of_getElem? hz,rfl⟩⟩
theorem qiv (l:List Int) (k:Nat) (c:List (List UInt8)) (hk:k≤1000000) (hl:l.length≤9223372036854775807) (h0:0 < c.length) (h1:c.length≤1000000) :
  qgV Tryz.prog E 42 T (stm l k) [strs c] (fun x cs'=>∃ y,x=.str y∧y∈c∧cs'=stm l (k+1)):=by
 unfold qgV
 refine qf4 mixed Tryz.func42 qf8 ?_
 simp only [a0,l0,OS.ao,zj,zo,zi,zn,zl,zm,zp,zd,zh,zk,qc2,qcQ,ZZ,WW,Ze,reduceCtorEq,zd,ze,zb,zf,za]
 simp only [strs,ZZ,WW,Ze,reduceCtorEq,zd,ze,zb,zf,za]
 generalize hes:c.map (fun x=>[PV.str x])=es
 have hln:es.length=c.length:=by rw [← hes];simp
 refine useS (qdB l k _ hk hl (by omega)) rfl rfl rfl zE_ ?_
 rintro x cs' ⟨y,rfl,rfl⟩
 obtain ⟨i,hi,hy⟩:=qh2 y es.length (by omega)
 rw [hy]
 obtain ⟨z,hz⟩:∃ z,c[i]?=some z:=⟨_,List.getElem?_eq_getElem (by omega)⟩
 have hg:es.getD i []=[PV.str z]:=by rw [← hes];exact qaH hz
 simp only [ZZ,WW,Ze,reduceCtorEq,zd,ze,zb,zf,za,hg]
 exact ⟨⟨by omega,by omega⟩,by omega,qe7 (stm l (k+1)) rfl ⟨_,rfl,List.mem_of_getElem? hz,rfl⟩⟩
end
end Go.Proofs.YtehfjlpenlffmaaGreatDoor
