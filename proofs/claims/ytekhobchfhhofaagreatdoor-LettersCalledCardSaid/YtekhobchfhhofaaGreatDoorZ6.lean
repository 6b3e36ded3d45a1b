import Derived.Test.YtekhobchfhhofaaGreatDoorZ4
import Derived.Test.YtekhobchfhhofaaGreatDoorProg
import Derived.KernelRfl
set_option linter.unusedVariables false
set_option linter.unusedSimpArgs false
set_option linter.defProp false
namespace Go.Proofs.YtekhobchfhhofaaGreatDoor
open Nat renaming reduceAdd→zd,reduceEqDiff→zb,reduceLT→zf,reduceLeDiff→za,reduceMul→ze
open List renaming drop_eq_nil_of_le→zU,getD→zy,getElem?_eq_getElem→zh,getElem?_eq_some_iff→zm,mem_of_getElem?→zl,range→zz,replicate→zL
theorem mixed:Tryz.prog.follows .mixedOrders=true:=by kernel_rfl
abbrev int (n:Int):PV:=.int .i64 n
def ints (l:List Int):PV:=.sl 1 (l.map fun x=>[.int .i64 x])
def strs (l:List (List UInt8)):PV:=.sl 1 (l.map fun x=>[.str x])
theorem qa5 {α β:Type} {f:α→β} {l:List α} {k:Nat} {x:α} {d:β} (h:l[k]?=some x):(l.map f).getD k d=f x:=by
 simp [zy,h]
theorem qam {n:Int} (h1:-9223372036854775808≤n) (h2:n≤9223372036854775807):I64 n:=⟨h1,h2⟩
theorem Zl0 {α:Type} {n:Nat}:([]:List α).take n=[]:=by simp
theorem Zl1 {α:Type} {n:Nat}:([]:List α).drop n=[]:=by simp
theorem Zl2 {α:Type} {l:List α}:l++[]=l:=by simp
theorem Zl3 {p:Prop}:(True∧p)=p:=by simp
theorem Zl4 {p:Prop}:(p∧True)=p:=by simp
theorem Zl5 {α:Type} {h:Decidable True} {a b:α}:(if True then a else b)=a:=by simp
theorem Zl6 {α:Type} {h:Decidable False} {a b:α}:(if False then a else b)=b:=by simp
theorem Zl7 {b:Bool}:(b && true)=b:=by simp
theorem Zl8 {b:Bool}:(true && b)=b:=rfl
theorem Zl9:(!true)=false:=rfl
theorem Zl10:(!false)=true:=rfl
theorem Zl11 {α:Type} {a b:α}:(bif true then a else b)=a:=rfl
theorem Zl12 {α:Type} {a b:α}:(bif false then a else b)=b:=rfl
theorem Zl13 {p:Prop}:(p→p)=True:=by simp
theorem Zl14 {p:Prop}:(p∧p)=p:=by simp
theorem Zl15 {p:Prop}:(True→p)=p:=by simp
theorem Zl16 {p:Prop}:(p→True)=True:=by simp
theorem Zl17 {n:Nat}:0+n=n:=by simp
theorem Zl18 {n:Nat}:n+0=n:=rfl
theorem Zl19 {b c:Bool}:(bif b then c else false)=(b && c):=by simp
theorem Zl20 {b c:Bool}:(bif b then true else c)=(b || c):=by simp
theorem Zl21 {n:Nat}:((n:Int)).toNat=n:=rfl
theorem Zl22:(false=true)=False:=by simp
theorem Zl23 {α:Type} {a b:α}:(a≠b)=¬ (a=b):=by simp
theorem Zl24:(¬ False)=True:=by simp
theorem Zl25:(¬ True)=False:=by simp
theorem Zl26 {a b:Nat}:(Key.l a=Key.l b)=(a=b):=by simp
theorem Zl27 {a b:Nat}:(Key.b a=Key.b b)=(a=b):=by simp
theorem Zl28 {α:Type} {a:α} {l:List α} {d:α}:(a :: l).getD 0 d=a:=rfl
theorem Zl29 {α:Type} {a:α} {l:List α} {d:α} {n:Nat}:(a :: l).getD (n+1) d=l.getD n d:=rfl
theorem Zl30 {α:Type} {d:α} {n:Nat}:([]:List α).getD n d=d:=rfl
theorem Zl31 {α:Type} {a:α} {l:List α}:(a :: l)[0]?=some a:=rfl
theorem Zl32 {α:Type} {a:α} {l:List α} {n:Nat}:(a :: l)[n+1]?=l[n]?:=rfl
theorem Zl33 {α:Type} {a b:α} {l:List α}:(a :: l).set 0 b=b :: l:=rfl
theorem Zl34 {α:Type} {a b:α} {l:List α} {n:Nat}:(a :: l).set (n+1) b=a :: l.set n b:=rfl
theorem Zl35 {α β:Type} {f:α→β} {a:α} {l:List α}:(a :: l).map f=f a :: l.map f:=rfl
theorem Zl36 {α β:Type} {f:α→β}:[].map f=[]:=rfl
theorem Zl37 {α:Type} {a:α} {l:List α}:(a :: l).length=l.length+1:=rfl
theorem Zl38 {α:Type}:([]:List α).length=0:=rfl
theorem Zl39 {α:Type} {p:α→Bool} {a:α} {l:List α}:(a :: l).all p=(p a && l.all p):=rfl
theorem Zl40 {α:Type} {p:α→Bool}:[].all p=true:=rfl
theorem Zl41 {α:Type} {a:α} {l:List α} {n:Nat}:(a :: l).take (n+1)=a :: l.take n:=rfl
theorem Zl42 {α:Type} {l:List α}:l.take 0=[]:=rfl
theorem Zl43 {α:Type} {a:α} {l:List α} {n:Nat}:(a :: l).drop (n+1)=l.drop n:=rfl
theorem Zl44 {α:Type} {l:List α}:l.drop 0=l:=rfl
theorem Zl45 {α β:Type} {f:α→β} {a:α}:(some a).map f=some (f a):=rfl
theorem Zl46 {α β:Type} {f:α→β}:(none:Option α).map f=none:=rfl
theorem Zl47 {α:Type} {a:α} {l m:List α}:(a :: l)++m=a :: (l++m):=rfl
theorem Zl48 {α:Type} {l:List α}:[]++l=l:=rfl
theorem Zl49 {α:Type} {a:α} {l:List α}:(a :: l).isEmpty=false:=rfl
theorem Zl50 {α:Type}:([]:List α).isEmpty=true:=rfl
abbrev qO (d:Nat) (o:IOp):IOper:=⟨some d,o,none⟩
abbrev qM (d s:Nat):IOper:=⟨some d,.mov (.t s),none⟩
abbrev oo:AV:=.any
abbrev oB (l:List AV):List AV:=oo::oo::l
abbrev oC (l:List AV):List AV:=oB (oB l)
abbrev oD (l:List AV):List AV:=oC (oC l)
abbrev oE (l:List AV):List AV:=oD (oD l)
abbrev oF (l:List AV):List AV:=oE (oE l)
abbrev oG (l:List AV):List AV:=oF (oF l)
abbrev cI (n:Int):Opd:=.c (.int .i64 n)
abbrev qL (d x:Nat):IOper:=qO d (.ld 1 false (.t x))
abbrev wF (d o x:Nat):IOper:=qO d (.fla o (.t x))
abbrev qS (s a b:Nat):IOper:=⟨none,.st s (.t a) (.t b),none⟩
abbrev qN (d x:Nat):IOper:=qO d (.len (.t x))
abbrev qT (d:Nat) (o:BinOp) (x y:Nat):IOper:=qO d (.bin o (.t x) (.t y))
abbrev qB (d:Nat) (o:BinOp) (x:Nat) (y:Opd):IOper:=qO d (.bin o (.t x) y)
abbrev qX (d z x y:Nat):IOper:=qO d (.ixa z (.t x) (.t y))
abbrev sR (l:List IOper) (b:IC):IC:=.seq (.reg l) b
theorem WW.{u}:(∀ {α:Sort u} (a b:α),(if True then a else b)=a)∧(∀ {α:Sort u} (a b:α),(if False then a else b)=b)∧(∀ {α:Sort u} [Nonempty α] (b:Prop),(α→b)↔b):=⟨fun _ _=>rfl,fun _ _=>rfl,fun _=>by simp⟩
def ZZ:=And.intro (And.intro (And.intro (And.intro (And.intro (And.intro (And.intro (And.intro @qwD (And.intro @qwF @qzb)) (And.intro @qza (And.intro @quD @qzc))) (And.intro (And.intro @qze (And.intro @qzd @qwE)) (And.intro @qwG (And.intro @qzf @qxr)))) (And.intro (And.intro (And.intro @qxq (And.intro @qxs @qwv)) (And.intro @qwu (And.intro @qww @qvw))) (And.intro (And.intro @qvv (And.intro @qvx @qz6)) (And.intro (And.intro @qz5 @qz7) (And.intro @qzL @qzM))))) (And.intro (And.intro (And.intro (And.intro @qzN (And.intro @qzO @qzJ)) (And.intro @qzK (And.intro @quN @qz4))) (And.intro (And.intro @qz3 (And.intro @qz2 @qw3)) (And.intro @qu2 (And.intro @quP @qwW)))) (And.intro (And.intro (And.intro @qwX (And.intro @qsJ @qyn)) (And.intro @qA0 (And.intro @qzV @qBn))) (And.intro (And.intro @qBl (And.intro @qBd @qAR)) (And.intro (And.intro @qAT @qA4) (And.intro @qAO @o_mx)))))) (And.intro (And.intro (And.intro (And.intro (And.intro @o_mn (And.intro @qA9 @qAN)) (And.intro @qAJ (And.intro @qA8 @qBb))) (And.intro (And.intro @qBa (And.intro @o_ld @qA6)) (And.intro @qA5 (And.intro @qBc @qBm)))) (And.intro (And.intro (And.intro @qBg (And.intro @qBf @qBo)) (And.intro @qBj (And.intro @qAU @qAS))) (And.intro (And.intro @qA3 (And.intro @qzX @qAI)) (And.intro (And.intro @qAX @qAW) (And.intro @qzZ @qA7))))) (And.intro (And.intro (And.intro (And.intro @qzW (And.intro @qBr @qBk)) (And.intro @o_st (And.intro @qAL @qAY))) (And.intro (And.intro @qBq (And.intro @qBi @qAP)) (And.intro (And.intro @qA1 @qBp) (And.intro @qAK @qA2)))) (And.intro (And.intro (And.intro @qAV (And.intro @qAM @qz0)) (And.intro @qzY (And.intro @qAQ @qBe))) (And.intro (And.intro @qAZ (And.intro @qBh @qBE)) (And.intro (And.intro @qAe @qBV) (And.intro @qBT @qBP))))))) (And.intro (And.intro (And.intro (And.intro (And.intro (And.intro @qBy (And.intro @qBA @qBG)) (And.intro @qBx (And.intro @g_mx @g_mn))) (And.intro (And.intro @qBL (And.intro @qBw @qBv)) (And.intro @qBK (And.intro @qBN @qBM)))) (And.intro (And.intro (And.intro @g_ld (And.intro @qBI @qBH)) (And.intro @qBO (And.intro @qBU @qBR))) (And.intro (And.intro @qBQ (And.intro @qBW @qBS)) (And.intro (And.intro @qBB @qBz) (And.intro @qBF @qAf))))) (And.intro (And.intro (And.intro (And.intro @qBu (And.intro @qBD @qBC)) (And.intro @qAg (And.intro @qBJ @qvJ))) (And.intro (And.intro @qtB (And.intro @qtA @qyp)) (And.intro (And.intro @qsi @qtD) (And.intro @qtC @qsj)))) (And.intro (And.intro (And.intro @qw0 (And.intro @qyl @qvH)) (And.intro @qzU (And.intro @qvI @qyo))) (And.intro (And.intro @qym (And.intro @qwY @qwZ)) (And.intro (And.intro @Zl13 @Zl28) (And.intro @Zl29 @Zl30)))))) (And.intro (And.intro (And.intro (And.intro (And.intro @Zl31 (And.intro @Zl32 @Zl33)) (And.intro @Zl34 (And.intro @Zl35 @Zl36))) (And.intro (And.intro @Zl37 (And.intro @Zl38 @Zl39)) (And.intro @Zl40 (And.intro @Zl41 @Zl42)))) (And.intro (And.intro (And.intro @Zl43 (And.intro @Zl44 @Zl0)) (And.intro @Zl1 (And.intro @Zl45 @Zl46))) (And.intro (And.intro @Zl3 (And.intro @Zl4 @Zl5)) (And.intro (And.intro @Zl6 @Zl7) (And.intro @Zl8 @Zl9))))) (And.intro (And.intro (And.intro (And.intro @Zl10 (And.intro @Zl11 @Zl12)) (And.intro @Zl26 (And.intro @Zl27 @Zl14))) (And.intro (And.intro @Zl15 (And.intro @Zl16 @Zl17)) (And.intro (And.intro @Zl18 @Zl2) (And.intro @Zl48 @Zl47)))) (And.intro (And.intro (And.intro @Zl19 (And.intro @Zl20 @qov)) (And.intro @qmG (And.intro @qsp @qso))) (And.intro (And.intro @Zl21 (And.intro @Zl49 @Zl50)) (And.intro (And.intro @Zl22 @Zl23) (And.intro @Zl24 @Zl25)))))))) (And.intro (And.intro (And.intro (And.intro (And.intro (And.intro (And.intro (And.intro @qw1 @quS) (And.intro @Za.eq_1 @Zb.eq_1)) (And.intro (And.intro @Zb.eq_2 @Zb.eq_3) (And.intro @Zc.eq_1 @Zc.eq_2))) (And.intro (And.intro (And.intro @Zd.eq_1 @Zd.eq_2) (And.intro @Zf.eq_1 @Zf.eq_2)) (And.intro (And.intro @Zf.eq_3 @Zf.eq_4) (And.intro @Zf.eq_5 @Zf.eq_6)))) (And.intro (And.intro (And.intro (And.intro @Zf.eq_7 @Zf.eq_8) (And.intro @Zf.eq_9 @Zf.eq_10)) (And.intro (And.intro @Zf.eq_11 @Zf.eq_12) (And.intro @Zf.eq_13 @Zf.eq_14))) (And.intro (And.intro (And.intro @Zf.eq_15 @Zf.eq_16) (And.intro @Zf.eq_17 @Zf.eq_18)) (And.intro (And.intro @Zf.eq_19 @Zf.eq_20) (And.intro @Zf.eq_21 (And.intro @Zf.eq_22 @Zf.eq_23)))))) (And.intro (And.intro (And.intro (And.intro (And.intro @Zf.eq_24 @Zf.eq_25) (And.intro @Zf.eq_26 @Zf.eq_27)) (And.intro (And.intro @Zf.eq_28 @Zf.eq_29) (And.intro @Zf.eq_30 @Zf.eq_31))) (And.intro (And.intro (And.intro @Zf.eq_32 @Zf.eq_33) (And.intro @Zf.eq_34 @Zf.eq_35)) (And.intro (And.intro @Zf.eq_36 @Zf.eq_37) (And.intro @Zg.eq_1 @Zg.eq_2)))) (And.intro (And.intro (And.intro (And.intro @Zh.eq_1 @Zi.eq_1) (And.intro @Zi.eq_2 @Zi.eq_3)) (And.intro (And.intro @rd.eq_1 @rd.eq_2) (And.intro @rd.eq_3 @rd.eq_4))) (And.intro (And.intro (And.intro @AV.un.eq_1 @AV.un.eq_2) (And.intro @AV.unA.eq_1 @AV.ad.eq_1)) (And.intro (And.intro @AV.ad.eq_2 @Zj.eq_1) (And.intro @Zk.eq_1 (And.intro @Zk.eq_2 @Zl.eq_1))))))) (And.intro (And.intro (And.intro (And.intro (And.intro (And.intro @Zl.eq_2 @Zl.eq_3) (And.intro @Zm.eq_1 @Zm.eq_2)) (And.intro (And.intro @Zn.eq_1 @Zo.eq_1) (And.intro @Zo.eq_2 @Zo.eq_3))) (And.intro (And.intro (And.intro @Zo.eq_4 @Zo.eq_5) (And.intro @Zp.eq_1 @Zp.eq_2)) (And.intro (And.intro @Zp.eq_3 @Zp.eq_4) (And.intro @Zp.eq_5 @Zp.eq_6)))) (And.intro (And.intro (And.intro (And.intro @Zp.eq_7 @Zp.eq_8) (And.intro @Zp.eq_9 @Zp.eq_10)) (And.intro (And.intro @Zp.eq_11 @Zp.eq_12) (And.intro @Zp.eq_13 @Zp.eq_14))) (And.intro (And.intro (And.intro @Zq.eq_1 @Zq.eq_2) (And.intro @Zq.eq_3 @Zr.eq_1)) (And.intro (And.intro @Zr.eq_2 @Zr.eq_3) (And.intro @Zr.eq_4 (And.intro @Zr.eq_5 @Zr.eq_6)))))) (And.intro (And.intro (And.intro (And.intro (And.intro @Zr.eq_7 @Zr.eq_8) (And.intro @Zs.eq_1 @Zs.eq_2)) (And.intro (And.intro @Zs.eq_3 @Zt.eq_1) (And.intro @Zu.eq_1 @Zu.eq_2))) (And.intro (And.intro (And.intro @Zu.eq_3 @Zu.eq_4) (And.intro @Zu.eq_5 @Zv.eq_1)) (And.intro (And.intro @Zv.eq_2 @Zw.eq_1) (And.intro @Zw.eq_2 (And.intro @Zw.eq_3 @Zw.eq_4))))) (And.intro (And.intro (And.intro (And.intro @Zx.eq_1 @Zx.eq_2) (And.intro @Zx.eq_3 @Zy.eq_1)) (And.intro (And.intro @Zy.eq_2 @Zy.eq_3) (And.intro @Zz.eq_1 @Zz.eq_2))) (And.intro (And.intro (And.intro @Zaa.eq_1 @Zab.eq_1) (And.intro @Zab.eq_2 @Zac.eq_1)) (And.intro (And.intro @Zac.eq_2 @Zad.eq_1) (And.intro @Zad.eq_2 (And.intro @Zae.eq_1 @Zae.eq_2)))))))) (And.intro (And.intro (And.intro (And.intro (And.intro (And.intro (And.intro @Zaf.eq_1 @Zaf.eq_2) (And.intro @Zag.eq_1 @Zag.eq_2)) (And.intro (And.intro @Zag.eq_3 @Zag.eq_4) (And.intro @Zag.eq_5 @Zah.eq_1))) (And.intro (And.intro (And.intro @Zah.eq_2 @Zah.eq_3) (And.intro @Zai.eq_1 @Zai.eq_2)) (And.intro (And.intro @Zaj.eq_1 @Zaj.eq_2) (And.intro @Zaj.eq_3 @Zak.eq_1)))) (And.intro (And.intro (And.intro (And.intro @Zak.eq_2 @Zak.eq_3) (And.intro @Zal.eq_1 @Zal.eq_2)) (And.intro (And.intro @Zal.eq_3 @Zal.eq_4) (And.intro @Zam.eq_1 @Zan.eq_1))) (And.intro (And.intro (And.intro @Zao.eq_1 @Zao.eq_2) (And.intro @wk1.eq_1 @wk1.eq_2)) (And.intro (And.intro @wk.eq_1 @wk.eq_2) (And.intro @wk.eq_3 (And.intro @Zap.eq_1 @Zap.eq_2)))))) (And.intro (And.intro (And.intro (And.intro (And.intro @Zap.eq_3 @Zaq.eq_1) (And.intro @Zar.eq_1 @Zas.eq_1)) (And.intro (And.intro @Zas.eq_2 @Zat.eq_1) (And.intro @Zat.eq_2 @Zau.eq_1))) (And.intro (And.intro (And.intro @Zau.eq_2 @Zav.eq_1) (And.intro @Zaw.eq_1 @Zaw.eq_2)) (And.intro (And.intro @AV.kill.eq_1 @AV.kill.eq_2) (And.intro @AV.kill.eq_3 @AV.kill.eq_4)))) (And.intro (And.intro (And.intro (And.intro @AV.kill.eq_5 @AV.kill.eq_6) (And.intro @AV.kill.eq_7 @AV.kill.eq_8)) (And.intro (And.intro @AV.kill.eq_9 @AV.kill.eq_10) (And.intro @AV.kill.eq_11 @AO.kill.eq_1))) (And.intro (And.intro (And.intro @AO.kill.eq_2 @AO.kill.eq_3) (And.intro @AO.kill.eq_4 @AO.kill.eq_5)) (And.intro (And.intro @AO.kill.eq_6 @AV.thaw.eq_1) (And.intro @AV.thaw.eq_2 (And.intro @AV.thaw.eq_3 @AV.thaw.eq_4))))))) (And.intro (And.intro (And.intro (And.intro (And.intro (And.intro @AV.thaw.eq_5 @AV.thaw.eq_6) (And.intro @AV.thaw.eq_7 @AV.thaw.eq_8)) (And.intro (And.intro @AV.thaw.eq_9 @AV.thaw.eq_10) (And.intro @AV.thaw.eq_11 @Zax.eq_1))) (And.intro (And.intro (And.intro @Zax.eq_2 @AO.thaw.eq_1) (And.intro @AO.thaw.eq_2 @AO.thaw.eq_3)) (And.intro (And.intro @AO.thaw.eq_4 @AO.thaw.eq_5) (And.intro @AO.thaw.eq_6 @Zay.eq_1)))) (And.intro (And.intro (And.intro (And.intro @Zay.eq_2 @Zay.eq_3) (And.intro @Zay.eq_4 @Zaz.eq_1)) (And.intro (And.intro @Zaz.eq_2 @Zba.eq_1) (And.intro @Zba.eq_2 @Zbb.eq_1))) (And.intro (And.intro (And.intro @Zbb.eq_2 @Zbc.eq_1) (And.intro @Zbc.eq_2 @Zbd.eq_1)) (And.intro (And.intro @Zbd.eq_2 @Zbe.eq_1) (And.intro @Zbe.eq_2 (And.intro @Zbf.eq_1 @Zbf.eq_2)))))) (And.intro (And.intro (And.intro (And.intro (And.intro @Zbf.eq_3 @Zbf.eq_4) (And.intro @Zbg.eq_1 @Zbg.eq_2)) (And.intro (And.intro @Zbh.eq_1 @Zbh.eq_2) (And.intro @Zbi.eq_1 @Zbi.eq_2))) (And.intro (And.intro (And.intro @Zbi.eq_3 @Zbi.eq_4) (And.intro @Zbi.eq_5 @Zbi.eq_6)) (And.intro (And.intro @Zbj.eq_1 @Zbj.eq_2) (And.intro @Zbj.eq_3 (And.intro @Zbj.eq_4 @Zbj.eq_5))))) (And.intro (And.intro (And.intro (And.intro @Zbj.eq_6 @Zbk.eq_1) (And.intro @Zbk.eq_2 @Zbk.eq_3)) (And.intro (And.intro @Zbk.eq_4 @Zbk.eq_5) (And.intro @Zbk.eq_6 @Zbl.eq_1))) (And.intro (And.intro (And.intro @Zbl.eq_2 @quU) (And.intro @quG @qzh)) (And.intro (And.intro @thaw_P.eq_1 @thaw_P.eq_2) (And.intro @caps_P.eq_1 (And.intro @caps_P.eq_2 @caps_P.eq_3)))))))))
theorem zE_ {p:Prop} (h:p:=by simp only [ZZ,WW,Ze,reduceCtorEq,Nat.reduceAdd,Nat.reduceMul,Nat.reduceLeDiff,Nat.reduceLT,Nat.reduceEqDiff]):p:=h
theorem zF_ {p:Prop} (h:p:=by (simp only [ZZ,WW,Ze,reduceCtorEq,Nat.reduceAdd,Nat.reduceMul,Nat.reduceLeDiff,Nat.reduceLT,Nat.reduceEqDiff];try trivial)):p:=h
theorem zG_ {p:Prop} (h:p:=by (simp only [ZZ,WW,Ze,reduceCtorEq,Nat.reduceAdd,Nat.reduceMul,Nat.reduceLeDiff,Nat.reduceLT,Nat.reduceEqDiff];trivial)):p:=h
theorem sc_ {p:Prop} (h:p:=by first|first|assumption|trivial|exact (fun hq=>by rw [hq];rfl)|exact qam (by omega) (by omega)|omega|(simp;done)|(simp;omega)|(intro hsc;have hs0:=hsc;(try have hsd:=of_decide_eq_true hsc);(try simp only [Bool.not_eq_true',Bool.or_eq_false_iff,Bool.and_eq_true,Bool.or_eq_true,decide_eq_true_eq,decide_eq_false_iff_not] at hsc);(repeat' (with_reducible apply And.intro))<;>(first|assumption|trivial|exact (fun hq=>by rw [hq];rfl)|exact qam (by omega) (by omega)|omega|(simp;done)|(simp;omega)|(intro hse;simp [hse,hs0];done)|(intro hse;simp only [hse,hs0,Bool.true_and,Bool.and_true,Bool.not_false,Bool.not_true,Bool.and_self];done)))):p:=h
theorem zS {p q:Prop} (h:q) (e:p=q:=by conv=>lhs;simp only [ZZ,WW,Ze,reduceCtorEq,Nat.reduceAdd,Nat.reduceMul,Nat.reduceLeDiff,Nat.reduceLT,Nat.reduceEqDiff]):p:=e ▸ h
theorem XX.{u}:(∀ {α:Type u} {β:Type u} (f:α→β) (a:α) (l:List α),(a::l).map f=f a::l.map f)∧(∀ {α:Type u} {β:Type u} (f:α→β),([]:List α).map f=[])∧(∀ {α:Type u} (a:α) (l:List α),(a::l).length=l.length+1)∧(∀ {α:Type u},([]:List α).length=0)∧(∀ {α:Type u} (a:α) (l m:List α),a::l++m=a::(l++m))∧(∀ {α:Type u} (l:List α),[]++l=l)∧(∀ {α:Type u} (n:Nat) (a:α),zL (n+1) a=a::zL n a)∧(∀ {α:Type u} (a:α),zL 0 a=[]):=⟨fun _ _ _=>rfl,fun _=>rfl,fun _ _=>rfl,rfl,fun _ _ _=>rfl,fun _=>rfl,fun _ _=>rfl,fun _=>rfl⟩
theorem zV {p q:Prop} (h:q) (e:p=q:=by conv=>lhs;simp only [a0,l0,OS.ao,XX,Nat.reduceSub,ZZ,WW,Ze,reduceCtorEq,Nat.reduceAdd,Nat.reduceMul,Nat.reduceLeDiff,Nat.reduceLT,Nat.reduceEqDiff]):p:=e ▸ h
abbrev jE (x:Nat):IC:=.cond (.t x) .skip (.exit 0)
abbrev jW (x:Nat) (a:IC):IC:=.cond (.t x) a .skip
abbrev jI (d:Nat) (n:Int):IOper:=qO d (.mov (cI n))
abbrev jC (d f:Nat) (l:List Opd):IOper:=qO d (.call f l)
abbrev qsv:IC:=(sR [qO 6 (.mov (.c (.bool false)))] (sR [qM 7 0,qM 8 1,qT 9 .geq 7 8,qM 10 9,⟨some 11,.mov (.t 0),(some (10,true))⟩,⟨some 12,.mov (.t 2),(some (10,true))⟩,⟨some 13,.bin .leq (.t 11) (.t 12),(some (10,true))⟩,qO 14 (.pick (.t 10) (.t 13) (.c (.bool false))),qM 6 14] .ret))
theorem qsD:chkF Tryz.prog Tryz.f166 qsv [.t 6] 15=true:=by kernel_rfl
abbrev qpG:IC:=(sR [jI 4 0] (.seq (sR [qM 5 0] (jW 5 (sR [qM 6 1,qM 4 6] .ret))) (sR [jI 4 0] .ret)))
theorem qpT:chkF Tryz.prog Tryz.f99 qpG [.t 4] 7=true:=by kernel_rfl
def qgC:IC:=(sR [qT 8 .lss 7 6] (.seq (jE 8) (.seq (.block 1 (sR [qX 9 1 5 7,qL 10 9,qM 4 10] (sR [qM 11 4,qB 12 .neq 11 (cI 0)] (jW 12 (sR [qM 13 4,qM 2 13] .ret))))) (.reg [qB 14 .add 7 (cI 1),qM 7 14]))))
abbrev qoe:IC:=(sR [jI 2 0] (.seq (sR [qM 5 0,qN 6 5,jI 7 0] (.block 0 (.loop qgC))) (sR [jI 2 0] .ret)))
theorem qor:chkF Tryz.prog Tryz.f38 qoe [.t 2] 15=true:=by kernel_rfl
abbrev qjv:IC:=(sR [jI 4 0] (.seq (sR [qM 5 1,qB 6 .lss 5 (cI 1)] (jW 6 (sR [jI 4 0] .ret))) (sR [qM 7 0,qM 8 1,qT 9 .rem 7 8,qM 0 9] (.seq (sR [qM 10 0,qB 11 .lss 10 (cI 0)] (jW 11 (.reg [qM 12 0,qM 13 1,qT 14 .add 12 13,qM 0 14]))) (.cut (sR [qM 15 0,qM 4 15] .ret))))))
theorem qjK:chkF Tryz.prog Tryz.f86 qjv [.t 4] 16=true:=by kernel_rfl
def qdb:IC:=(sR [jI 4 0] (sR [qM 7 0,qO 8 (.nck (.t 7)),wF 9 1 8,qL 10 9,qB 11 .add 10 (cI 1),qO 12 (.nck (.t 7)),wF 13 1 12,qS 1 13 11] (.seq (sR [qM 14 0,qO 15 (.nck (.t 14)),wF 16 0 15,qL 17 16,qN 18 17,qB 19 .eql 18 (cI 0)] (jW 19 (sR [qM 20 0,qO 21 (.nck (.t 20)),wF 22 1 21,qL 23 22,qB 24 .mul 23 (cI 7919),qM 25 1,jC 26 86 [.t 24,.t 25],qM 4 26] .ret))) (.seq (.drg [qM 27 0,qO 28 (.nck (.t 27)),wF 29 1 28,qL 30 29,qB 31 .sub 30 (cI 1),qM 32 0,qO 33 (.nck (.t 32)),wF 34 0 33,qL 35 34,qN 36 35,qT 37 .rem 31 36,qM 5 37]) (.seq (.drg [qM 38 0,qO 39 (.nck (.t 38)),wF 40 1 39,qL 41 40,qB 42 .sub 41 (cI 1),qM 43 0,qO 44 (.nck (.t 43)),wF 45 0 44,qL 46 45,qN 47 46,qT 48 .quo 42 47,qM 6 48]) (sR [qM 49 0,qO 50 (.nck (.t 49)),wF 51 0 50,qL 52 51,qM 53 5,qX 54 1 52 53,qL 55 54,jC 56 86 [.t 55,.c (.int .i64 1073741824)],qM 57 6,qM 58 5,qO 59 (.bin .add (cI 7919) (.t 58)),qT 60 .mul 57 59,qT 61 .add 56 60,qM 62 1,jC 63 86 [.t 61,.t 62],qM 4 63] .ret))))))
theorem qfV:chkF Tryz.prog Tryz.f27 qdb [.t 4] 64=true:=by kernel_rfl
abbrev qfG:IC:=(sR [qO 4 (.mov (.c (.bool false)))] (sR [qM 5 0,qM 6 1,jC 7 27 [.t 5,.t 6],qB 8 .eql 7 (cI 0),qM 4 8] .ret))
theorem qfW:chkF Tryz.prog Tryz.f28 qfG [.t 4] 9=true:=by kernel_rfl
abbrev qe9:IC:=(sR [jI 6 0] (.seq (sR [qM 7 2,qM 8 1,qT 9 .lss 7 8] (jW 9 (sR [qM 10 1,qM 6 10] .ret))) (sR [qM 11 1,qM 12 0,qM 13 2,qM 14 1,qT 15 .sub 13 14,qB 16 .add 15 (cI 1),jC 17 27 [.t 12,.t 16],qT 18 .add 11 17,qM 6 18] .ret)))
theorem qfh:chkF Tryz.prog Tryz.f31 qe9 [.t 6] 19=true:=by kernel_rfl
abbrev qfF:IC:=(sR [jI 4 0] (sR [qM 5 1,qM 6 0,qM 7 1,qN 8 7,jC 9 27 [.t 6,.t 8],qX 10 1 5 9,qL 11 10,qM 4 11] .ret))
theorem qfU:chkF Tryz.prog Tryz.f26 qfF [.t 4] 12=true:=by kernel_rfl
abbrev qeD:IC:=(sR [qO 4 (.mov (.c (.str [])))] (sR [qM 5 1,qM 6 0,qM 7 1,qN 8 7,jC 9 27 [.t 6,.t 8],qX 10 1 5 9,qL 11 10,qM 4 11] .ret))
theorem qeI:chkF Tryz.prog Tryz.f30 qeD [.t 4] 12=true:=by kernel_rfl
section
variable {E:Envt}
def inE (n lo hi:Int):Bool:=decide (lo≤n) && decide (n≤hi)
theorem qq8 (n lo hi:Int):PCall Tryz.prog E 166 [int n,int lo,int hi] (·=.bool (inE n lo hi)):=by
 refine qag mixed Tryz.func166 qsD ?_
 refine zV ?_
 rfl
def qap (b:Bool) (e:Int):Int:=if b=true then e else 0
theorem qbC (b:Bool) (e:Int):PCall Tryz.prog E 99 [.bool b,int e] (·=int (qap b e)):=by
 refine qag mixed Tryz.func99 qpT ?_
 refine zV ?_
 refine br ?_ ?_
 all_goals
  rintro rfl
  refine zS ?_
  rfl
def qaf:List Int→Int
 |[]=>0
 |e :: r=>if e=0 then qaf r else e
theorem qaK (l:List Int) (k:Nat) (x:Int) (h:l[k]?=some x):qaf (l.drop k)=if x=0 then qaf (l.drop (k+1)) else x:=by
 have hk:=(zm.1 h).1
 rw [List.drop_eq_getElem_cons hk,(zm.1 h).2]
 rfl
theorem qbv (l:List Int) (hl:l.length≤1000000):PCall Tryz.prog E 38 [ints l] (·=int (qaf l)):=by
 refine qag mixed Tryz.func38 qor ?_
 refine zV ?_
 simp only [ints,ZZ,WW,Ze,reduceCtorEq,zd,ze,za,zf,zb]
 generalize hes:l.map (fun x=>[PV.int IntKind.i64 x])=es
 have hln:es.length=l.length:=by rw [← hes];simp
 refine qae (fun n fr L=>∃ k:Nat,k≤l.length∧n=l.length - k∧qaf l=qaf (l.drop k)∧fr=(.p (.sl 1 es)::oo::oo::oo::oo::.p (.sl 1 es)::.p (int (es.length:Nat))::.p (int (k:Nat))::oC (oB (oo::[])))∧L=[]) l.length _ [] ?_ ?_ ⟨0,by omega,by omega,rfl,rfl,rfl⟩ ?_
 ·(simp only [ZZ,WW,Ze,reduceCtorEq,zd,ze,za,zf,zb];try trivial)
 ·simp only [ZZ,WW,Ze,reduceCtorEq,zd,ze,za,zf,zb]
 rintro n fr L ⟨k,hk,rfl,hf,rfl,rfl⟩
 simp only [qgC,ZZ,WW,Ze,reduceCtorEq,zd,ze,za,zf,zb]
 refine br ?_ ?_
 ·intro h
  have hlt:k < l.length:=by have:=of_decide_eq_true h;omega
  obtain ⟨x,hx⟩:∃ x,l[k]?=some x:=⟨_,zh hlt⟩
  have hg:es.getD k []=[PV.int .i64 x]:=by rw [← hes];exact qa5 hx
  have hd:=qaK l k x hx
  simp only [ZZ,WW,Ze,reduceCtorEq,zd,ze,za,zf,zb,hg]
  refine ⟨by omega,by omega,?_⟩
  refine br ?_ ?_
  ·intro h2
   refine zS ?_
   rw [hf,hd,if_neg (by simpa using h2)]
  ·intro h2
   refine zS ?_
   refine ⟨qam (by omega) (by omega),?_⟩
   refine qab (l.length - (k+1)) _ [] (by omega) ?_ ?_ ⟨k+1,by omega,rfl,by rw [hf,hd,if_pos (by simpa using h2)],rfl,rfl⟩
   ·(simp only [ZZ,WW,Ze,reduceCtorEq,zd,ze,za,zf,zb];try trivial)
   ·simp only [ZZ,WW,Ze,reduceCtorEq,zd,ze,za,zf,zb]
 ·intro h
  have hge:l.length≤k:=by have:=of_decide_eq_false h;omega
  refine zS ?_
  rw [hf,zU hge]
  rfl
def qeM (x n:Int):Int:=if n < 1 then 0 else x % n
theorem qgl (x n:Int):0≤qeM x n:=by
 unfold qeM
 split
 ·omega
 ·exact Int.emod_nonneg x (by omega)
theorem qgm (x n:Int) (h:1≤n):qeM x n < n:=by
 unfold qeM
 rw [if_neg (by omega)]
 exact Int.emod_lt_of_pos x (by omega)
theorem qsb (x n:Int) (hn:1≤n):x % n=if x.tmod n < 0 then x.tmod n+n else x.tmod n:=by
 have h2:=Int.emod_nonneg x (show n≠0 by omega)
 have h3:=Int.emod_lt_of_pos x (show 0 < n by omega)
 rw [Int.tmod_eq_emod]
 split<;>split at *<;>omega
theorem qxp (x n:Int) (hn:1≤n):-n < x.tmod n∧x.tmod n < n:=by
 have h2:=Int.emod_nonneg x (show n≠0 by omega)
 have h3:=Int.emod_lt_of_pos x (show 0 < n by omega)
 rw [Int.tmod_eq_emod]
 split<;>omega
theorem qoY (x n:Int) (h2:n≤9223372036854775807):PCall Tryz.prog E 86 [int x,int n] (·=int (qeM x n)):=by
 refine qag mixed Tryz.func86 qjK ?_
 refine zV ?_
 refine br ?_ ?_
 ·intro h
  refine zS ?_
  have:n < 1:=of_decide_eq_true h
  simp [qeM,this]
 ·intro h
  have hn:¬ n < 1:=of_decide_eq_false h
  have hb:=qxp x n (by omega)
  have hc:=qsb x n (by omega)
  refine zS ?_
  refine ⟨by omega,?_⟩
  refine qfl (fun fr L=>∃ y,y=x % n∧fr=(.p (int y)::oD (oC (oB (oo::[]))))∧L=[]) ?_ ?_ ?_
  ·intro h1
   have h1:=of_decide_eq_true h1
   refine zS ?_
   refine ⟨qam (by omega) (by omega),qbn (.p (int (x.tmod n+n))::oD (oC (oB (oo::[])))) [] ?_ ?_ ⟨_,by rw [hc,if_pos h1],rfl,rfl⟩⟩
   ·(simp only [ZZ,WW,Ze,reduceCtorEq,zd,ze,za,zf,zb];try trivial)
   ·simp only [ZZ,WW,Ze,reduceCtorEq,zd,ze,za,zf,zb]
  ·intro h1
   have h1:=of_decide_eq_false h1
   refine zS ?_
   refine qbn (.p (int (x.tmod n))::oD (oC (oB (oo::[])))) [] ?_ ?_ ⟨_,by rw [hc,if_neg h1],rfl,rfl⟩
   ·(simp only [ZZ,WW,Ze,reduceCtorEq,zd,ze,za,zf,zb];try trivial)
   ·simp only [ZZ,WW,Ze,reduceCtorEq,zd,ze,za,zf,zb]
  ·rintro fr L ⟨y,rfl,rfl,rfl⟩
   refine zS ?_
   simp [qeM,hn]
def stm (l:List Int) (k:Nat):List PV:=[ints l,int k]
abbrev T:TypeId:=25
theorem qdN (l:List Int) (k:Nat) (n:Int) (hk:k≤1000000) (hl:l.length≤9223372036854775807) (h2:n≤9223372036854775807) :
  qfY Tryz.prog E 27 T (stm l k) [int n] (fun x cs'=>∃ y,x=int (qeM y n)∧cs'=stm l (k+1)):=by
 unfold qfY
 refine qim mixed Tryz.func27 qfV ?_
 simp only [a0,l0,OS.ao,XX,Nat.reduceSub,stm,qdb,ZZ,WW,Ze,reduceCtorEq,zd,ze,za,zf,zb]
 refine ⟨qam (by omega) (by omega),?_⟩
 simp only [ints,ZZ,WW,Ze,reduceCtorEq,zd,ze,za,zf,zb]
 generalize hes:l.map (fun x=>[PV.int IntKind.i64 x])=es
 have hln:es.length=l.length:=by rw [← hes];simp
 have hc:[PV.sl 1 es,int ((k:Int)+1)]=[PV.sl 1 es,int ((k+1:Nat):Int)]:=by simp
 refine br ?_ ?_
 ·intro h
  refine zS ?_
  refine ⟨qam (by omega) (by omega),?_⟩
  refine use1 (qoY _ _ h2) rfl (.inl rfl) ?_
  refine zS ?_
  exact qd0 [PV.sl 1 es,int ((k:Int)+1)] rfl ⟨_,rfl,hc⟩
 ·intro h
  have hne:¬ ((es.length:Int)=0):=of_decide_eq_false h
  refine zS ?_
  refine drg0 ?_
  refine zS ?_
  refine ⟨qam (by omega) (by omega),⟨by omega,?_⟩⟩
  refine drg0 ?_
  have hkk:(k:Int)+1 - 1=k:=by omega
  have hrem:(k:Int).tmod (es.length:Int)=((k % es.length:Nat):Int):=by rw [Int.tmod_eq_emod_of_nonneg (by omega)];rfl
  have hquo:(k:Int).tdiv (es.length:Int)=((k / es.length:Nat):Int):=by rw [Int.tdiv_eq_ediv_of_nonneg (by omega)];rfl
  have hq1:k / es.length≤k:=Nat.div_le_self _ _
  have hr1:k % es.length≤k:=Nat.mod_le _ _
  have hr2:k % es.length < es.length:=Nat.mod_lt _ (by omega)
  obtain ⟨x,hx⟩:∃ x,l[k % es.length]?=some x:=⟨_,zh (by omega)⟩
  have hg:es.getD (k % es.length) []=[PV.int .i64 x]:=by rw [← hes];exact qa5 (by rw [hes];exact hx)
  simp only [ZZ,WW,Ze,reduceCtorEq,zd,ze,za,zf,zb,hkk,hrem,hquo,hg]
  generalize k / es.length=q at *
  generalize k % es.length=r at *
  refine ⟨qam (by omega) (by omega),⟨hne,qam (by omega) (by omega)⟩,⟨by omega,by omega⟩,by omega,?_⟩
  refine use1 (qoY _ _ (by decide)) rfl (.inl rfl) ?_
  have hb1:=qgl x 1073741824
  have hb2:=qgm x 1073741824 (by omega)
  have hm:(q:Int) * (7919+(r:Int))≤1000000 * 1007919:=Int.mul_le_mul (by omega) (by omega) (by omega) (by omega)
  have hm0:0≤(q:Int) * (7919+(r:Int)):=Int.mul_nonneg (by omega) (by omega)
  refine zS ?_
  refine ⟨qam (by omega) (by omega),qam (by omega) (by omega),qam (by omega) (by omega),?_⟩
  refine use1 (qoY _ _ h2) rfl (.inl rfl) ?_
  refine zS ?_
  exact qd0 [PV.sl 1 es,int ((k:Int)+1)] rfl ⟨_,rfl,hc⟩
theorem qhw (x:Int) (n:Nat) (hn:0 < n):∃ i:Nat,i < n∧qeM x n=i:=by
 have h0:=qgl x n
 have h1:=qgm x n (by omega)
 exact ⟨(qeM x n).toNat,by omega,by omega⟩
theorem qgs (l:List Int) (k:Nat) (n:Int) (hk:k≤1000000) (hl:l.length≤9223372036854775807) (h2:n≤9223372036854775807) :
  qfY Tryz.prog E 28 T (stm l k) [int n] (fun x cs'=>∃ b,x=.bool b∧cs'=stm l (k+1)):=by
 unfold qfY
 refine qim mixed Tryz.func28 qfW ?_
 refine zV ?_
 refine useS (qdN l k n hk hl h2) rfl rfl rfl zE_ ?_
 rintro x cs' ⟨y,rfl,rfl⟩
 refine zS ?_
 exact qd0 (stm l (k+1)) rfl ⟨_,rfl,rfl⟩
theorem qjU (l:List Int) (k:Nat) (lo hi:Int) (hk:k≤1000000) (hl:l.length≤9223372036854775807) (h1:-1000000000≤lo) (h2:lo≤hi) (h3:hi≤1000000000) :
  qfY Tryz.prog E 31 T (stm l k) [int lo,int hi] (fun x cs'=>∃ y,x=int y∧lo≤y∧y≤hi∧cs'=stm l (k+1)):=by
 unfold qfY
 refine qim mixed Tryz.func31 qfh ?_
 refine zV ?_
 refine br (fun h=>absurd (of_decide_eq_true h) (by omega)) ?_
 intro _
 refine zS ?_
 refine ⟨qam (by omega) (by omega),qam (by omega) (by omega),?_⟩
 refine useS (qdN l k _ hk hl (by omega)) rfl rfl rfl zE_ ?_
 rintro x cs' ⟨y,rfl,rfl⟩
 have b1:=qgl y (hi - lo+1)
 have b2:=qgm y (hi - lo+1) (by omega)
 refine zS ?_
 exact ⟨qam (by omega) (by omega),qd0 (stm l (k+1)) rfl ⟨_,rfl,by omega,by omega,rfl⟩⟩
theorem qoL (l:List Int) (k:Nat) (c:List Int) (hk:k≤1000000) (hl:l.length≤9223372036854775807) (h0:0 < c.length) (h1:c.length≤1000000) :
  qfY Tryz.prog E 26 T (stm l k) [ints c] (fun x cs'=>∃ y,x=int y∧y∈c∧cs'=stm l (k+1)):=by
 unfold qfY
 refine qim mixed Tryz.func26 qfU ?_
 refine zV ?_
 simp only [ints,ZZ,WW,Ze,reduceCtorEq,zd,ze,za,zf,zb]
 generalize hes:c.map (fun x=>[PV.int IntKind.i64 x])=es
 have hln:es.length=c.length:=by rw [← hes];simp
 refine useS (qdN l k _ hk hl (by omega)) rfl rfl rfl zE_ ?_
 rintro x cs' ⟨y,rfl,rfl⟩
 obtain ⟨i,hi,hy⟩:=qhw y es.length (by omega)
 rw [hy]
 obtain ⟨z,hz⟩:∃ z,c[i]?=some z:=⟨_,zh (by omega)⟩
 have hg:es.getD i []=[PV.int .i64 z]:=by rw [← hes];exact qa5 hz
 simp only [ZZ,WW,Ze,reduceCtorEq,zd,ze,za,zf,zb,hg]
 exact ⟨⟨by omega,by omega⟩,by omega,qd0 (stm l (k+1)) rfl ⟨_,rfl,zl hz,rfl⟩⟩
theorem qbW (l:List Int) (k:Nat) (c:List (List UInt8)) (hk:k≤1000000) (hl:l.length≤9223372036854775807) (h0:0 < c.length) (h1:c.length≤1000000) :
  qfY Tryz.prog E 30 T (stm l k) [strs c] (fun x cs'=>∃ y,x=.str y∧y∈c∧cs'=stm l (k+1)):=by
 unfold qfY
 refine qim mixed Tryz.func30 qeI ?_
 refine zV ?_
 simp only [strs,ZZ,WW,Ze,reduceCtorEq,zd,ze,za,zf,zb]
 generalize hes:c.map (fun x=>[PV.str x])=es
 have hln:es.length=c.length:=by rw [← hes];simp
 refine useS (qdN l k _ hk hl (by omega)) rfl rfl rfl zE_ ?_
 rintro x cs' ⟨y,rfl,rfl⟩
 obtain ⟨i,hi,hy⟩:=qhw y es.length (by omega)
 rw [hy]
 obtain ⟨z,hz⟩:∃ z,c[i]?=some z:=⟨_,zh (by omega)⟩
 have hg:es.getD i []=[PV.str z]:=by rw [← hes];exact qa5 hz
 simp only [ZZ,WW,Ze,reduceCtorEq,zd,ze,za,zf,zb,hg]
 exact ⟨⟨by omega,by omega⟩,by omega,qd0 (stm l (k+1)) rfl ⟨_,rfl,zl hz,rfl⟩⟩
end
def qcA:IC:=(sR [qT 25 .lss 24 23] (.seq (jE 25) (.seq (.block 1 (sR [qM 26 24,qX 27 2 22 24,qO 28 (.ld 2 true (.t 27)),qO 7 (.alc 111 [.int .i64 0,.int .i64 0]),qM 6 26,qS 2 7 28] (.seq (.drg [wF 29 0 7,qL 30 29,qB 31 .lss 30 (cI 0),qM 32 31,⟨some 33,.fla 0 (.t 7),(some (32,false))⟩,⟨some 34,.ld 1 false (.t 33),(some (32,false))⟩,⟨some 35,.fla 1 (.t 7),(some (32,false))⟩,⟨some 36,.ld 1 false (.t 35),(some (32,false))⟩,⟨some 37,.bin .geq (.t 34) (.t 36),(some (32,false))⟩,qO 38 (.pick (.t 32) (.c (.bool true)) (.t 37)),qM 39 38,⟨some 40,.fla 1 (.t 7),(some (39,false))⟩,⟨some 41,.ld 1 false (.t 40),(some (39,false))⟩,⟨some 42,.mov (.t 1),(some (39,false))⟩,⟨some 43,.bin .gtr (.t 41) (.t 42),(some (39,false))⟩,qO 44 (.pick (.t 39) (.c (.bool true)) (.t 43)),qO 45 (.pcall 0 99 [.t 44,.c (.int .i64 1)]),qM 46 6,qB 47 .gtr 46 (cI 0),qM 48 47,⟨some 49,.fla 0 (.t 7),(some (48,true))⟩,⟨some 50,.ld 1 false (.t 49),(some (48,true))⟩,⟨some 51,.mov (.t 0),(some (48,true))⟩,⟨some 52,.mov (.t 6),(some (48,true))⟩,⟨some 53,.mx (.t 52) (cI 1),(some (48,true))⟩,⟨some 54,.bin .sub (.t 53) (cI 1),(some (48,true))⟩,⟨some 55,.ixa 2 (.t 51) (.t 54),(some (48,true))⟩,⟨some 56,.fla 1 (.t 55),(some (48,true))⟩,⟨some 57,.ld 1 false (.t 56),(some (48,true))⟩,⟨some 58,.bin .leq (.t 50) (.t 57),(some (48,true))⟩,qO 59 (.pick (.t 48) (.t 58) (.c (.bool false))),qO 60 (.pcall 1 99 [.t 59,.c (.int .i64 7)]),qO 61 (.bsl 1 [.t 45,.t 60]),qO 62 (.pcall 2 38 [.t 61]),qM 8 62]) (sR [qM 63 8,qB 64 .neq 63 (cI 0)] (jW 64 (sR [qM 65 8,qM 4 65] .ret)))))) (.reg [qB 66 .add 24 (cI 1),qM 24 66]))))
abbrev qf6:IC:=(sR [jI 4 0] (.seq (sR [qM 9 1,jC 10 166 [.t 9,.c (.int .i64 0),.c (.int .i64 200000)],qO 11 (.not (.t 10)),jC 12 99 [.t 11,.c (.int .i64 1)],qM 13 0,qN 14 13,qB 15 .gtr 14 (cI 1000),jC 16 99 [.t 15,.c (.int .i64 2)],qO 17 (.bsl 1 [.t 12,.t 16]),jC 18 38 [.t 17],qM 5 18] (sR [qM 19 5,qB 20 .neq 19 (cI 0)] (jW 20 (sR [qM 21 5,qM 4 21] .ret)))) (.seq (sR [qM 22 0,qN 23 22,jI 24 0] (.block 0 (.loop qcA))) (sR [jI 4 0] .ret))))
theorem qge:chkF Tryz.prog Tryz.f200 qf6 [.t 4] 67=true:=by kernel_rfl
def qdJ:IC:=(sR [qT 9 .lss 8 7] (.seq (jE 9) (.seq (.block 1 (sR [qX 10 1 6 8,qL 11 10,qM 5 11] (sR [qM 12 5,qM 13 3,qT 14 .neq 12 13] (jW 14 (sR [qM 15 5,qM 2 15] .ret))))) (.reg [qB 16 .add 8 (cI 1),qM 8 16]))))
abbrev qiE:IC:=(sR [jI 2 0] (sR [jI 3 0] (.seq (sR [qM 6 0,qN 7 6,jI 8 0] (.block 0 (.loop qdJ))) (sR [qM 17 3,qM 2 17] .ret))))
theorem qiW:chkF Tryz.prog Tryz.f8 qiE [.t 2] 18=true:=by kernel_rfl
def spn (p:Int×Int):List PV:=[int p.1,int p.2]
def sps (l:List (Int×Int)):PV:=.sl 2 (l.map spn)
section
variable {E:Envt}
def badS (size:Int) (p:Int×Int):Bool:=decide (p.1 < 0) || decide (p.2≤p.1) || decide (size < p.2)
def qkg (size:Int) (l:List (Int×Int)) (k:Nat):Int:=
 if badS size (l.getD k (0,0))=true then 1 else if 0 < k∧(l.getD k (0,0)).1≤(l.getD (k - 1) (0,0)).2 then 7 else 0
def qg4 (l:List (Int×Int)) (size:Int):Int:=
 if size < 0∨200000 < size then 1 else if 1000 < l.length then 2 else qaf ((zz l.length).map (qkg size l))
theorem qpN (size:Int) (l:List (Int×Int)) {k:Nat} (h:k < l.length):((zz l.length).map (qkg size l))[k]?=some (qkg size l k):=by
 rw [List.getElem?_map,List.getElem?_range h];rfl
theorem qoW (l:List (Int×Int)) (size:Int) (hl:l.length≤1000000):PCall Tryz.prog E 200 [sps l,int size] (·=int (qg4 l size)):=by
 refine qag mixed Tryz.func200 qge ?_
 refine zV ?_
 simp only [sps,ZZ,WW,Ze,reduceCtorEq,zd,ze,za,zf,zb]
 generalize hes:l.map spn=es
 have hln:es.length=l.length:=by rw [← hes];simp
 refine use1 (qq8 _ _ _) rfl (.inl rfl) ?_
 refine zS ?_
 refine use1 (qbC _ _) rfl (.inl rfl) ?_
 refine zS ?_
 refine use1 (qbC _ _) rfl (.inl rfl) ?_
 refine zS ?_
 refine use1 (qbv [qap (!inE size 0 200000) 1,qap (decide (1000 < (es.length:Int))) 2] (by simp)) rfl (.inl rfl) ?_
 refine zS ?_
 have h0:qaf [qap (!inE size 0 200000) 1,qap (decide (1000 < (es.length:Int))) 2]=if size < 0∨200000 < size then 1 else if 1000 < l.length then 2 else 0:=by
  by_cases a1:size < 0∨200000 < size
  ·have:inE size 0 200000=false:=by simp [inE];omega
   simp [qaf,qap,this,a1]
  ·have:inE size 0 200000=true:=by simp [inE];omega
   by_cases a2:1000 < l.length
   ·have a3:(1000:Int) < es.length:=by omega
    simp [qaf,qap,this,a1,a2,a3]
   ·have a3:¬ (1000:Int) < es.length:=by omega
    simp [qaf,qap,this,a1,a2,a3]
 rw [h0]
 refine br ?_ ?_
 ·intro h
  refine zS ?_
  have h:¬ (if size < 0∨200000 < size then (1:Int) else if 1000 < l.length then 2 else 0)=0:=by simpa using h
  unfold qg4
  split at h
  ·simp [*]
  ·split at h
   ·simp [*]
   ·exact absurd rfl h
 intro h
 have h:(if size < 0∨200000 < size then (1:Int) else if 1000 < l.length then 2 else 0)=0:=by simpa using h
 have hsz:¬ (size < 0∨200000 < size):=by intro h';rw [if_pos h'] at h;cases h
 have hle:¬ 1000 < l.length:=by intro h';rw [if_neg hsz,if_pos h'] at h;cases h
 refine zS ?_
 have hF:qg4 l size=qaf ((zz l.length).map (qkg size l)):=by simp [qg4,hsz,hle]
 rw [hF]
 have hget:=fun {k:Nat} (h:k < l.length)=>qaK _ k _ (qpN size l h)
 generalize hG:(zz l.length).map (qkg size l)=G at *
 have hGl:G.length=l.length:=by rw [← hG];simp
 refine qae (fun n fr L=>∃ k:Nat,k≤l.length∧n=l.length - k∧qaf G=qaf (G.drop k)∧fr=(.p (.sl 2 es)::.p (int size)::oE (oC (.p (.sl 2 es)::.p (int (es.length:Nat))::.p (int (k:Nat))::oF (oD (oB [])))))∧L=[]) l.length _ [] zF_ zE_ ⟨0,by omega,by omega,rfl,rfl,rfl⟩ ?_
 rintro n fr L ⟨k,hk,rfl,hf,rfl,rfl⟩
 simp only [qcA,ZZ,WW,Ze,reduceCtorEq,zd,ze,za,zf,zb]
 refine br ?_ ?_
 ·intro h
  have hlt:k < l.length:=by have:=of_decide_eq_true h;omega
  obtain ⟨x,hx⟩:∃ x,l[k]?=some x:=⟨_,zh hlt⟩
  have hg:es.getD k []=spn x:=by rw [← hes];exact qa5 hx
  have hd:=hget hlt
  have hxd:l.getD k (0,0)=x:=by simp [zy,hx]
  obtain ⟨y,hy⟩:∃ y,l[k - 1]?=some y:=⟨_,zh (by omega)⟩
  have hg2:es.getD (k - 1) []=spn y:=by rw [← hes];exact qa5 hy
  have hyd:l.getD (k - 1) (0,0)=y:=by simp [zy,hy]
  have hn1:(max (k:Int) 1 - 1).toNat=k - 1:=by omega
  have he:qkg size l k=if (decide (x.1 < 0) || decide (x.2≤x.1) || decide (size < x.2))=true then 1 else if 0 < k∧x.1≤y.2 then 7 else 0:=by simp only [qkg,badS,hxd,hyd]
  have he2:qaf [qap (decide (x.1 < 0) || decide (x.2≤x.1) || decide (size < x.2)) 1,qap (decide (0 < (k:Int)) && decide (x.1≤y.2)) 7]=qkg size l k:=by
   rw [he]
   generalize (decide (x.1 < 0) || decide (x.2≤x.1) || decide (size < x.2))=b
   cases b with
   |true=>simp [qaf,qap]
   |false=>
    by_cases hq:0 < k∧x.1≤y.2
    ·simp [qaf,qap,hq]
    ·simp [qaf,qap,hq]
  simp only [ZZ,WW,Ze,reduceCtorEq,zd,ze,za,zf,zb,hg,spn]
  ((with_reducible and_intros)<;>try exact sc_)
  refine drg3 (x1:=int (qap (decide (x.1 < 0) || decide (x.2≤x.1) || decide (size < x.2)) 1)) (x2:=int (qap (decide (0 < (k:Int)) && decide (x.1≤y.2)) 7)) (x3:=int (qkg size l k)) ?_
  simp only [ZZ,WW,Ze,reduceCtorEq,zd,ze,za,zf,zb,hn1,hg2,spn]
  ((repeat' (with_reducible apply And.intro))<;>try (first|exact usep (qbC _ _) rfl (.inl rfl)|(rw [← he2];exact usep (qbv [_,_] (by simp)) rfl (.inl rfl))|(exact sc_)))
  refine br ?_ ?_
  ·intro h7
   have:¬ qkg size l k=0:=by simpa using h7
   refine zS ?_
   rw [hf,hd,if_neg this]
  intro h7
  have:qkg size l k=0:=by simpa using h7
  refine zS ?_
  refine ⟨qam (by omega) (by omega),?_⟩
  refine qab (l.length - (k+1)) _ [] (by omega) zF_ zE_ ⟨k+1,by omega,rfl,by rw [hf,hd,if_pos this],rfl,rfl⟩
 ·intro h
  have hge:l.length≤k:=by have:=of_decide_eq_false h;omega
  refine zS ?_
  rw [hf,zU (by omega)]
  rfl
theorem qwP (l:List Int) (hl:l.length≤1000000):PCall Tryz.prog E 8 [ints l] (·=int (qaf l)):=by
 refine qag mixed Tryz.func8 qiW ?_
 refine zV ?_
 simp only [ints,ZZ,WW,Ze,reduceCtorEq,zd,ze,za,zf,zb]
 generalize hes:l.map (fun x=>[PV.int IntKind.i64 x])=es
 have hln:es.length=l.length:=by rw [← hes];simp
 refine qae (fun n fr L=>∃ k:Nat,k≤l.length∧n=l.length - k∧qaf l=qaf (l.drop k)∧fr=(.p (.sl 1 es)::oo::oo::.p (int 0)::oo::oo::.p (.sl 1 es)::.p (int (es.length:Nat))::.p (int (k:Nat))::oD (oo::[]))∧L=[]) l.length _ [] zF_ zE_ ⟨0,by omega,by omega,rfl,rfl,rfl⟩ ?_
 rintro n fr L ⟨k,hk,rfl,hf,rfl,rfl⟩
 simp only [qdJ,ZZ,WW,Ze,reduceCtorEq,zd,ze,za,zf,zb]
 refine br ?_ ?_
 ·intro h
  have hlt:k < l.length:=by have:=of_decide_eq_true h;omega
  obtain ⟨x,hx⟩:∃ x,l[k]?=some x:=⟨_,zh hlt⟩
  have hg:es.getD k []=[PV.int .i64 x]:=by rw [← hes];exact qa5 hx
  have hd:=qaK l k x hx
  simp only [ZZ,WW,Ze,reduceCtorEq,zd,ze,za,zf,zb,hg]
  ((with_reducible and_intros)<;>try exact sc_)
  refine br ?_ ?_
  ·intro h2
   refine zS ?_
   rw [hf,hd,if_neg (by simpa using h2)]
  ·intro h2
   refine zS ?_
   refine ⟨qam (by omega) (by omega),?_⟩
   refine qab (l.length - (k+1)) _ [] (by omega) zF_ zE_ ⟨k+1,by omega,rfl,by rw [hf,hd,if_pos (by simpa using h2)],rfl,rfl⟩
 ·intro h
  have hge:l.length≤k:=by have:=of_decide_eq_false h;omega
  refine zS ?_
  rw [hf,zU hge]
  rfl
end
section
variable {E:Envt}
end
section
variable {E:Envt}
abbrev qhS:Nat:=111
end
def cov (l:List (Int×Int)) (j:Nat):Bool:=l.any fun s=>decide (s.1≤j) && decide ((j:Int) < s.2)
def bl (p:List Bool):List (List PV):=p.map fun b=>[.bool b]
theorem qwl {l:List (Int×Int)} {k:Nat} {x:Int×Int} (h:l[k]?=some x) (j:Nat):cov (l.take (k+1)) j=(cov (l.take k) j || (decide (x.1≤j) && decide ((j:Int) < x.2))):=by
 unfold cov
 rw [List.take_add_one,h]
 simp
section
variable {E:Envt}
def onAt (p:List Bool) (i:Nat):Bool:=p.getD i false
theorem qnl {l:List Int} (h:qaf l=0):∀ x∈l,x=0:=by
 induction l with
 |nil=>intro x hx;cases hx
 |cons a l ih=>
  intro x hx
  simp only [qaf] at h
  split at h
  ·rename_i ha
   rcases List.mem_cons.1 hx with rfl|hx
   ·exact ha
   ·exact ih h x hx
  ·rename_i ha;exact absurd h ha
theorem qtd {l:List (Int×Int)} {size:Int} (h:qg4 l size=0) {k:Nat} {x:Int×Int} (hx:l[k]?=some x):0≤x.1∧x.1 < x.2∧x.2≤size:=by
 unfold qg4 at h
 split at h
 ·cases h
 ·split at h
  ·cases h
  ·have hk:=(zm.1 hx).1
   have:=qnl h (qkg size l k) (zl (qpN size l hk))
   unfold qkg badS at this
   rw [show l.getD k (0,0)=x from by simp [zy,hx]] at this
   split at this
   ·cases this
   ·rename_i hb
    simp at hb
    omega
end
def cv (l:List (Int×Int)) (j:Int):Prop:=∃ s∈l,s.1≤j∧j < s.2
structure Right (l:List (Int×Int)):Prop where
 ok:∀ s∈l,s.1 < s.2
 ord:l.Pairwise (fun s t=>s.2 < t.1)
theorem Right.tail {s:Int×Int} {l:List (Int×Int)} (h:Right (s :: l)):Right l:=⟨fun t ht=>h.ok t (by simp [ht]),(List.pairwise_cons.1 h.ord).2⟩
theorem Right.head {s:Int×Int} {l:List (Int×Int)} (h:Right (s :: l)):s.1 < s.2∧∀ t∈l,s.2 < t.1:=⟨h.ok s (by simp),(List.pairwise_cons.1 h.ord).1⟩
structure FromInv (p:List Bool) (k:Nat) (out:List (Int×Int)):Prop where
 right:Right out
 bd:∀ s∈out,s.2≤k
 last:onAt p (k - 1)=true→0 < k→∃ (i:List (Int×Int)) (y:Int×Int),out=i++[y]∧y.2=(k:Int)
 gap:onAt p (k - 1)=false→0 < k→∀ s∈out,s.2 < k
 cov:∀ j,cv out j↔∃ i:Nat,j=i∧i < k∧onAt p i=true
structure InB (s:Int×Int) (o0 b:List (Int×Int)) (st:Int×List (Int×Int)):Prop where
 lo:s.1≤st.1
 src:st.1=s.1∨∃ x∈b,st.1=x.2
 right:Right st.2
 bd:∀ t∈st.2,t.2 < st.1
 hi:∀ t∈st.2,t∈o0∨t.2≤s.2
 fre:∀ j,st.1≤j→j < s.2→¬ cv b j
 cov:∀ j,cv st.2 j↔cv o0 j∨(s.1≤j∧j < st.1∧j < s.2∧¬ cv b j)
structure InA (b a out:List (Int×Int)):Prop where
 right:Right out
 bd:∀ t∈out,∃ s∈a,t.2≤s.2
 cov:∀ j,cv out j↔cv a j∧¬ cv b j
theorem qtc {l:List (Int×Int)} {size:Int} (h:qg4 l size=0):∀ s∈l,0≤s.1∧s.1 < s.2∧s.2≤size:=by
 intro s hs
 obtain ⟨i,hi⟩:=List.getElem?_of_mem hs
 exact qtd h hi
structure InP (l out:List (Int×Int)):Prop where
 right:Right out
 src:∀ t∈out,(∃ u∈l,t.1=u.1)∧∃ u∈l,t.2=u.2
 cov:∀ j,cv out j↔cv l j
section
variable {E:Envt}
end
section
variable {E:Envt}
end
end Go.Proofs.YtekhobchfhhofaaGreatDoor
