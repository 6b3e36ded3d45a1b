import Derived.Test.YtmpdnpljdcincaaGreatDoorZ4
import Derived.Test.YtmpdnpljdcincaaGreatDoorProg
import Derived.KernelRfl
set_option linter.unusedVariables false
set_option linter.unusedSimpArgs false
set_option linter.defProp false
namespace Go.Proofs.YtmpdnpljdcincaaGreatDoor
open Nat renaming reduceAdd→zd,reduceEqDiff→za,reduceLT→zf,reduceLeDiff→zb,reduceMul→ze,reduceSub→zx
open List renaming cons_append→zp,getElem?_eq_getElem→zh,getElem?_eq_some_iff→zt,length_cons→zj,length_nil→zr,map_cons→zo,map_nil→zw,mem_of_getElem?→zy,nil_append→zq,replicate_succ→zi,replicate_zero→zm
theorem mixed:Tryz.prog.follows .mixedOrders=true:=by kernel_rfl
abbrev int (n:Int):PV:=.int .i64 n
def ints (l:List Int):PV:=.sl 1 (l.map fun x=>[.int .i64 x])
def strs (l:List (List UInt8)):PV:=.sl 1 (l.map fun x=>[.str x])
theorem qaC {α β:Type} {f:α→β} {l:List α} {k:Nat} {x:α} {d:β} (h:l[k]?=some x):(l.map f).getD k d=f x:=by
 simp [List.getD,h]
theorem qat {n:Int} (h1:-9223372036854775808≤n) (h2:n≤9223372036854775807):I64 n:=⟨h1,h2⟩
theorem Zl0 {α:Type} {n:Nat}:([]:List α).take n=[]:=by simp
theorem Zl1 {α:Type} {n:Nat}:([]:List α).drop n=[]:=by simp
theorem Zl2 {α:Type} {l:List α}:l++[]=l:=by simp
theorem Zl3 {p:Prop}:(True∧p)=p:=by simp
theorem Zl4 {p:Prop}:(p∧True)=p:=by simp
theorem Zl5 {α:Type} {h:Decidable True} {a b:α}:(if True then a else b)=a:=by simp
theorem Zl6 {α:Type} {h:Decidable False} {a b:α}:(if False then a else b)=b:=by simp
theorem Zl7 {b:Bool}:(b && true)=b:=by simp
theorem Zl8 {b:Bool}:(true && b)=b:=rfl
theorem Zl9:(!true)=false:=rfl
theorem Zl10:(!false)=true:=rfl
theorem Zl11 {α:Type} {a b:α}:(bif true then a else b)=a:=rfl
theorem Zl12 {α:Type} {a b:α}:(bif false then a else b)=b:=rfl
theorem Zl13 {p:Prop}:(p→p)=True:=by simp
theorem Zl14 {p:Prop}:(p∧p)=p:=by simp
theorem Zl15 {p:Prop}:(True→p)=p:=by simp
theorem Zl16 {p:Prop}:(p→True)=True:=by simp
theorem Zl17 {n:Nat}:0+n=n:=by simp
theorem Zl18 {n:Nat}:n+0=n:=rfl
theorem Zl19 {b c:Bool}:(bif b then c else false)=(b && c):=by simp
theorem Zl20 {b c:Bool}:(bif b then true else c)=(b || c):=by simp
theorem Zl21 {n:Nat}:((n:Int)).toNat=n:=rfl
theorem Zl22:(false=true)=False:=by simp
theorem Zl23 {α:Type} {a b:α}:(a≠b)=¬ (a=b):=by simp
theorem Zl24:(¬ False)=True:=by simp
theorem Zl25:(¬ True)=False:=by simp
theorem Zl26 {a b:Nat}:(Key.l a=Key.l b)=(a=b):=by simp
theorem Zl27 {a b:Nat}:(Key.b a=Key.b b)=(a=b):=by simp
theorem Zl28 {α:Type} {a:α} {l:List α} {d:α}:(a :: l).getD 0 d=a:=rfl
theorem Zl29 {α:Type} {a:α} {l:List α} {d:α} {n:Nat}:(a :: l).getD (n+1) d=l.getD n d:=rfl
theorem Zl30 {α:Type} {d:α} {n:Nat}:([]:List α).getD n d=d:=rfl
theorem Zl31 {α:Type} {a:α} {l:List α}:(a :: l)[0]?=some a:=rfl
theorem Zl32 {α:Type} {a:α} {l:List α} {n:Nat}:(a :: l)[n+1]?=l[n]?:=rfl
theorem Zl33 {α:Type} {a b:α} {l:List α}:(a :: l).set 0 b=b :: l:=rfl
theorem Zl34 {α:Type} {a b:α} {l:List α} {n:Nat}:(a :: l).set (n+1) b=a :: l.set n b:=rfl
theorem Zl35 {α β:Type} {f:α→β} {a:α} {l:List α}:(a :: l).map f=f a :: l.map f:=rfl
theorem Zl36 {α β:Type} {f:α→β}:[].map f=[]:=rfl
theorem Zl37 {α:Type} {a:α} {l:List α}:(a :: l).length=l.length+1:=rfl
theorem Zl38 {α:Type}:([]:List α).length=0:=rfl
theorem Zl39 {α:Type} {p:α→Bool} {a:α} {l:List α}:(a :: l).all p=(p a && l.all p):=rfl
theorem Zl40 {α:Type} {p:α→Bool}:[].all p=true:=rfl
theorem Zl41 {α:Type} {a:α} {l:List α} {n:Nat}:(a :: l).take (n+1)=a :: l.take n:=rfl
theorem Zl42 {α:Type} {l:List α}:l.take 0=[]:=rfl
theorem Zl43 {α:Type} {a:α} {l:List α} {n:Nat}:(a :: l).drop (n+1)=l.drop n:=rfl
theorem Zl44 {α:Type} {l:List α}:l.drop 0=l:=rfl
theorem Zl45 {α β:Type} {f:α→β} {a:α}:(some a).map f=some (f a):=rfl
theorem Zl46 {α β:Type} {f:α→β}:(none:Option α).map f=none:=rfl
theorem Zl47 {α:Type} {a:α} {l m:List α}:(a :: l)++m=a :: (l++m):=rfl
theorem Zl48 {α:Type} {l:List α}:[]++l=l:=rfl
theorem Zl49 {α:Type} {a:α} {l:List α}:(a :: l).isEmpty=false:=rfl
theorem Zl50 {α:Type}:([]:List α).isEmpty=true:=rfl
abbrev qO (d:Nat) (o:IOp):IOper:=⟨some d,o,none⟩
abbrev qM (d s:Nat):IOper:=⟨some d,.mov (.t s),none⟩
abbrev oo:AV:=.any
abbrev oB (l:List AV):List AV:=oo::oo::l
abbrev oC (l:List AV):List AV:=oB (oB l)
abbrev oD (l:List AV):List AV:=oC (oC l)
abbrev oE (l:List AV):List AV:=oD (oD l)
abbrev oF (l:List AV):List AV:=oE (oE l)
abbrev oG (l:List AV):List AV:=oF (oF l)
abbrev cI (n:Int):Opd:=.c (.int .i64 n)
abbrev qL (d x:Nat):IOper:=qO d (.ld 1 false (.t x))
abbrev qF (d o x:Nat):IOper:=qO d (.fla o (.t x))
abbrev qS (s a b:Nat):IOper:=⟨none,.st s (.t a) (.t b),none⟩
abbrev qN (d x:Nat):IOper:=qO d (.len (.t x))
abbrev qT (d:Nat) (o:BinOp) (x y:Nat):IOper:=qO d (.bin o (.t x) (.t y))
abbrev qB (d:Nat) (o:BinOp) (x:Nat) (y:Opd):IOper:=qO d (.bin o (.t x) y)
abbrev qX (d z x y:Nat):IOper:=qO d (.ixa z (.t x) (.t y))
abbrev sR (l:List IOper) (b:IC):IC:=.seq (.reg l) b
theorem WW.{u}:(∀ {α:Sort u} (a b:α),(if True then a else b)=a)∧(∀ {α:Sort u} (a b:α),(if False then a else b)=b)∧(∀ {α:Sort u} [Nonempty α] (b:Prop),(α→b)↔b):=⟨fun _ _=>rfl,fun _ _=>rfl,fun _=>by simp⟩
def ZZ:=And.intro (And.intro (And.intro (And.intro (And.intro (And.intro (And.intro (And.intro @qxD (And.intro @qxF @qAn)) (And.intro @qAm (And.intro @qvL @qAo))) (And.intro (And.intro @qAq (And.intro @qAp @qxE)) (And.intro @qxG (And.intro @qAr @qys)))) (And.intro (And.intro (And.intro @qyr (And.intro @qyt @qxy)) (And.intro @qxx (And.intro @qxz @qwx))) (And.intro (And.intro @qww (And.intro @qwy @qBl)) (And.intro (And.intro @qBk @qBm) (And.intro @qAU @qAV))))) (And.intro (And.intro (And.intro (And.intro @qAW (And.intro @qAX @qAS)) (And.intro @qAT (And.intro @qvS @qBj))) (And.intro (And.intro @qBi (And.intro @qBh @qx0)) (And.intro @qv8 (And.intro @qvY @qxU)))) (And.intro (And.intro (And.intro @qxV (And.intro @qtG @qzy)) (And.intro @qCj (And.intro @qBa @qCG))) (And.intro (And.intro @qCE (And.intro @qCw @qCa)) (And.intro (And.intro @qCc @qCn) (And.intro @qB7 @o_mx)))))) (And.intro (And.intro (And.intro (And.intro (And.intro @o_mn (And.intro @qCs @qB6)) (And.intro @qB2 (And.intro @qCr @qCu))) (And.intro (And.intro @qCt (And.intro @o_ld @qCp)) (And.intro @qCo (And.intro @qCv @qCF)))) (And.intro (And.intro (And.intro @qCz (And.intro @qCy @qCH)) (And.intro @qCC (And.intro @qCd @qCb))) (And.intro (And.intro @qCm (And.intro @qBc @qB1)) (And.intro (And.intro @qCg @qCf) (And.intro @qBe @qCq))))) (And.intro (And.intro (And.intro (And.intro @qBb (And.intro @qCK @qCD)) (And.intro @o_st (And.intro @qB4 @qCh))) (And.intro (And.intro @qCJ (And.intro @qCB @qB8)) (And.intro (And.intro @qCk @qCI) (And.intro @qB3 @qCl)))) (And.intro (And.intro (And.intro @qCe (And.intro @qB5 @qBf)) (And.intro @qBd (And.intro @qB9 @qCx))) (And.intro (And.intro @qCi (And.intro @qCA @qCZ)) (And.intro (And.intro @qBw @qDg) (And.intro @qDe @qDa))))))) (And.intro (And.intro (And.intro (And.intro (And.intro (And.intro @qCT (And.intro @qCV @qC1)) (And.intro @qCS (And.intro @g_mx @g_mn))) (And.intro (And.intro @qC6 (And.intro @qCR @qCQ)) (And.intro @qC5 (And.intro @qC8 @qC7)))) (And.intro (And.intro (And.intro @g_ld (And.intro @qC3 @qC2)) (And.intro @qC9 (And.intro @qDf @qDc))) (And.intro (And.intro @qDb (And.intro @qDh @qDd)) (And.intro (And.intro @qCW @qCU) (And.intro @qC0 @qBx))))) (And.intro (And.intro (And.intro (And.intro @qCP (And.intro @qCY @qCX)) (And.intro @qBy (And.intro @qC4 @qwN))) (And.intro (And.intro @quN (And.intro @quM @qzA)) (And.intro (And.intro @qtn @quP) (And.intro @quO @qto)))) (And.intro (And.intro (And.intro @qxY (And.intro @qzw @qwL)) (And.intro @qA9 (And.intro @qwM @qzz))) (And.intro (And.intro @qzx (And.intro @qxW @qxX)) (And.intro (And.intro @Zl13 @Zl28) (And.intro @Zl29 @Zl30)))))) (And.intro (And.intro (And.intro (And.intro (And.intro @Zl31 (And.intro @Zl32 @Zl33)) (And.intro @Zl34 (And.intro @Zl35 @Zl36))) (And.intro (And.intro @Zl37 (And.intro @Zl38 @Zl39)) (And.intro @Zl40 (And.intro @Zl41 @Zl42)))) (And.intro (And.intro (And.intro @Zl43 (And.intro @Zl44 @Zl0)) (And.intro @Zl1 (And.intro @Zl45 @Zl46))) (And.intro (And.intro @Zl3 (And.intro @Zl4 @Zl5)) (And.intro (And.intro @Zl6 @Zl7) (And.intro @Zl8 @Zl9))))) (And.intro (And.intro (And.intro (And.intro @Zl10 (And.intro @Zl11 @Zl12)) (And.intro @Zl26 (And.intro @Zl27 @Zl14))) (And.intro (And.intro @Zl15 (And.intro @Zl16 @Zl17)) (And.intro (And.intro @Zl18 @Zl2) (And.intro @Zl48 @Zl47)))) (And.intro (And.intro (And.intro @Zl19 (And.intro @Zl20 @qpb)) (And.intro @qnv (And.intro @qnU @qts))) (And.intro (And.intro @Zl21 (And.intro @Zl49 @Zl50)) (And.intro (And.intro @Zl22 @Zl23) (And.intro @Zl24 @Zl25)))))))) (And.intro (And.intro (And.intro (And.intro (And.intro (And.intro (And.intro (And.intro @qxZ @qv2) (And.intro @Za.eq_1 @Zb.eq_1)) (And.intro (And.intro @Zb.eq_2 @Zb.eq_3) (And.intro @Zc.eq_1 @Zc.eq_2))) (And.intro (And.intro (And.intro @Zd.eq_1 @Zd.eq_2) (And.intro @Zf.eq_1 @Zf.eq_2)) (And.intro (And.intro @Zf.eq_3 @Zf.eq_4) (And.intro @Zf.eq_5 @Zf.eq_6)))) (And.intro (And.intro (And.intro (And.intro @Zf.eq_7 @Zf.eq_8) (And.intro @Zf.eq_9 @Zf.eq_10)) (And.intro (And.intro @Zf.eq_11 @Zf.eq_12) (And.intro @Zf.eq_13 @Zf.eq_14))) (And.intro (And.intro (And.intro @Zf.eq_15 @Zf.eq_16) (And.intro @Zf.eq_17 @Zf.eq_18)) (And.intro (And.intro @Zf.eq_19 @Zf.eq_20) (And.intro @Zf.eq_21 (And.intro @Zf.eq_22 @Zf.eq_23)))))) (And.intro (And.intro (And.intro (And.intro (And.intro @Zf.eq_24 @Zf.eq_25) (And.intro @Zf.eq_26 @Zf.eq_27)) (And.intro (And.intro @Zf.eq_28 @Zf.eq_29) (And.intro @Zf.eq_30 @Zf.eq_31))) (And.intro (And.intro (And.intro @Zf.eq_32 @Zf.eq_33) (And.intro @Zf.eq_34 @Zf.eq_35)) (And.intro (And.intro @Zf.eq_36 @Zf.eq_37) (And.intro @Zg.eq_1 @Zg.eq_2)))) (And.intro (And.intro (And.intro (And.intro @Zh.eq_1 @Zi.eq_1) (And.intro @Zi.eq_2 @Zi.eq_3)) (And.intro (And.intro @rd.eq_1 @rd.eq_2) (And.intro @rd.eq_3 @rd.eq_4))) (And.intro (And.intro (And.intro @AV.un.eq_1 @AV.un.eq_2) (And.intro @AV.unA.eq_1 @AV.ad.eq_1)) (And.intro (And.intro @AV.ad.eq_2 @Zj.eq_1) (And.intro @Zk.eq_1 (And.intro @Zk.eq_2 @Zl.eq_1))))))) (And.intro (And.intro (And.intro (And.intro (And.intro (And.intro @Zl.eq_2 @Zl.eq_3) (And.intro @Zm.eq_1 @Zm.eq_2)) (And.intro (And.intro @Zn.eq_1 @Zo.eq_1) (And.intro @Zo.eq_2 @Zo.eq_3))) (And.intro (And.intro (And.intro @Zo.eq_4 @Zo.eq_5) (And.intro @Zp.eq_1 @Zp.eq_2)) (And.intro (And.intro @Zp.eq_3 @Zp.eq_4) (And.intro @Zp.eq_5 @Zp.eq_6)))) (And.intro (And.intro (And.intro (And.intro @Zp.eq_7 @Zp.eq_8) (And.intro @Zp.eq_9 @Zp.eq_10)) (And.intro (And.intro @Zp.eq_11 @Zp.eq_12) (And.intro @Zp.eq_13 @Zp.eq_14))) (And.intro (And.intro (And.intro @Zq.eq_1 @Zq.eq_2) (And.intro @Zq.eq_3 @Zr.eq_1)) (And.intro (And.intro @Zr.eq_2 @Zr.eq_3) (And.intro @Zr.eq_4 (And.intro @Zr.eq_5 @Zr.eq_6)))))) (And.intro (And.intro (And.intro (And.intro (And.intro @Zr.eq_7 @Zr.eq_8) (And.intro @Zs.eq_1 @Zs.eq_2)) (And.intro (And.intro @Zs.eq_3 @Zt.eq_1) (And.intro @Zu.eq_1 @Zu.eq_2))) (And.intro (And.intro (And.intro @Zu.eq_3 @Zu.eq_4) (And.intro @Zu.eq_5 @Zv.eq_1)) (And.intro (And.intro @Zv.eq_2 @Zw.eq_1) (And.intro @Zw.eq_2 (And.intro @Zw.eq_3 @Zw.eq_4))))) (And.intro (And.intro (And.intro (And.intro @Zx.eq_1 @Zx.eq_2) (And.intro @Zx.eq_3 @Zy.eq_1)) (And.intro (And.intro @Zy.eq_2 @Zy.eq_3) (And.intro @Zz.eq_1 @Zz.eq_2))) (And.intro (And.intro (And.intro @Zaa.eq_1 @Zab.eq_1) (And.intro @Zab.eq_2 @Zac.eq_1)) (And.intro (And.intro @Zac.eq_2 @Zad.eq_1) (And.intro @Zad.eq_2 (And.intro @Zae.eq_1 @Zae.eq_2)))))))) (And.intro (And.intro (And.intro (And.intro (And.intro (And.intro (And.intro @Zaf.eq_1 @Zaf.eq_2) (And.intro @Zag.eq_1 @Zag.eq_2)) (And.intro (And.intro @Zag.eq_3 @Zag.eq_4) (And.intro @Zag.eq_5 @Zah.eq_1))) (And.intro (And.intro (And.intro @Zah.eq_2 @Zah.eq_3) (And.intro @Zai.eq_1 @Zai.eq_2)) (And.intro (And.intro @Zaj.eq_1 @Zaj.eq_2) (And.intro @Zaj.eq_3 @Zak.eq_1)))) (And.intro (And.intro (And.intro (And.intro @Zak.eq_2 @Zak.eq_3) (And.intro @Zal.eq_1 @Zal.eq_2)) (And.intro (And.intro @Zal.eq_3 @Zal.eq_4) (And.intro @Zam.eq_1 @Zan.eq_1))) (And.intro (And.intro (And.intro @Zao.eq_1 @Zao.eq_2) (And.intro @wk1.eq_1 @wk1.eq_2)) (And.intro (And.intro @wk.eq_1 @wk.eq_2) (And.intro @wk.eq_3 (And.intro @Zap.eq_1 @Zap.eq_2)))))) (And.intro (And.intro (And.intro (And.intro (And.intro @Zap.eq_3 @Zaq.eq_1) (And.intro @Zar.eq_1 @Zas.eq_1)) (And.intro (And.intro @Zas.eq_2 @Zat.eq_1) (And.intro @Zat.eq_2 @Zau.eq_1))) (And.intro (And.intro (And.intro @Zau.eq_2 @Zav.eq_1) (And.intro @Zaw.eq_1 @Zaw.eq_2)) (And.intro (And.intro @AV.kill.eq_1 @AV.kill.eq_2) (And.intro @AV.kill.eq_3 @AV.kill.eq_4)))) (And.intro (And.intro (And.intro (And.intro @AV.kill.eq_5 @AV.kill.eq_6) (And.intro @AV.kill.eq_7 @AV.kill.eq_8)) (And.intro (And.intro @AV.kill.eq_9 @AV.kill.eq_10) (And.intro @AV.kill.eq_11 @AO.kill.eq_1))) (And.intro (And.intro (And.intro @AO.kill.eq_2 @AO.kill.eq_3) (And.intro @AO.kill.eq_4 @AO.kill.eq_5)) (And.intro (And.intro @AO.kill.eq_6 @AV.thaw.eq_1) (And.intro @AV.thaw.eq_2 (And.intro @AV.thaw.eq_3 @AV.thaw.eq_4))))))) (And.intro (And.intro (And.intro (And.intro (And.intro (And.intro @AV.thaw.eq_5 @AV.thaw.eq_6) (And.intro @AV.thaw.eq_7 @AV.thaw.eq_8)) (And.intro (And.intro @AV.thaw.eq_9 @AV.thaw.eq_10) (And.intro @AV.thaw.eq_11 @Zax.eq_1))) (And.intro (And.intro (And.intro @Zax.eq_2 @AO.thaw.eq_1) (And.intro @AO.thaw.eq_2 @AO.thaw.eq_3)) (And.intro (And.intro @AO.thaw.eq_4 @AO.thaw.eq_5) (And.intro @AO.thaw.eq_6 @Zay.eq_1)))) (And.intro (And.intro (And.intro (And.intro @Zay.eq_2 @Zay.eq_3) (And.intro @Zay.eq_4 @Zaz.eq_1)) (And.intro (And.intro @Zaz.eq_2 @Zba.eq_1) (And.intro @Zba.eq_2 @Zbb.eq_1))) (And.intro (And.intro (And.intro @Zbb.eq_2 @Zbc.eq_1) (And.intro @Zbc.eq_2 @Zbd.eq_1)) (And.intro (And.intro @Zbd.eq_2 @Zbe.eq_1) (And.intro @Zbe.eq_2 (And.intro @Zbf.eq_1 @Zbf.eq_2)))))) (And.intro (And.intro (And.intro (And.intro (And.intro @Zbf.eq_3 @Zbf.eq_4) (And.intro @Zbg.eq_1 @Zbg.eq_2)) (And.intro (And.intro @Zbh.eq_1 @Zbh.eq_2) (And.intro @Zbi.eq_1 @Zbi.eq_2))) (And.intro (And.intro (And.intro @Zbi.eq_3 @Zbi.eq_4) (And.intro @Zbi.eq_5 @Zbi.eq_6)) (And.intro (And.intro @Zbj.eq_1 @Zbj.eq_2) (And.intro @Zbj.eq_3 (And.intro @Zbj.eq_4 @Zbj.eq_5))))) (And.intro (And.intro (And.intro (And.intro @Zbj.eq_6 @Zbk.eq_1) (And.intro @Zbk.eq_2 @Zbk.eq_3)) (And.intro (And.intro @Zbk.eq_4 @Zbk.eq_5) (And.intro @Zbk.eq_6 @Zbl.eq_1))) (And.intro (And.intro (And.intro @Zbl.eq_2 @qv5) (And.intro @qvP @qAs)) (And.intro (And.intro @thaw_P.eq_1 @thaw_P.eq_2) (And.intro @caps_P.eq_1 (And.intro @caps_P.eq_2 @caps_P.eq_3)))))))))
theorem zE_ {p:Prop} (h:p:=by simp only [ZZ,WW,Ze,reduceCtorEq,Nat.reduceAdd,Nat.reduceMul,Nat.reduceLeDiff,Nat.reduceLT,Nat.reduceEqDiff]):p:=h
theorem zF_ {p:Prop} (h:p:=by (simp only [ZZ,WW,Ze,reduceCtorEq,Nat.reduceAdd,Nat.reduceMul,Nat.reduceLeDiff,Nat.reduceLT,Nat.reduceEqDiff];try trivial)):p:=h
theorem zG_ {p:Prop} (h:p:=by (simp only [ZZ,WW,Ze,reduceCtorEq,Nat.reduceAdd,Nat.reduceMul,Nat.reduceLeDiff,Nat.reduceLT,Nat.reduceEqDiff];trivial)):p:=h
theorem sc_ {p:Prop} (h:p:=by first|first|assumption|trivial|exact (fun hq=>by rw [hq];rfl)|exact qat (by omega) (by omega)|omega|(simp;done)|(simp;omega)|(intro hsc;have hs0:=hsc;(try have hsd:=of_decide_eq_true hsc);(try simp only [Bool.not_eq_true',Bool.or_eq_false_iff,Bool.and_eq_true,Bool.or_eq_true,decide_eq_true_eq,decide_eq_false_iff_not] at hsc);(repeat' (with_reducible apply And.intro))<;>(first|assumption|trivial|exact (fun hq=>by rw [hq];rfl)|exact qat (by omega) (by omega)|omega|(simp;done)|(simp;omega)|(intro hse;simp [hse,hs0];done)|(intro hse;simp only [hse,hs0,Bool.true_and,Bool.and_true,Bool.not_false,Bool.not_true,Bool.and_self];done)))):p:=h
theorem zS {p q:Prop} (h:q) (e:p=q:=by conv=>lhs;simp only [ZZ,WW,Ze,reduceCtorEq,Nat.reduceAdd,Nat.reduceMul,Nat.reduceLeDiff,Nat.reduceLT,Nat.reduceEqDiff]):p:=e ▸ h
def qnY:IC:=(sR [qO 6 (.mov (.c (.bool false)))] (sR [qM 7 0,qM 8 1,qT 9 .geq 7 8,qM 10 9,⟨some 11,.mov (.t 0),(some (10,true))⟩,⟨some 12,.mov (.t 2),(some (10,true))⟩,⟨some 13,.bin .leq (.t 11) (.t 12),(some (10,true))⟩,qO 14 (.pick (.t 10) (.t 13) (.c (.bool false))),qM 6 14] .ret))
def qnK:List IRes:=[.t 6]
theorem qtC:chkF Tryz.prog Tryz.f71 qnY qnK 15=true:=by kernel_rfl
def qlS:IC:=(sR [qO 4 (.mov (cI 0))] (.seq (sR [qM 5 0] (.cond (.t 5) (sR [qM 6 1,qM 4 6] .ret) .skip)) (sR [qO 4 (.mov (cI 0))] .ret)))
def qlP:List IRes:=[.t 4]
theorem qqC:chkF Tryz.prog Tryz.f51 qlS qlP 7=true:=by kernel_rfl
def qiW:IC:=(sR [qT 8 .lss 7 6] (.seq (.cond (.t 8) .skip (.exit 0)) (.seq (.block 1 (sR [qX 9 1 5 7,qL 10 9,qM 4 10] (sR [qM 11 4,qB 12 .neq 11 (cI 0)] (.cond (.t 12) (sR [qM 13 4,qM 2 13] .ret) .skip)))) (.reg [qB 14 .add 7 (cI 1),qM 7 14]))))
def qk0:IC:=(sR [qO 2 (.mov (cI 0))] (.seq (sR [qM 5 0,qN 6 5,qO 7 (.mov (cI 0))] (.block 0 (.loop qiW))) (sR [qO 2 (.mov (cI 0))] .ret)))
def qkQ:List IRes:=[.t 2]
theorem qo6:chkF Tryz.prog Tryz.f49 qk0 qkQ 15=true:=by kernel_rfl
def qht:IC:=(sR [qO 4 (.mov (cI 0))] (.seq (sR [qM 5 1,qB 6 .lss 5 (cI 1)] (.cond (.t 6) (sR [qO 4 (.mov (cI 0))] .ret) .skip)) (sR [qM 7 0,qM 8 1,qT 9 .rem 7 8,qM 0 9] (.seq (sR [qM 10 0,qB 11 .lss 10 (cI 0)] (.cond (.t 11) (.reg [qM 12 0,qM 13 1,qT 14 .add 12 13,qM 0 14]) .skip)) (.cut (sR [qM 15 0,qM 4 15] .ret))))))
def qhg:List IRes:=[.t 4]
theorem qli:chkF Tryz.prog Tryz.f88 qht qhg 16=true:=by kernel_rfl
def qce:IC:=(sR [qO 4 (.mov (cI 0))] (sR [qM 7 0,qO 8 (.nck (.t 7)),qF 9 1 8,qL 10 9,qB 11 .add 10 (cI 1),qO 12 (.nck (.t 7)),qF 13 1 12,qS 1 13 11] (.seq (sR [qM 14 0,qO 15 (.nck (.t 14)),qF 16 0 15,qL 17 16,qN 18 17,qB 19 .eql 18 (cI 0)] (.cond (.t 19) (sR [qM 20 0,qO 21 (.nck (.t 20)),qF 22 1 21,qL 23 22,qB 24 .mul 23 (cI 7919),qM 25 1,qO 26 (.call 88 [.t 24,.t 25]),qM 4 26] .ret) .skip)) (.seq (.drg [qM 27 0,qO 28 (.nck (.t 27)),qF 29 1 28,qL 30 29,qB 31 .sub 30 (cI 1),qM 32 0,qO 33 (.nck (.t 32)),qF 34 0 33,qL 35 34,qN 36 35,qT 37 .rem 31 36,qM 5 37]) (.seq (.drg [qM 38 0,qO 39 (.nck (.t 38)),qF 40 1 39,qL 41 40,qB 42 .sub 41 (cI 1),qM 43 0,qO 44 (.nck (.t 43)),qF 45 0 44,qL 46 45,qN 47 46,qT 48 .quo 42 47,qM 6 48]) (sR [qM 49 0,qO 50 (.nck (.t 49)),qF 51 0 50,qL 52 51,qM 53 5,qX 54 1 52 53,qL 55 54,qO 56 (.call 88 [.t 55,.c (.int .i64 1073741824)]),qM 57 6,qM 58 5,qO 59 (.bin .add (cI 7919) (.t 58)),qT 60 .mul 57 59,qT 61 .add 56 60,qM 62 1,qO 63 (.call 88 [.t 61,.t 62]),qM 4 63] .ret))))))
def qb4:List IRes:=[.t 4]
theorem qd7:chkF Tryz.prog Tryz.f29 qce qb4 64=true:=by kernel_rfl
def qd5:IC:=(sR [qO 4 (.mov (.c (.bool false)))] (sR [qM 5 0,qM 6 1,qO 7 (.call 29 [.t 5,.t 6]),qB 8 .eql 7 (cI 0),qM 4 8] .ret))
def qdW:List IRes:=[.t 4]
theorem qib:chkF Tryz.prog Tryz.f43 qd5 qdW 9=true:=by kernel_rfl
def qdJ:IC:=(sR [qO 6 (.mov (cI 0))] (.seq (sR [qM 7 2,qM 8 1,qT 9 .lss 7 8] (.cond (.t 9) (sR [qM 10 1,qM 6 10] .ret) .skip)) (sR [qM 11 1,qM 12 0,qM 13 2,qM 14 1,qT 15 .sub 13 14,qB 16 .add 15 (cI 1),qO 17 (.call 29 [.t 12,.t 16]),qT 18 .add 11 17,qM 6 18] .ret)))
def qdv:List IRes:=[.t 6]
theorem qhF:chkF Tryz.prog Tryz.f97 qdJ qdv 19=true:=by kernel_rfl
def qcd:IC:=(sR [qO 4 (.mov (cI 0))] (sR [qM 5 1,qM 6 0,qM 7 1,qN 8 7,qO 9 (.call 29 [.t 6,.t 8]),qX 10 1 5 9,qL 11 10,qM 4 11] .ret))
def qb3:List IRes:=[.t 4]
theorem qd6:chkF Tryz.prog Tryz.f19 qcd qb3 12=true:=by kernel_rfl
def qdj:IC:=(sR [qO 4 (.mov (.c (.str [])))] (sR [qM 5 1,qM 6 0,qM 7 1,qN 8 7,qO 9 (.call 29 [.t 6,.t 8]),qX 10 1 5 9,qL 11 10,qM 4 11] .ret))
def qc7:List IRes:=[.t 4]
theorem qg4:chkF Tryz.prog Tryz.f45 qdj qc7 12=true:=by kernel_rfl
section
variable {E:Envt}
def inE (n lo hi:Int):Bool:=decide (lo≤n) && decide (n≤hi)
theorem qr0 (n lo hi:Int):PCall Tryz.prog E 71 [int n,int lo,int hi] (·=.bool (inE n lo hi)):=by
 refine qag mixed Tryz.func71 qtC ?_
 simp only [a0,l0,OS.ao,zo,zw,zj,zr,zp,zq,zx,zd,zi,zm,qnY,qnK,ZZ,WW,Ze,reduceCtorEq,zd,ze,zb,zf,za]
 rfl
def qak (b:Bool) (e:Int):Int:=if b=true then e else 0
theorem qeI (b:Bool) (e:Int):PCall Tryz.prog E 51 [.bool b,int e] (·=int (qak b e)):=by
 refine qag mixed Tryz.func51 qqC ?_
 simp only [a0,l0,OS.ao,zo,zw,zj,zr,zp,zq,zx,zd,zi,zm,qlS,qlP,ZZ,WW,Ze,reduceCtorEq,zd,ze,zb,zf,za]
 refine br ?_ ?_
 all_goals
  rintro rfl
  refine zS ?_
  rfl
def qah:List Int→Int
 |[]=>0
 |e :: r=>if e=0 then qah r else e
theorem qbw (l:List Int) (k:Nat) (x:Int) (h:l[k]?=some x):qah (l.drop k)=if x=0 then qah (l.drop (k+1)) else x:=by
 have hk:=(zt.1 h).1
 rw [List.drop_eq_getElem_cons hk,(zt.1 h).2]
 rfl
theorem qiC (l:List Int) (hl:l.length≤1000000):PCall Tryz.prog E 49 [ints l] (·=int (qah l)):=by
 refine qag mixed Tryz.func49 qo6 ?_
 simp only [a0,l0,OS.ao,zo,zw,zj,zr,zp,zq,zx,zd,zi,zm,qk0,qkQ,ZZ,WW,Ze,reduceCtorEq,zd,ze,zb,zf,za]
 simp only [ints,ZZ,WW,Ze,reduceCtorEq,zd,ze,zb,zf,za]
 generalize hes:l.map (fun x=>[PV.int IntKind.i64 x])=es
 have hln:es.length=l.length:=by rw [← hes];simp
 refine qad (fun n fr L=>∃ k:Nat,k≤l.length∧n=l.length - k∧qah l=qah (l.drop k)∧fr=(.p (.sl 1 es)::oo::oo::oo::oo::.p (.sl 1 es)::.p (int (es.length:Nat))::.p (int (k:Nat))::oC (oB (oo::[])))∧L=[]) l.length _ [] ?_ ?_ ⟨0,by omega,by omega,rfl,rfl,rfl⟩ ?_
 ·(simp only [ZZ,WW,Ze,reduceCtorEq,zd,ze,zb,zf,za];try trivial)
 ·simp only [ZZ,WW,Ze,reduceCtorEq,zd,ze,zb,zf,za]
 rintro n fr L ⟨k,hk,rfl,hf,rfl,rfl⟩
 simp only [qiW,ZZ,WW,Ze,reduceCtorEq,zd,ze,zb,zf,za]
 refine br ?_ ?_
 ·intro h
  have hlt:k < l.length:=by have:=of_decide_eq_true h;omega
  obtain ⟨x,hx⟩:∃ x,l[k]?=some x:=⟨_,zh hlt⟩
  have hg:es.getD k []=[PV.int .i64 x]:=by rw [← hes];exact qaC hx
  have hd:=qbw l k x hx
  simp only [ZZ,WW,Ze,reduceCtorEq,zd,ze,zb,zf,za,hg]
  refine ⟨by omega,by omega,?_⟩
  refine br ?_ ?_
  ·intro h2
   refine zS ?_
   rw [hf,hd,if_neg (by simpa using h2)]
  ·intro h2
   refine zS ?_
   refine ⟨qat (by omega) (by omega),?_⟩
   refine qac (l.length - (k+1)) _ [] (by omega) ?_ ?_ ⟨k+1,by omega,rfl,by rw [hf,hd,if_pos (by simpa using h2)],rfl,rfl⟩
   ·(simp only [ZZ,WW,Ze,reduceCtorEq,zd,ze,zb,zf,za];try trivial)
   ·simp only [ZZ,WW,Ze,reduceCtorEq,zd,ze,zb,zf,za]
 ·intro h
  have hge:l.length≤k:=by have:=of_decide_eq_false h;omega
  refine zS ?_
  rw [hf,List.drop_eq_nil_of_le hge]
  rfl
def qeL (x n:Int):Int:=if n < 1 then 0 else x % n
theorem qfl (x n:Int):0≤qeL x n:=by
 unfold qeL
 split
 ·omega
 ·exact Int.emod_nonneg x (by omega)
theorem qfm (x n:Int) (h:1≤n):qeL x n < n:=by
 unfold qeL
 rw [if_neg (by omega)]
 exact Int.emod_lt_of_pos x (by omega)
theorem qtb (x n:Int) (hn:1≤n):x % n=if x.tmod n < 0 then x.tmod n+n else x.tmod n:=by
 have h2:=Int.emod_nonneg x (show n≠0 by omega)
 have h3:=Int.emod_lt_of_pos x (show 0 < n by omega)
 rw [Int.tmod_eq_emod]
 split<;>split at *<;>omega
theorem qyq (x n:Int) (hn:1≤n):-n < x.tmod n∧x.tmod n < n:=by
 have h2:=Int.emod_nonneg x (show n≠0 by omega)
 have h3:=Int.emod_lt_of_pos x (show 0 < n by omega)
 rw [Int.tmod_eq_emod]
 split<;>omega
theorem qj1 (x n:Int) (h2:n≤9223372036854775807):PCall Tryz.prog E 88 [int x,int n] (·=int (qeL x n)):=by
 refine qag mixed Tryz.func88 qli ?_
 simp only [a0,l0,OS.ao,zo,zw,zj,zr,zp,zq,zx,zd,zi,zm,qht,qhg,ZZ,WW,Ze,reduceCtorEq,zd,ze,zb,zf,za]
 refine br ?_ ?_
 ·intro h
  refine zS ?_
  have:n < 1:=of_decide_eq_true h
  simp [qeL,this]
 ·intro h
  have hn:¬ n < 1:=of_decide_eq_false h
  have hb:=qyq x n (by omega)
  have hc:=qtb x n (by omega)
  refine zS ?_
  refine ⟨by omega,?_⟩
  refine qpa (fun fr L=>∃ y,y=x % n∧fr=(.p (int y)::oD (oC (oB (oo::[]))))∧L=[]) ?_ ?_ ?_
  ·intro h1
   have h1:=of_decide_eq_true h1
   refine zS ?_
   refine ⟨qat (by omega) (by omega),qkH (.p (int (x.tmod n+n))::oD (oC (oB (oo::[])))) [] ?_ ?_ ⟨_,by rw [hc,if_pos h1],rfl,rfl⟩⟩
   ·(simp only [ZZ,WW,Ze,reduceCtorEq,zd,ze,zb,zf,za];try trivial)
   ·simp only [ZZ,WW,Ze,reduceCtorEq,zd,ze,zb,zf,za]
  ·intro h1
   have h1:=of_decide_eq_false h1
   refine zS ?_
   refine qkH (.p (int (x.tmod n))::oD (oC (oB (oo::[])))) [] ?_ ?_ ⟨_,by rw [hc,if_neg h1],rfl,rfl⟩
   ·(simp only [ZZ,WW,Ze,reduceCtorEq,zd,ze,zb,zf,za];try trivial)
   ·simp only [ZZ,WW,Ze,reduceCtorEq,zd,ze,zb,zf,za]
  ·rintro fr L ⟨y,rfl,rfl,rfl⟩
   refine zS ?_
   simp [qeL,hn]
def stm (l:List Int) (k:Nat):List PV:=[ints l,int k]
abbrev T:TypeId:=25
theorem qdT (l:List Int) (k:Nat) (n:Int) (hk:k≤1000000) (hl:l.length≤9223372036854775807) (h2:n≤9223372036854775807) :
  qfU Tryz.prog E 29 T (stm l k) [int n] (fun x cs'=>∃ y,x=int (qeL y n)∧cs'=stm l (k+1)):=by
 unfold qfU
 refine qfP mixed Tryz.func29 qd7 ?_
 simp only [a0,l0,OS.ao,zo,zw,zj,zr,zp,zq,zx,zd,zi,zm,stm,qce,qb4,ZZ,WW,Ze,reduceCtorEq,zd,ze,zb,zf,za]
 refine ⟨qat (by omega) (by omega),?_⟩
 simp only [ints,ZZ,WW,Ze,reduceCtorEq,zd,ze,zb,zf,za]
 generalize hes:l.map (fun x=>[PV.int IntKind.i64 x])=es
 have hln:es.length=l.length:=by rw [← hes];simp
 have hc:[PV.sl 1 es,int ((k:Int)+1)]=[PV.sl 1 es,int ((k+1:Nat):Int)]:=by simp
 refine br ?_ ?_
 ·intro h
  refine zS ?_
  refine ⟨qat (by omega) (by omega),?_⟩
  refine use1 (qj1 _ _ h2) rfl (.inl rfl) ?_
  refine zS ?_
  exact qeF [PV.sl 1 es,int ((k:Int)+1)] rfl ⟨_,rfl,hc⟩
 ·intro h
  have hne:¬ ((es.length:Int)=0):=of_decide_eq_false h
  refine zS ?_
  refine drg0 ?_
  refine zS ?_
  refine ⟨qat (by omega) (by omega),⟨by omega,?_⟩⟩
  refine drg0 ?_
  have hkk:(k:Int)+1 - 1=k:=by omega
  have hrem:(k:Int).tmod (es.length:Int)=((k % es.length:Nat):Int):=by rw [Int.tmod_eq_emod_of_nonneg (by omega)];rfl
  have hquo:(k:Int).tdiv (es.length:Int)=((k / es.length:Nat):Int):=by rw [Int.tdiv_eq_ediv_of_nonneg (by omega)];rfl
  have hq1:k / es.length≤k:=Nat.div_le_self _ _
  have hr1:k % es.length≤k:=Nat.mod_le _ _
  have hr2:k % es.length < es.length:=Nat.mod_lt _ (by omega)
  obtain ⟨x,hx⟩:∃ x,l[k % es.length]?=some x:=⟨_,zh (by omega)⟩
  have hg:es.getD (k % es.length) []=[PV.int .i64 x]:=by rw [← hes];exact qaC (by rw [hes];exact hx)
  simp only [ZZ,WW,Ze,reduceCtorEq,zd,ze,zb,zf,za,hkk,hrem,hquo,hg]
  generalize k / es.length=q at *
  generalize k % es.length=r at *
  refine ⟨qat (by omega) (by omega),⟨hne,qat (by omega) (by omega)⟩,⟨by omega,by omega⟩,by omega,?_⟩
  refine use1 (qj1 _ _ (by decide)) rfl (.inl rfl) ?_
  have hb1:=qfl x 1073741824
  have hb2:=qfm x 1073741824 (by omega)
  have hm:(q:Int) * (7919+(r:Int))≤1000000 * 1007919:=Int.mul_le_mul (by omega) (by omega) (by omega) (by omega)
  have hm0:0≤(q:Int) * (7919+(r:Int)):=Int.mul_nonneg (by omega) (by omega)
  refine zS ?_
  refine ⟨qat (by omega) (by omega),qat (by omega) (by omega),qat (by omega) (by omega),?_⟩
  refine use1 (qj1 _ _ h2) rfl (.inl rfl) ?_
  refine zS ?_
  exact qeF [PV.sl 1 es,int ((k:Int)+1)] rfl ⟨_,rfl,hc⟩
theorem qjF (x:Int) (n:Nat) (hn:0 < n):∃ i:Nat,i < n∧qeL x n=i:=by
 have h0:=qfl x n
 have h1:=qfm x n (by omega)
 exact ⟨(qeL x n).toNat,by omega,by omega⟩
theorem qhI (l:List Int) (k:Nat) (n:Int) (hk:k≤1000000) (hl:l.length≤9223372036854775807) (h2:n≤9223372036854775807) :
  qfU Tryz.prog E 43 T (stm l k) [int n] (fun x cs'=>∃ b,x=.bool b∧cs'=stm l (k+1)):=by
 unfold qfU
 refine qfP mixed Tryz.func43 qib ?_
 simp only [a0,l0,OS.ao,zo,zw,zj,zr,zp,zq,zx,zd,zi,zm,qd5,qdW,ZZ,WW,Ze,reduceCtorEq,zd,ze,zb,zf,za]
 refine useS (qdT l k n hk hl h2) rfl rfl rfl zE_ ?_
 rintro x cs' ⟨y,rfl,rfl⟩
 refine zS ?_
 exact qeF (stm l (k+1)) rfl ⟨_,rfl,rfl⟩
theorem qpr (l:List Int) (k:Nat) (lo hi:Int) (hk:k≤1000000) (hl:l.length≤9223372036854775807) (h1:-1000000000≤lo) (h2:lo≤hi) (h3:hi≤1000000000) :
  qfU Tryz.prog E 97 T (stm l k) [int lo,int hi] (fun x cs'=>∃ y,x=int y∧lo≤y∧y≤hi∧cs'=stm l (k+1)):=by
 unfold qfU
 refine qfP mixed Tryz.func97 qhF ?_
 simp only [a0,l0,OS.ao,zo,zw,zj,zr,zp,zq,zx,zd,zi,zm,qdJ,qdv,ZZ,WW,Ze,reduceCtorEq,zd,ze,zb,zf,za]
 refine br (fun h=>absurd (of_decide_eq_true h) (by omega)) ?_
 intro _
 refine zS ?_
 refine ⟨qat (by omega) (by omega),qat (by omega) (by omega),?_⟩
 refine useS (qdT l k _ hk hl (by omega)) rfl rfl rfl zE_ ?_
 rintro x cs' ⟨y,rfl,rfl⟩
 have b1:=qfl y (hi - lo+1)
 have b2:=qfm y (hi - lo+1) (by omega)
 refine zS ?_
 exact ⟨qat (by omega) (by omega),qeF (stm l (k+1)) rfl ⟨_,rfl,by omega,by omega,rfl⟩⟩
theorem qdS (l:List Int) (k:Nat) (c:List Int) (hk:k≤1000000) (hl:l.length≤9223372036854775807) (h0:0 < c.length) (h1:c.length≤1000000) :
  qfU Tryz.prog E 19 T (stm l k) [ints c] (fun x cs'=>∃ y,x=int y∧y∈c∧cs'=stm l (k+1)):=by
 unfold qfU
 refine qfP mixed Tryz.func19 qd6 ?_
 simp only [a0,l0,OS.ao,zo,zw,zj,zr,zp,zq,zx,zd,zi,zm,qcd,qb3,ZZ,WW,Ze,reduceCtorEq,zd,ze,zb,zf,za]
 simp only [ints,ZZ,WW,Ze,reduceCtorEq,zd,ze,zb,zf,za]
 generalize hes:c.map (fun x=>[PV.int IntKind.i64 x])=es
 have hln:es.length=c.length:=by rw [← hes];simp
 refine useS (qdT l k _ hk hl (by omega)) rfl rfl rfl zE_ ?_
 rintro x cs' ⟨y,rfl,rfl⟩
 obtain ⟨i,hi,hy⟩:=qjF y es.length (by omega)
 rw [hy]
 obtain ⟨z,hz⟩:∃ z,c[i]?=some z:=⟨_,zh (by omega)⟩
 have hg:es.getD i []=[PV.int .i64 z]:=by rw [← hes];exact qaC hz
 simp only [ZZ,WW,Ze,reduceCtorEq,zd,ze,zb,zf,za,hg]
 exact ⟨⟨by omega,by omega⟩,by omega,qeF (stm l (k+1)) rfl ⟨_,rfl,zy hz,rfl⟩⟩
theorem qhU (l:List Int) (k:Nat) (c:List (List UInt8)) (hk:k≤1000000) (hl:l.length≤9223372036854775807) (h0:0 < c.length) (h1:c.length≤1000000) :
  qfU Tryz.prog E 45 T (stm l k) [strs c] (fun x cs'=>∃ y,x=.str y∧y∈c∧cs'=stm l (k+1)):=by
 unfold qfU
 refine qfP mixed Tryz.func45 qg4 ?_
 simp only [a0,l0,OS.ao,zo,zw,zj,zr,zp,zq,zx,zd,zi,zm,qdj,qc7,ZZ,WW,Ze,reduceCtorEq,zd,ze,zb,zf,za]
 simp only [strs,ZZ,WW,Ze,reduceCtorEq,zd,ze,zb,zf,za]
 generalize hes:c.map (fun x=>[PV.str x])=es
 have hln:es.length=c.length:=by rw [← hes];simp
 refine useS (qdT l k _ hk hl (by omega)) rfl rfl rfl zE_ ?_
 rintro x cs' ⟨y,rfl,rfl⟩
 obtain ⟨i,hi,hy⟩:=qjF y es.length (by omega)
 rw [hy]
 obtain ⟨z,hz⟩:∃ z,c[i]?=some z:=⟨_,zh (by omega)⟩
 have hg:es.getD i []=[PV.str z]:=by rw [← hes];exact qaC hz
 simp only [ZZ,WW,Ze,reduceCtorEq,zd,ze,zb,zf,za,hg]
 exact ⟨⟨by omega,by omega⟩,by omega,qeF (stm l (k+1)) rfl ⟨_,rfl,zy hz,rfl⟩⟩
end
end Go.Proofs.YtmpdnpljdcincaaGreatDoor
