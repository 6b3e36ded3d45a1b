import Derived.Test.YtjgdjinhkgjpeabGreatDoorZ4
import Derived.KernelRfl
import Derived.Test.YtjgdjinhkgjpeabGreatDoorLayValid
import Derived.Test.YtjgdjinhkgjpeabGreatDoorLayIndex
set_option linter.unusedVariables false
set_option linter.unusedSimpArgs false
set_option linter.defProp false
namespace Go.Proofs.YtjgdjinhkgjpeabGreatDoor
open Nat renaming reduceAdd→zd,reduceEqDiff→zb,reduceLT→zf,reduceLeDiff→za,reduceMul→ze
open List renaming drop_eq_nil_of_le→zX,getD→zC,getElem?_eq_getElem→zk,getElem?_eq_some_iff→zo,mem_of_getElem?→zn,range→zB,replicate→zD
theorem mixed:Tryz.prog.follows .mixedOrders=true:=by kernel_rfl
abbrev int (n:Int):PV:=.int .i64 n
def ints (l:List Int):PV:=.sl 1 (l.map fun x=>[.int .i64 x])
def strs (l:List (List UInt8)):PV:=.sl 1 (l.map fun x=>[.str x])
theorem qaR {α β:Type} {f:α→β} {l:List α} {k:Nat} {x:α} {d:β} (h:l[k]?=some x):(l.map f).getD k d=f x:=by
 simp [zC,h]
theorem qai {n:Int} (h1:-9223372036854775808≤n) (h2:n≤9223372036854775807):I64 n:=⟨h1,h2⟩
theorem Zl0 {α:Type} {n:Nat}:([]:List α).take n=[]:=by simp
theorem Zl1 {α:Type} {n:Nat}:([]:List α).drop n=[]:=by simp
theorem Zl2 {α:Type} {l:List α}:l++[]=l:=by simp
theorem Zl3 {p:Prop}:(True∧p)=p:=by simp
theorem Zl4 {p:Prop}:(p∧True)=p:=by simp
theorem Zl5 {α:Type} {h:Decidable True} {a b:α}:(if True then a else b)=a:=by simp
theorem Zl6 {α:Type} {h:Decidable False} {a b:α}:(if False then a else b)=b:=by simp
theorem Zl7 {b:Bool}:(b && true)=b:=by simp
theorem Zl8 {b:Bool}:(true && b)=b:=rfl
theorem Zl9:(!true)=false:=rfl
theorem Zl10:(!false)=true:=rfl
theorem Zl11 {α:Type} {a b:α}:(bif true then a else b)=a:=rfl
theorem Zl12 {α:Type} {a b:α}:(bif false then a else b)=b:=rfl
theorem Zl13 {p:Prop}:(p→p)=True:=by simp
theorem Zl14 {p:Prop}:(p∧p)=p:=by simp
theorem Zl15 {p:Prop}:(True→p)=p:=by simp
theorem Zl16 {p:Prop}:(p→True)=True:=by simp
theorem Zl17 {n:Nat}:0+n=n:=by simp
theorem Zl18 {n:Nat}:n+0=n:=rfl
theorem Zl19 {b c:Bool}:(bif b then c else false)=(b && c):=by simp
theorem Zl20 {b c:Bool}:(bif b then true else c)=(b || c):=by simp
theorem Zl21 {n:Nat}:((n:Int)).toNat=n:=rfl
theorem Zl22:(false=true)=False:=by simp
theorem Zl23 {α:Type} {a b:α}:(a≠b)=¬ (a=b):=by simp
theorem Zl24:(¬ False)=True:=by simp
theorem Zl25:(¬ True)=False:=by simp
theorem Zl26 {a b:Nat}:(Key.l a=Key.l b)=(a=b):=by simp
theorem Zl27 {a b:Nat}:(Key.b a=Key.b b)=(a=b):=by simp
theorem Zl28 {α:Type} {a:α} {l:List α} {d:α}:(a :: l).getD 0 d=a:=rfl
theorem Zl29 {α:Type} {a:α} {l:List α} {d:α} {n:Nat}:(a :: l).getD (n+1) d=l.getD n d:=rfl
theorem Zl30 {α:Type} {d:α} {n:Nat}:([]:List α).getD n d=d:=rfl
theorem Zl31 {α:Type} {a:α} {l:List α}:(a :: l)[0]?=some a:=rfl
theorem Zl32 {α:Type} {a:α} {l:List α} {n:Nat}:(a :: l)[n+1]?=l[n]?:=rfl
theorem Zl33 {α:Type} {a b:α} {l:List α}:(a :: l).set 0 b=b :: l:=rfl
theorem Zl34 {α:Type} {a b:α} {l:List α} {n:Nat}:(a :: l).set (n+1) b=a :: l.set n b:=rfl
theorem Zl35 {α β:Type} {f:α→β} {a:α} {l:List α}:(a :: l).map f=f a :: l.map f:=rfl
theorem Zl36 {α β:Type} {f:α→β}:[].map f=[]:=rfl
theorem Zl37 {α:Type} {a:α} {l:List α}:(a :: l).length=l.length+1:=rfl
theorem Zl38 {α:Type}:([]:List α).length=0:=rfl
theorem Zl39 {α:Type} {p:α→Bool} {a:α} {l:List α}:(a :: l).all p=(p a && l.all p):=rfl
theorem Zl40 {α:Type} {p:α→Bool}:[].all p=true:=rfl
theorem Zl41 {α:Type} {a:α} {l:List α} {n:Nat}:(a :: l).take (n+1)=a :: l.take n:=rfl
theorem Zl42 {α:Type} {l:List α}:l.take 0=[]:=rfl
theorem Zl43 {α:Type} {a:α} {l:List α} {n:Nat}:(a :: l).drop (n+1)=l.drop n:=rfl
theorem Zl44 {α:Type} {l:List α}:l.drop 0=l:=rfl
theorem Zl45 {α β:Type} {f:α→β} {a:α}:(some a).map f=some (f a):=rfl
theorem Zl46 {α β:Type} {f:α→β}:(none:Option α).map f=none:=rfl
theorem Zl47 {α:Type} {a:α} {l m:List α}:(a :: l)++m=a :: (l++m):=rfl
theorem Zl48 {α:Type} {l:List α}:[]++l=l:=rfl
theorem Zl49 {α:Type} {a:α} {l:List α}:(a :: l).isEmpty=false:=rfl
theorem Zl50 {α:Type}:([]:List α).isEmpty=true:=rfl
abbrev qO (d:Nat) (o:IOp):IOper:=⟨some d,o,none⟩
abbrev qM (d s:Nat):IOper:=⟨some d,.mov (.t s),none⟩
abbrev oo:AV:=.any
abbrev oB (l:List AV):List AV:=oo::oo::l
abbrev oC (l:List AV):List AV:=oB (oB l)
abbrev oD (l:List AV):List AV:=oC (oC l)
abbrev oE (l:List AV):List AV:=oD (oD l)
abbrev oF (l:List AV):List AV:=oE (oE l)
abbrev oG (l:List AV):List AV:=oF (oF l)
abbrev cI (n:Int):Opd:=.c (.int .i64 n)
abbrev qL (d x:Nat):IOper:=qO d (.ld 1 false (.t x))
abbrev wF (d o x:Nat):IOper:=qO d (.fla o (.t x))
abbrev qS (s a b:Nat):IOper:=⟨none,.st s (.t a) (.t b),none⟩
abbrev qN (d x:Nat):IOper:=qO d (.len (.t x))
abbrev qT (d:Nat) (o:BinOp) (x y:Nat):IOper:=qO d (.bin o (.t x) (.t y))
abbrev qB (d:Nat) (o:BinOp) (x:Nat) (y:Opd):IOper:=qO d (.bin o (.t x) y)
abbrev qX (d z x y:Nat):IOper:=qO d (.ixa z (.t x) (.t y))
abbrev sR (l:List IOper) (b:IC):IC:=.seq (.reg l) b
theorem WW.{u}:(∀ {α:Sort u} (a b:α),(if True then a else b)=a)∧(∀ {α:Sort u} (a b:α),(if False then a else b)=b)∧(∀ {α:Sort u} [Nonempty α] (b:Prop),(α→b)↔b):=⟨fun _ _=>rfl,fun _ _=>rfl,fun _=>by simp⟩
def ZZ:=And.intro (And.intro (And.intro (And.intro (And.intro (And.intro (And.intro (And.intro @qug (And.intro @qui @qwS)) (And.intro @qwR (And.intro @qsh @qwT))) (And.intro (And.intro @qwV (And.intro @qwU @quh)) (And.intro (And.intro @quj @qwW) (And.intro @qu3 @qu2)))) (And.intro (And.intro (And.intro @qu4 (And.intro @qt8 @qt7)) (And.intro @qt9 (And.intro @qs7 @qs6))) (And.intro (And.intro @qs8 (And.intro @qxQ @qxP)) (And.intro (And.intro @qxR @qxr) (And.intro @qxs @qxt))))) (And.intro (And.intro (And.intro (And.intro @qxu (And.intro @qxp @qxq)) (And.intro @qsq (And.intro @qxO @qxN))) (And.intro (And.intro @qxM (And.intro @quC @qsD)) (And.intro (And.intro @qst @quw) (And.intro @qux @qqp)))) (And.intro (And.intro (And.intro @qvZ (And.intro @qyP @qxC)) (And.intro (And.intro @qzf @qzd) (And.intro @qy5 @qyG))) (And.intro (And.intro @qyI (And.intro @qyV @qyD)) (And.intro (And.intro @o_mx @o_mn) (And.intro @qy1 @qyC)))))) (And.intro (And.intro (And.intro (And.intro (And.intro @qyy (And.intro @qy0 @qy3)) (And.intro @qy2 (And.intro @o_ld @qyX))) (And.intro (And.intro @qyW (And.intro @qy4 @qze)) (And.intro (And.intro @qy8 @qy7) (And.intro @qzg @qzb)))) (And.intro (And.intro (And.intro @qyJ (And.intro @qyH @qyT)) (And.intro (And.intro @qyU @qxG) (And.intro @qyx @qyM))) (And.intro (And.intro @qyL (And.intro @qxI @qyY)) (And.intro (And.intro @qxF @qyZ) (And.intro @qzh @qxD))))) (And.intro (And.intro (And.intro (And.intro @qzl (And.intro @qzc @o_st)) (And.intro @qyA (And.intro @qyN @qzk))) (And.intro (And.intro @qza (And.intro @qyE @qyQ)) (And.intro (And.intro @qzi @qyz) (And.intro @qyR @qyK)))) (And.intro (And.intro (And.intro @qyB (And.intro @qxJ @qxH)) (And.intro (And.intro @qyF @qy6) (And.intro @qyO @qy9))) (And.intro (And.intro @qyS (And.intro @qxE @qzj)) (And.intro (And.intro @qzy @qxW) (And.intro @qzR @qzP))))))) (And.intro (And.intro (And.intro (And.intro (And.intro (And.intro @qzL (And.intro @qzs @qzu)) (And.intro @qzB (And.intro @qzr @g_mx))) (And.intro (And.intro @g_mn (And.intro @qzH @qzq)) (And.intro (And.intro @qzp @qzG) (And.intro @qzJ @qzI)))) (And.intro (And.intro (And.intro @g_ld (And.intro @qzD @qzC)) (And.intro (And.intro @qzK @qzQ) (And.intro @qzN @qzM))) (And.intro (And.intro @qzS (And.intro @qzO @qzv)) (And.intro (And.intro @qzt @qzz) (And.intro @qzA @qxY))))) (And.intro (And.intro (And.intro (And.intro @qzo (And.intro @qzx @qzw)) (And.intro @qxZ (And.intro @qzE @qxX))) (And.intro (And.intro @qzF (And.intro @qzT @qto)) (And.intro (And.intro @qrm @qrl) (And.intro @qv1 @qvX)))) (And.intro (And.intro (And.intro @qp5 (And.intro @qro @qrn)) (And.intro (And.intro @qp6 @quA) (And.intro @qvW @qtm))) (And.intro (And.intro @qxB (And.intro @qtn @qv0)) (And.intro (And.intro @qvY @quy) (And.intro @quz @Zl13)))))) (And.intro (And.intro (And.intro (And.intro (And.intro @Zl28 (And.intro @Zl29 @Zl30)) (And.intro @Zl31 (And.intro @Zl32 @Zl33))) (And.intro (And.intro @Zl34 (And.intro @Zl35 @Zl36)) (And.intro (And.intro @Zl37 @Zl38) (And.intro @Zl39 @Zl40)))) (And.intro (And.intro (And.intro @Zl41 (And.intro @Zl42 @Zl43)) (And.intro (And.intro @Zl44 @Zl0) (And.intro @Zl1 @Zl45))) (And.intro (And.intro @Zl46 (And.intro @Zl3 @Zl4)) (And.intro (And.intro @Zl5 @Zl6) (And.intro @Zl7 @Zl8))))) (And.intro (And.intro (And.intro (And.intro @Zl9 (And.intro @Zl10 @Zl11)) (And.intro @Zl12 (And.intro @Zl26 @Zl27))) (And.intro (And.intro @Zl14 (And.intro @Zl15 @Zl16)) (And.intro (And.intro @Zl17 @Zl18) (And.intro @Zl2 @Zl48)))) (And.intro (And.intro (And.intro @Zl47 (And.intro @Zl19 @Zl20)) (And.intro (And.intro @ql3 @qkh) (And.intro @qp9 @qp8))) (And.intro (And.intro @Zl21 (And.intro @Zl49 @Zl50)) (And.intro (And.intro @Zl22 @Zl23) (And.intro @Zl24 @Zl25)))))))) (And.intro (And.intro (And.intro (And.intro (And.intro (And.intro (And.intro (And.intro @quB @qsw) (And.intro @Za.eq_1 @Zb.eq_1)) (And.intro (And.intro @Zb.eq_2 @Zb.eq_3) (And.intro @Zc.eq_1 @Zc.eq_2))) (And.intro (And.intro (And.intro @Zd.eq_1 @Zd.eq_2) (And.intro @Zf.eq_1 @Zf.eq_2)) (And.intro (And.intro @Zf.eq_3 @Zf.eq_4) (And.intro @Zf.eq_5 (And.intro @Zf.eq_6 @Zf.eq_7))))) (And.intro (And.intro (And.intro (And.intro @Zf.eq_8 @Zf.eq_9) (And.intro @Zf.eq_10 @Zf.eq_11)) (And.intro (And.intro @Zf.eq_12 @Zf.eq_13) (And.intro @Zf.eq_14 @Zf.eq_15))) (And.intro (And.intro (And.intro @Zf.eq_16 @Zf.eq_17) (And.intro @Zf.eq_18 @Zf.eq_19)) (And.intro (And.intro @Zf.eq_20 @Zf.eq_21) (And.intro @Zf.eq_22 (And.intro @Zf.eq_23 @Zf.eq_24)))))) (And.intro (And.intro (And.intro (And.intro (And.intro @Zf.eq_25 @Zf.eq_26) (And.intro @Zf.eq_27 @Zf.eq_28)) (And.intro (And.intro @Zf.eq_29 @Zf.eq_30) (And.intro @Zf.eq_31 @Zf.eq_32))) (And.intro (And.intro (And.intro @Zf.eq_33 @Zf.eq_34) (And.intro @Zf.eq_35 @Zf.eq_36)) (And.intro (And.intro @Zf.eq_37 @Zf.eq_38) (And.intro @Zf.eq_39 (And.intro @Zf.eq_40 @Zf.eq_41))))) (And.intro (And.intro (And.intro (And.intro @Zg.eq_1 @Zg.eq_2) (And.intro @Zh.eq_1 @Zi.eq_1)) (And.intro (And.intro @Zi.eq_2 @Zi.eq_3) (And.intro @rd.eq_1 @rd.eq_2))) (And.intro (And.intro (And.intro @rd.eq_3 @rd.eq_4) (And.intro @AV.un.eq_1 @AV.un.eq_2)) (And.intro (And.intro @AV.unA.eq_1 @AV.ad.eq_1) (And.intro @AV.ad.eq_2 (And.intro @Zj.eq_1 @Zk.eq_1))))))) (And.intro (And.intro (And.intro (And.intro (And.intro (And.intro @Zk.eq_2 @Zl.eq_1) (And.intro @Zl.eq_2 @Zl.eq_3)) (And.intro (And.intro @Zm.eq_1 @Zm.eq_2) (And.intro @Zn.eq_1 @Zo.eq_1))) (And.intro (And.intro (And.intro @Zo.eq_2 @Zo.eq_3) (And.intro @Zo.eq_4 @Zo.eq_5)) (And.intro (And.intro @Zp.eq_1 @Zp.eq_2) (And.intro @Zp.eq_3 (And.intro @Zp.eq_4 @Zp.eq_5))))) (And.intro (And.intro (And.intro (And.intro @Zp.eq_6 @Zp.eq_7) (And.intro @Zp.eq_8 @Zp.eq_9)) (And.intro (And.intro @Zp.eq_10 @Zp.eq_11) (And.intro @Zp.eq_12 @Zp.eq_13))) (And.intro (And.intro (And.intro @Zp.eq_14 @Zq.eq_1) (And.intro @Zq.eq_2 @Zq.eq_3)) (And.intro (And.intro @Zr.eq_1 @Zr.eq_2) (And.intro @Zr.eq_3 (And.intro @Zr.eq_4 @Zr.eq_5)))))) (And.intro (And.intro (And.intro (And.intro (And.intro @Zr.eq_6 @Zr.eq_7) (And.intro @Zr.eq_8 @Zs.eq_1)) (And.intro (And.intro @Zs.eq_2 @Zs.eq_3) (And.intro @Zt.eq_1 @Zu.eq_1))) (And.intro (And.intro (And.intro @Zu.eq_2 @Zu.eq_3) (And.intro @Zu.eq_4 @Zu.eq_5)) (And.intro (And.intro @Zv.eq_1 @Zv.eq_2) (And.intro @Zw.eq_1 (And.intro @Zw.eq_2 @Zw.eq_3))))) (And.intro (And.intro (And.intro (And.intro @Zw.eq_4 @Zx.eq_1) (And.intro @Zx.eq_2 @Zx.eq_3)) (And.intro (And.intro @Zy.eq_1 @Zy.eq_2) (And.intro @Zy.eq_3 (And.intro @Zz.eq_1 @Zz.eq_2)))) (And.intro (And.intro (And.intro @Zaa.eq_1 @Zab.eq_1) (And.intro @Zab.eq_2 @Zac.eq_1)) (And.intro (And.intro @Zac.eq_2 @Zad.eq_1) (And.intro @Zad.eq_2 (And.intro @Zae.eq_1 @Zae.eq_2)))))))) (And.intro (And.intro (And.intro (And.intro (And.intro (And.intro (And.intro @Zaf.eq_1 @Zaf.eq_2) (And.intro @Zag.eq_1 @Zag.eq_2)) (And.intro (And.intro @Zag.eq_3 @Zag.eq_4) (And.intro @Zag.eq_5 @Zah.eq_1))) (And.intro (And.intro (And.intro @Zah.eq_2 @Zah.eq_3) (And.intro @Zai.eq_1 @Zai.eq_2)) (And.intro (And.intro @Zaj.eq_1 @Zaj.eq_2) (And.intro @Zaj.eq_3 (And.intro @Zak.eq_1 @Zak.eq_2))))) (And.intro (And.intro (And.intro (And.intro @Zak.eq_3 @Zal.eq_1) (And.intro @Zal.eq_2 @Zal.eq_3)) (And.intro (And.intro @Zal.eq_4 @Zam.eq_1) (And.intro @Zan.eq_1 @Zao.eq_1))) (And.intro (And.intro (And.intro @Zao.eq_2 @wk1.eq_1) (And.intro @wk1.eq_2 @wk.eq_1)) (And.intro (And.intro @wk.eq_2 @wk.eq_3) (And.intro @Zap.eq_1 (And.intro @Zap.eq_2 @Zap.eq_3)))))) (And.intro (And.intro (And.intro (And.intro (And.intro @Zaq.eq_1 @Zar.eq_1) (And.intro @Zas.eq_1 @Zas.eq_2)) (And.intro (And.intro @Zat.eq_1 @Zat.eq_2) (And.intro @Zau.eq_1 @Zau.eq_2))) (And.intro (And.intro (And.intro @Zav.eq_1 @Zaw.eq_1) (And.intro @Zaw.eq_2 @AV.kill.eq_1)) (And.intro (And.intro @AV.kill.eq_2 @AV.kill.eq_3) (And.intro @AV.kill.eq_4 (And.intro @AV.kill.eq_5 @AV.kill.eq_6))))) (And.intro (And.intro (And.intro (And.intro @AV.kill.eq_7 @AV.kill.eq_8) (And.intro @AV.kill.eq_9 @AV.kill.eq_10)) (And.intro (And.intro @AV.kill.eq_11 @AO.kill.eq_1) (And.intro @AO.kill.eq_2 (And.intro @AO.kill.eq_3 @AO.kill.eq_4)))) (And.intro (And.intro (And.intro @AO.kill.eq_5 @AO.kill.eq_6) (And.intro @AV.thaw.eq_1 @AV.thaw.eq_2)) (And.intro (And.intro @AV.thaw.eq_3 @AV.thaw.eq_4) (And.intro @AV.thaw.eq_5 (And.intro @AV.thaw.eq_6 @AV.thaw.eq_7))))))) (And.intro (And.intro (And.intro (And.intro (And.intro (And.intro @AV.thaw.eq_8 @AV.thaw.eq_9) (And.intro @AV.thaw.eq_10 @AV.thaw.eq_11)) (And.intro (And.intro @Zax.eq_1 @Zax.eq_2) (And.intro @AO.thaw.eq_1 @AO.thaw.eq_2))) (And.intro (And.intro (And.intro @AO.thaw.eq_3 @AO.thaw.eq_4) (And.intro @AO.thaw.eq_5 @AO.thaw.eq_6)) (And.intro (And.intro @Zay.eq_1 @Zay.eq_2) (And.intro @Zay.eq_3 (And.intro @Zay.eq_4 @Zaz.eq_1))))) (And.intro (And.intro (And.intro (And.intro @Zaz.eq_2 @Zba.eq_1) (And.intro @Zba.eq_2 @Zbb.eq_1)) (And.intro (And.intro @Zbb.eq_2 @Zbc.eq_1) (And.intro @Zbc.eq_2 @Zbd.eq_1))) (And.intro (And.intro (And.intro @Zbd.eq_2 @Zbe.eq_1) (And.intro @Zbe.eq_2 @Zbf.eq_1)) (And.intro (And.intro @Zbf.eq_2 @Zbf.eq_3) (And.intro @Zbf.eq_4 (And.intro @Zbg.eq_1 @Zbg.eq_2)))))) (And.intro (And.intro (And.intro (And.intro (And.intro @Zbh.eq_1 @Zbh.eq_2) (And.intro @Zbi.eq_1 @Zbi.eq_2)) (And.intro (And.intro @Zbi.eq_3 @Zbi.eq_4) (And.intro @Zbi.eq_5 @Zbi.eq_6))) (And.intro (And.intro (And.intro @Zbj.eq_1 @Zbj.eq_2) (And.intro @Zbj.eq_3 @Zbj.eq_4)) (And.intro (And.intro @Zbj.eq_5 @Zbj.eq_6) (And.intro @Zbk.eq_1 (And.intro @Zbk.eq_2 @Zbk.eq_3))))) (And.intro (And.intro (And.intro (And.intro @Zbk.eq_4 @Zbk.eq_5) (And.intro @Zbk.eq_6 @Zbl.eq_1)) (And.intro (And.intro @Zbl.eq_2 @qsz) (And.intro @qsl (And.intro @qwY @thaw_P.eq_1)))) (And.intro (And.intro (And.intro @thaw_P.eq_2 @caps_P.eq_1) (And.intro @caps_P.eq_2 @caps_P.eq_3)) (And.intro (And.intro @ok_Ks.eq_1 @ok_Ks.eq_2) (And.intro @ok_Ks.eq_3 (And.intro @ok_Ks.eq_4 @qss)))))))))
theorem zE_ {p:Prop} (h:p:=by simp only [ZZ,WW,Ze,reduceCtorEq,Nat.reduceAdd,Nat.reduceMul,Nat.reduceLeDiff,Nat.reduceLT,Nat.reduceEqDiff]):p:=h
theorem zF_ {p:Prop} (h:p:=by (simp only [ZZ,WW,Ze,reduceCtorEq,Nat.reduceAdd,Nat.reduceMul,Nat.reduceLeDiff,Nat.reduceLT,Nat.reduceEqDiff];try trivial)):p:=h
theorem zG_ {p:Prop} (h:p:=by (simp only [ZZ,WW,Ze,reduceCtorEq,Nat.reduceAdd,Nat.reduceMul,Nat.reduceLeDiff,Nat.reduceLT,Nat.reduceEqDiff];trivial)):p:=h
theorem sc_ {p:Prop} (h:p:=by first|first|assumption|trivial|exact (fun hq=>by rw [hq];rfl)|exact qai (by omega) (by omega)|omega|(simp;done)|(simp;omega)|(intro hsc;have hs0:=hsc;(try have hsd:=of_decide_eq_true hsc);(try simp only [Bool.not_eq_true',Bool.or_eq_false_iff,Bool.and_eq_true,Bool.or_eq_true,decide_eq_true_eq,decide_eq_false_iff_not] at hsc);(repeat' (with_reducible apply And.intro))<;>(first|assumption|trivial|exact (fun hq=>by rw [hq];rfl)|exact qai (by omega) (by omega)|omega|(simp;done)|(simp;omega)|(intro hse;simp [hse,hs0];done)|(intro hse;simp only [hse,hs0,Bool.true_and,Bool.and_true,Bool.not_false,Bool.not_true,Bool.and_self];done)))):p:=h
theorem zS {p q:Prop} (h:q) (e:p=q:=by conv=>lhs;simp only [ZZ,WW,Ze,reduceCtorEq,Nat.reduceAdd,Nat.reduceMul,Nat.reduceLeDiff,Nat.reduceLT,Nat.reduceEqDiff]):p:=e ▸ h
theorem XX.{u}:(∀ {α:Type u} {β:Type u} (f:α→β) (a:α) (l:List α),(a::l).map f=f a::l.map f)∧(∀ {α:Type u} {β:Type u} (f:α→β),([]:List α).map f=[])∧(∀ {α:Type u} (a:α) (l:List α),(a::l).length=l.length+1)∧(∀ {α:Type u},([]:List α).length=0)∧(∀ {α:Type u} (a:α) (l m:List α),a::l++m=a::(l++m))∧(∀ {α:Type u} (l:List α),[]++l=l)∧(∀ {α:Type u} (n:Nat) (a:α),zD (n+1) a=a::zD n a)∧(∀ {α:Type u} (a:α),zD 0 a=[]):=⟨fun _ _ _=>rfl,fun _=>rfl,fun _ _=>rfl,rfl,fun _ _ _=>rfl,fun _=>rfl,fun _ _=>rfl,fun _=>rfl⟩
theorem zV {p q:Prop} (h:q) (e:p=q:=by conv=>lhs;simp only [a0,l0,OS.ao,XX,Nat.reduceSub,ZZ,WW,Ze,reduceCtorEq,Nat.reduceAdd,Nat.reduceMul,Nat.reduceLeDiff,Nat.reduceLT,Nat.reduceEqDiff]):p:=e ▸ h
abbrev jE (x:Nat):IC:=.cond (.t x) .skip (.exit 0)
abbrev jW (x:Nat) (a:IC):IC:=.cond (.t x) a .skip
abbrev jI (d:Nat) (n:Int):IOper:=qO d (.mov (cI n))
abbrev jC (d f:Nat) (l:List Opd):IOper:=qO d (.call f l)
abbrev qqd:IC:=(sR [qO 6 (.mov (.c (.bool false)))] (sR [qM 7 0,qM 8 1,qT 9 .geq 7 8,qM 10 9,⟨some 11,.mov (.t 0),(some (10,true))⟩,⟨some 12,.mov (.t 2),(some (10,true))⟩,⟨some 13,.bin .leq (.t 11) (.t 12),(some (10,true))⟩,qO 14 (.pick (.t 10) (.t 13) (.c (.bool false))),qM 6 14] .ret))
theorem qqh:chkF Tryz.prog Tryz.f71 qqd [.t 6] 15=true:=by kernel_rfl
abbrev qm9:IC:=(sR [jI 4 0] (.seq (sR [qM 5 0] (jW 5 (sR [qM 6 1,qM 4 6] .ret))) (sR [jI 4 0] .ret)))
theorem qnp:chkF Tryz.prog Tryz.f30 qm9 [.t 4] 7=true:=by kernel_rfl
def qfe:IC:=(sR [qT 8 .lss 7 6] (.seq (jE 8) (.seq (.block 1 (sR [qX 9 1 5 7,qL 10 9,qM 4 10] (sR [qM 11 4,qB 12 .neq 11 (cI 0)] (jW 12 (sR [qM 13 4,qM 2 13] .ret))))) (.reg [qB 14 .add 7 (cI 1),qM 7 14]))))
abbrev qlJ:IC:=(sR [jI 2 0] (.seq (sR [qM 5 0,qN 6 5,jI 7 0] (.block 0 (.loop qfe))) (sR [jI 2 0] .ret)))
theorem qlX:chkF Tryz.prog Tryz.f29 qlJ [.t 2] 15=true:=by kernel_rfl
abbrev qhW:IC:=(sR [jI 4 0] (.seq (sR [qM 5 1,qB 6 .lss 5 (cI 1)] (jW 6 (sR [jI 4 0] .ret))) (sR [qM 7 0,qM 8 1,qT 9 .rem 7 8,qM 0 9] (.seq (sR [qM 10 0,qB 11 .lss 10 (cI 0)] (jW 11 (.reg [qM 12 0,qM 13 1,qT 14 .add 12 13,qM 0 14]))) (.cut (sR [qM 15 0,qM 4 15] .ret))))))
theorem qh8:chkF Tryz.prog Tryz.f61 qhW [.t 4] 16=true:=by kernel_rfl
def qcr:IC:=(sR [jI 4 0] (sR [qM 7 0,qO 8 (.nck (.t 7)),wF 9 1 8,qL 10 9,qB 11 .add 10 (cI 1),qO 12 (.nck (.t 7)),wF 13 1 12,qS 1 13 11] (.seq (sR [qM 14 0,qO 15 (.nck (.t 14)),wF 16 0 15,qL 17 16,qN 18 17,qB 19 .eql 18 (cI 0)] (jW 19 (sR [qM 20 0,qO 21 (.nck (.t 20)),wF 22 1 21,qL 23 22,qB 24 .mul 23 (cI 7919),qM 25 1,jC 26 61 [.t 24,.t 25],qM 4 26] .ret))) (.seq (.drg [qM 27 0,qO 28 (.nck (.t 27)),wF 29 1 28,qL 30 29,qB 31 .sub 30 (cI 1),qM 32 0,qO 33 (.nck (.t 32)),wF 34 0 33,qL 35 34,qN 36 35,qT 37 .rem 31 36,qM 5 37]) (.seq (.drg [qM 38 0,qO 39 (.nck (.t 38)),wF 40 1 39,qL 41 40,qB 42 .sub 41 (cI 1),qM 43 0,qO 44 (.nck (.t 43)),wF 45 0 44,qL 46 45,qN 47 46,qT 48 .quo 42 47,qM 6 48]) (sR [qM 49 0,qO 50 (.nck (.t 49)),wF 51 0 50,qL 52 51,qM 53 5,qX 54 1 52 53,qL 55 54,jC 56 61 [.t 55,.c (.int .i64 1073741824)],qM 57 6,qM 58 5,qO 59 (.bin .add (cI 7919) (.t 58)),qT 60 .mul 57 59,qT 61 .add 56 60,qM 62 1,jC 63 61 [.t 61,.t 62],qM 4 63] .ret))))))
theorem qeB:chkF Tryz.prog Tryz.f17 qcr [.t 4] 64=true:=by kernel_rfl
abbrev qep:IC:=(sR [qO 4 (.mov (.c (.bool false)))] (sR [qM 5 0,qM 6 1,jC 7 17 [.t 5,.t 6],qB 8 .eql 7 (cI 0),qM 4 8] .ret))
theorem qeC:chkF Tryz.prog Tryz.f16 qep [.t 4] 9=true:=by kernel_rfl
abbrev qd8:IC:=(sR [jI 6 0] (.seq (sR [qM 7 2,qM 8 1,qT 9 .lss 7 8] (jW 9 (sR [qM 10 1,qM 6 10] .ret))) (sR [qM 11 1,qM 12 0,qM 13 2,qM 14 1,qT 15 .sub 13 14,qB 16 .add 15 (cI 1),jC 17 17 [.t 12,.t 16],qT 18 .add 11 17,qM 6 18] .ret)))
theorem qeb:chkF Tryz.prog Tryz.f18 qd8 [.t 6] 19=true:=by kernel_rfl
abbrev qeo:IC:=(sR [jI 4 0] (sR [qM 5 1,qM 6 0,qM 7 1,qN 8 7,jC 9 17 [.t 6,.t 8],qX 10 1 5 9,qL 11 10,qM 4 11] .ret))
theorem qeA:chkF Tryz.prog Tryz.f20 qeo [.t 4] 12=true:=by kernel_rfl
abbrev qdQ:IC:=(sR [qO 4 (.mov (.c (.str [])))] (sR [qM 5 1,qM 6 0,qM 7 1,qN 8 7,jC 9 17 [.t 6,.t 8],qX 10 1 5 9,qL 11 10,qM 4 11] .ret))
theorem qdS:chkF Tryz.prog Tryz.f19 qdQ [.t 4] 12=true:=by kernel_rfl
section
variable {E:Envt}
def inE (n lo hi:Int):Bool:=decide (lo≤n) && decide (n≤hi)
theorem qoW (n lo hi:Int):PCall Tryz.prog E 71 [int n,int lo,int hi] (·=.bool (inE n lo hi)):=by
 refine qah mixed Tryz.func71 qqh ?_
 refine zV ?_
 rfl
def qaO (b:Bool) (e:Int):Int:=if b=true then e else 0
theorem qee (b:Bool) (e:Int):PCall Tryz.prog E 30 [.bool b,int e] (·=int (qaO b e)):=by
 refine qah mixed Tryz.func30 qnp ?_
 refine zV ?_
 refine br ?_ ?_
 all_goals
  rintro rfl
  refine zS ?_
  rfl
def qar:List Int→Int
 |[]=>0
 |e :: r=>if e=0 then qar r else e
theorem qcf (l:List Int) (k:Nat) (x:Int) (h:l[k]?=some x):qar (l.drop k)=if x=0 then qar (l.drop (k+1)) else x:=by
 have hk:=(zo.1 h).1
 rw [List.drop_eq_getElem_cons hk,(zo.1 h).2]
 rfl
set_option maxHeartbeats 2000000 in
theorem qe9 (l:List Int) (hl:l.length≤1000000):PCall Tryz.prog E 29 [ints l] (·=int (qar l)):=by
 refine qah mixed Tryz.func29 qlX ?_
 refine zV ?_
 simp only [ints,ZZ,WW,Ze,reduceCtorEq,zd,ze,za,zf,zb]
 generalize hes:l.map (fun x=>[PV.int IntKind.i64 x])=es
 have hln:es.length=l.length:=by rw [← hes];simp
 refine qad (fun n fr L=>∃ k:Nat,k≤l.length∧n=l.length - k∧qar l=qar (l.drop k)∧fr=(.p (.sl 1 es)::oo::oo::oo::oo::.p (.sl 1 es)::.p (int (es.length:Nat))::.p (int (k:Nat))::oC (oB (oo::[])))∧L=[]) l.length (.p (.sl 1 es)::oo::oo::oo::oo::.p (.sl 1 es)::.p (int (es.length:Nat))::.p (int (0:Nat))::oC (oB (oo::[]))) [] ?_ ?_ ⟨0,by omega,by omega,rfl,rfl,rfl⟩ ?_
 ·(simp only [ZZ,WW,Ze,reduceCtorEq,zd,ze,za,zf,zb];try trivial)
 ·simp only [ZZ,WW,Ze,reduceCtorEq,zd,ze,za,zf,zb]
 rintro n fr L ⟨k,hk,rfl,hf,rfl,rfl⟩
 simp only [qfe,ZZ,WW,Ze,reduceCtorEq,zd,ze,za,zf,zb]
 refine br ?_ ?_
 ·intro h
  have hlt:k < l.length:=by have:=of_decide_eq_true h;omega
  obtain ⟨x,hx⟩:∃ x,l[k]?=some x:=⟨_,zk hlt⟩
  have hg:es.getD k []=[PV.int .i64 x]:=by rw [← hes];exact qaR hx
  have hd:=qcf l k x hx
  simp only [ZZ,WW,Ze,reduceCtorEq,zd,ze,za,zf,zb,hg]
  refine ⟨by omega,by omega,?_⟩
  refine br ?_ ?_
  ·intro h2
   refine zS ?_
   rw [hf,hd,if_neg (by simpa using h2)]
  ·intro h2
   refine zS ?_
   refine ⟨qai (by omega) (by omega),?_⟩
   refine qab (l.length - (k+1)) (.p (.sl 1 es)::oo::oo::oo::oo::.p (.sl 1 es)::.p (int (es.length:Nat))::.p (int ((k+1:Nat)))::oC (oB (oo::[]))) [] (by omega) ?_ ?_ ⟨k+1,by omega,rfl,by rw [hf,hd,if_pos (by simpa using h2)],rfl,rfl⟩
   ·(simp only [ZZ,WW,Ze,reduceCtorEq,zd,ze,za,zf,zb];try trivial)
   ·simp only [ZZ,WW,Ze,reduceCtorEq,zd,ze,za,zf,zb]
 ·intro h
  have hge:l.length≤k:=by have:=of_decide_eq_false h;omega
  refine zS ?_
  rw [hf,zX hge]
  rfl
def qeE (x n:Int):Int:=if n < 1 then 0 else x % n
theorem qd2 (x n:Int):0≤qeE x n:=by
 unfold qeE
 split
 ·omega
 ·exact Int.emod_nonneg x (by omega)
theorem qd3 (x n:Int) (h:1≤n):qeE x n < n:=by
 unfold qeE
 rw [if_neg (by omega)]
 exact Int.emod_lt_of_pos x (by omega)
theorem qpW (x n:Int) (hn:1≤n):x % n=if x.tmod n < 0 then x.tmod n+n else x.tmod n:=by
 have h2:=Int.emod_nonneg x (show n≠0 by omega)
 have h3:=Int.emod_lt_of_pos x (show 0 < n by omega)
 rw [Int.tmod_eq_emod]
 split<;>split at *<;>omega
theorem qu1 (x n:Int) (hn:1≤n):-n < x.tmod n∧x.tmod n < n:=by
 have h2:=Int.emod_nonneg x (show n≠0 by omega)
 have h3:=Int.emod_lt_of_pos x (show 0 < n by omega)
 rw [Int.tmod_eq_emod]
 split<;>omega
theorem qmu (x n:Int) (h2:n≤9223372036854775807):PCall Tryz.prog E 61 [int x,int n] (·=int (qeE x n)):=by
 refine qah mixed Tryz.func61 qh8 ?_
 refine zV ?_
 refine br ?_ ?_
 ·intro h
  refine zS ?_
  have:n < 1:=of_decide_eq_true h
  simp [qeE,this]
 ·intro h
  have hn:¬ n < 1:=of_decide_eq_false h
  have hb:=qu1 x n (by omega)
  have hc:=qpW x n (by omega)
  refine zS ?_
  refine ⟨by omega,?_⟩
  refine qe3 (fun fr L=>∃ y,y=x % n∧fr=(.p (int y)::oD (oC (oB (oo::[]))))∧L=[]) ?_ ?_ ?_
  ·intro h1
   have h1:=of_decide_eq_true h1
   refine zS ?_
   refine ⟨qai (by omega) (by omega),qc9 (.p (int (x.tmod n+n))::oD (oC (oB (oo::[])))) [] ?_ ?_ ⟨_,by rw [hc,if_pos h1],rfl,rfl⟩⟩
   ·(simp only [ZZ,WW,Ze,reduceCtorEq,zd,ze,za,zf,zb];try trivial)
   ·simp only [ZZ,WW,Ze,reduceCtorEq,zd,ze,za,zf,zb]
  ·intro h1
   have h1:=of_decide_eq_false h1
   refine zS ?_
   refine qc9 (.p (int (x.tmod n))::oD (oC (oB (oo::[])))) [] ?_ ?_ ⟨_,by rw [hc,if_neg h1],rfl,rfl⟩
   ·(simp only [ZZ,WW,Ze,reduceCtorEq,zd,ze,za,zf,zb];try trivial)
   ·simp only [ZZ,WW,Ze,reduceCtorEq,zd,ze,za,zf,zb]
  ·rintro fr L ⟨y,rfl,rfl,rfl⟩
   refine zS ?_
   simp [qeE,hn]
def stm (l:List Int) (k:Nat):List PV:=[ints l,int k]
abbrev T:TypeId:=25
set_option maxHeartbeats 2000000 in
theorem qc6 (l:List Int) (k:Nat) (n:Int) (hk:k≤1000000) (hl:l.length≤9223372036854775807) (h2:n≤9223372036854775807) :
  qeG Tryz.prog E 17 T (stm l k) [int n] (fun x cs'=>∃ y,x=int (qeE y n)∧cs'=stm l (k+1)):=by
 unfold qeG
 refine qff mixed Tryz.func17 qeB ?_
 simp only [a0,l0,OS.ao,XX,Nat.reduceSub,stm,qcr,ZZ,WW,Ze,reduceCtorEq,zd,ze,za,zf,zb]
 refine ⟨qai (by omega) (by omega),?_⟩
 simp only [ints,ZZ,WW,Ze,reduceCtorEq,zd,ze,za,zf,zb]
 generalize hes:l.map (fun x=>[PV.int IntKind.i64 x])=es
 have hln:es.length=l.length:=by rw [← hes];simp
 have hc:[PV.sl 1 es,int ((k:Int)+1)]=[PV.sl 1 es,int ((k+1:Nat):Int)]:=by simp
 refine br ?_ ?_
 ·intro h
  refine zS ?_
  refine ⟨qai (by omega) (by omega),?_⟩
  refine use1 (qmu _ _ h2) rfl (.inl rfl) ?_
  refine zS ?_
  exact qet [PV.sl 1 es,int ((k:Int)+1)] rfl ⟨_,rfl,hc⟩
 ·intro h
  have hne:¬ ((es.length:Int)=0):=of_decide_eq_false h
  refine zS ?_
  refine drg0 ?_
  refine zS ?_
  refine ⟨qai (by omega) (by omega),⟨by omega,?_⟩⟩
  refine drg0 ?_
  have hkk:(k:Int)+1 - 1=k:=by omega
  have hrem:(k:Int).tmod (es.length:Int)=((k % es.length:Nat):Int):=by rw [Int.tmod_eq_emod_of_nonneg (by omega)];rfl
  have hquo:(k:Int).tdiv (es.length:Int)=((k / es.length:Nat):Int):=by rw [Int.tdiv_eq_ediv_of_nonneg (by omega)];rfl
  have hq1:k / es.length≤k:=Nat.div_le_self _ _
  have hr1:k % es.length≤k:=Nat.mod_le _ _
  have hr2:k % es.length < es.length:=Nat.mod_lt _ (by omega)
  obtain ⟨x,hx⟩:∃ x,l[k % es.length]?=some x:=⟨_,zk (by omega)⟩
  have hg:es.getD (k % es.length) []=[PV.int .i64 x]:=by rw [← hes];exact qaR (by rw [hes];exact hx)
  simp only [ZZ,WW,Ze,reduceCtorEq,zd,ze,za,zf,zb,hkk,hrem,hquo,hg]
  generalize k / es.length=q at *
  generalize k % es.length=r at *
  refine ⟨qai (by omega) (by omega),⟨hne,qai (by omega) (by omega)⟩,⟨by omega,by omega⟩,by omega,?_⟩
  refine use1 (qmu _ _ (by decide)) rfl (.inl rfl) ?_
  have hb1:=qd2 x 1073741824
  have hb2:=qd3 x 1073741824 (by omega)
  have hm:(q:Int) * (7919+(r:Int))≤1000000 * 1007919:=Int.mul_le_mul (by omega) (by omega) (by omega) (by omega)
  have hm0:0≤(q:Int) * (7919+(r:Int)):=Int.mul_nonneg (by omega) (by omega)
  refine zS ?_
  refine ⟨qai (by omega) (by omega),qai (by omega) (by omega),qai (by omega) (by omega),?_⟩
  refine use1 (qmu _ _ h2) rfl (.inl rfl) ?_
  refine zS ?_
  exact qet [PV.sl 1 es,int ((k:Int)+1)] rfl ⟨_,rfl,hc⟩
theorem qic (x:Int) (n:Nat) (hn:0 < n):∃ i:Nat,i < n∧qeE x n=i:=by
 have h0:=qd2 x n
 have h1:=qd3 x n (by omega)
 exact ⟨(qeE x n).toNat,by omega,by omega⟩
theorem qgm (l:List Int) (k:Nat) (n:Int) (hk:k≤1000000) (hl:l.length≤9223372036854775807) (h2:n≤9223372036854775807) :
  qeG Tryz.prog E 16 T (stm l k) [int n] (fun x cs'=>∃ b,x=.bool b∧cs'=stm l (k+1)):=by
 unfold qeG
 refine qff mixed Tryz.func16 qeC ?_
 refine zV ?_
 refine useS (qc6 l k n hk hl h2) rfl rfl rfl zE_ ?_
 rintro x cs' ⟨y,rfl,rfl⟩
 refine zS ?_
 exact qet (stm l (k+1)) rfl ⟨_,rfl,rfl⟩
theorem qmk (l:List Int) (k:Nat) (lo hi:Int) (hk:k≤1000000) (hl:l.length≤9223372036854775807) (h1:-1000000000≤lo) (h2:lo≤hi) (h3:hi≤1000000000) :
  qeG Tryz.prog E 18 T (stm l k) [int lo,int hi] (fun x cs'=>∃ y,x=int y∧lo≤y∧y≤hi∧cs'=stm l (k+1)):=by
 unfold qeG
 refine qff mixed Tryz.func18 qeb ?_
 refine zV ?_
 refine br (fun h=>absurd (of_decide_eq_true h) (by omega)) ?_
 intro _
 refine zS ?_
 refine ⟨qai (by omega) (by omega),qai (by omega) (by omega),?_⟩
 refine useS (qc6 l k _ hk hl (by omega)) rfl rfl rfl zE_ ?_
 rintro x cs' ⟨y,rfl,rfl⟩
 have b1:=qd2 y (hi - lo+1)
 have b2:=qd3 y (hi - lo+1) (by omega)
 refine zS ?_
 exact ⟨qai (by omega) (by omega),qet (stm l (k+1)) rfl ⟨_,rfl,by omega,by omega,rfl⟩⟩
theorem qml (l:List Int) (k:Nat) (c:List Int) (hk:k≤1000000) (hl:l.length≤9223372036854775807) (h0:0 < c.length) (h1:c.length≤1000000) :
  qeG Tryz.prog E 20 T (stm l k) [ints c] (fun x cs'=>∃ y,x=int y∧y∈c∧cs'=stm l (k+1)):=by
 unfold qeG
 refine qff mixed Tryz.func20 qeA ?_
 refine zV ?_
 simp only [ints,ZZ,WW,Ze,reduceCtorEq,zd,ze,za,zf,zb]
 generalize hes:c.map (fun x=>[PV.int IntKind.i64 x])=es
 have hln:es.length=c.length:=by rw [← hes];simp
 refine useS (qc6 l k _ hk hl (by omega)) rfl rfl rfl zE_ ?_
 rintro x cs' ⟨y,rfl,rfl⟩
 obtain ⟨i,hi,hy⟩:=qic y es.length (by omega)
 rw [hy]
 obtain ⟨z,hz⟩:∃ z,c[i]?=some z:=⟨_,zk (by omega)⟩
 have hg:es.getD i []=[PV.int .i64 z]:=by rw [← hes];exact qaR hz
 simp only [ZZ,WW,Ze,reduceCtorEq,zd,ze,za,zf,zb,hg]
 exact ⟨⟨by omega,by omega⟩,by omega,qet (stm l (k+1)) rfl ⟨_,rfl,zn hz,rfl⟩⟩
theorem qcx (l:List Int) (k:Nat) (c:List (List UInt8)) (hk:k≤1000000) (hl:l.length≤9223372036854775807) (h0:0 < c.length) (h1:c.length≤1000000) :
  qeG Tryz.prog E 19 T (stm l k) [strs c] (fun x cs'=>∃ y,x=.str y∧y∈c∧cs'=stm l (k+1)):=by
 unfold qeG
 refine qff mixed Tryz.func19 qdS ?_
 refine zV ?_
 simp only [strs,ZZ,WW,Ze,reduceCtorEq,zd,ze,za,zf,zb]
 generalize hes:c.map (fun x=>[PV.str x])=es
 have hln:es.length=c.length:=by rw [← hes];simp
 refine useS (qc6 l k _ hk hl (by omega)) rfl rfl rfl zE_ ?_
 rintro x cs' ⟨y,rfl,rfl⟩
 obtain ⟨i,hi,hy⟩:=qic y es.length (by omega)
 rw [hy]
 obtain ⟨z,hz⟩:∃ z,c[i]?=some z:=⟨_,zk (by omega)⟩
 have hg:es.getD i []=[PV.str z]:=by rw [← hes];exact qaR hz
 simp only [ZZ,WW,Ze,reduceCtorEq,zd,ze,za,zf,zb,hg]
 exact ⟨⟨by omega,by omega⟩,by omega,qet (stm l (k+1)) rfl ⟨_,rfl,zn hz,rfl⟩⟩
end
def qbN:IC:=(sR [qT 25 .lss 24 23] (.seq (jE 25) (.seq (.block 1 (sR [qM 26 24,qX 27 2 22 24,qO 28 (.ld 2 true (.t 27)),qO 7 (.alc 92 [.int .i64 0,.int .i64 0]),qM 6 26,qS 2 7 28] (.seq (.drg [wF 29 0 7,qL 30 29,qB 31 .lss 30 (cI 0),qM 32 31,⟨some 33,.fla 0 (.t 7),(some (32,false))⟩,⟨some 34,.ld 1 false (.t 33),(some (32,false))⟩,⟨some 35,.fla 1 (.t 7),(some (32,false))⟩,⟨some 36,.ld 1 false (.t 35),(some (32,false))⟩,⟨some 37,.bin .geq (.t 34) (.t 36),(some (32,false))⟩,qO 38 (.pick (.t 32) (.c (.bool true)) (.t 37)),qM 39 38,⟨some 40,.fla 1 (.t 7),(some (39,false))⟩,⟨some 41,.ld 1 false (.t 40),(some (39,false))⟩,⟨some 42,.mov (.t 1),(some (39,false))⟩,⟨some 43,.bin .gtr (.t 41) (.t 42),(some (39,false))⟩,qO 44 (.pick (.t 39) (.c (.bool true)) (.t 43)),qO 45 (.pcall 0 30 [.t 44,.c (.int .i64 1)]),qM 46 6,qB 47 .gtr 46 (cI 0),qM 48 47,⟨some 49,.fla 0 (.t 7),(some (48,true))⟩,⟨some 50,.ld 1 false (.t 49),(some (48,true))⟩,⟨some 51,.mov (.t 0),(some (48,true))⟩,⟨some 52,.mov (.t 6),(some (48,true))⟩,⟨some 53,.mx (.t 52) (cI 1),(some (48,true))⟩,⟨some 54,.bin .sub (.t 53) (cI 1),(some (48,true))⟩,⟨some 55,.ixa 2 (.t 51) (.t 54),(some (48,true))⟩,⟨some 56,.fla 1 (.t 55),(some (48,true))⟩,⟨some 57,.ld 1 false (.t 56),(some (48,true))⟩,⟨some 58,.bin .leq (.t 50) (.t 57),(some (48,true))⟩,qO 59 (.pick (.t 48) (.t 58) (.c (.bool false))),qO 60 (.pcall 1 30 [.t 59,.c (.int .i64 7)]),qO 61 (.bsl 1 [.t 45,.t 60]),qO 62 (.pcall 2 29 [.t 61]),qM 8 62]) (sR [qM 63 8,qB 64 .neq 63 (cI 0)] (jW 64 (sR [qM 65 8,qM 4 65] .ret)))))) (.reg [qB 66 .add 24 (cI 1),qM 24 66]))))
abbrev qeP:IC:=(sR [jI 4 0] (.seq (sR [qM 9 1,jC 10 71 [.t 9,.c (.int .i64 0),.c (.int .i64 200000)],qO 11 (.not (.t 10)),jC 12 30 [.t 11,.c (.int .i64 1)],qM 13 0,qN 14 13,qB 15 .gtr 14 (cI 1000),jC 16 30 [.t 15,.c (.int .i64 2)],qO 17 (.bsl 1 [.t 12,.t 16]),jC 18 29 [.t 17],qM 5 18] (sR [qM 19 5,qB 20 .neq 19 (cI 0)] (jW 20 (sR [qM 21 5,qM 4 21] .ret)))) (.seq (sR [qM 22 0,qN 23 22,jI 24 0] (.block 0 (.loop qbN))) (sR [jI 4 0] .ret))))
theorem qeW:chkF Tryz.prog Tryz.f134 qeP [.t 4] 67=true:=by kernel_rfl
def spn (p:Int×Int):List PV:=[int p.1,int p.2]
def sps (l:List (Int×Int)):PV:=.sl 2 (l.map spn)
section
variable {E:Envt}
def badS (size:Int) (p:Int×Int):Bool:=decide (p.1 < 0) || decide (p.2≤p.1) || decide (size < p.2)
def qiA (size:Int) (l:List (Int×Int)) (k:Nat):Int:=
 if badS size (l.getD k (0,0))=true then 1 else if 0 < k∧(l.getD k (0,0)).1≤(l.getD (k - 1) (0,0)).2 then 7 else 0
def qfz (l:List (Int×Int)) (size:Int):Int:=
 if size < 0∨200000 < size then 1 else if 1000 < l.length then 2 else qar ((zB l.length).map (qiA size l))
theorem qng (size:Int) (l:List (Int×Int)) {k:Nat} (h:k < l.length):((zB l.length).map (qiA size l))[k]?=some (qiA size l k):=by
 rw [List.getElem?_map,List.getElem?_range h];rfl
set_option maxHeartbeats 2000000 in
theorem qmt (l:List (Int×Int)) (size:Int) (hl:l.length≤1000000):PCall Tryz.prog E 134 [sps l,int size] (·=int (qfz l size)):=by
 refine qah mixed Tryz.func134 qeW ?_
 refine zV ?_
 simp only [sps,ZZ,WW,Ze,reduceCtorEq,zd,ze,za,zf,zb]
 generalize hes:l.map spn=es
 have hln:es.length=l.length:=by rw [← hes];simp
 refine use1 (qoW _ _ _) rfl (.inl rfl) ?_
 refine zS ?_
 refine use1 (qee _ _) rfl (.inl rfl) ?_
 refine zS ?_
 refine use1 (qee _ _) rfl (.inl rfl) ?_
 refine zS ?_
 refine use1 (qe9 [qaO (!inE size 0 200000) 1,qaO (decide (1000 < (es.length:Int))) 2] (by simp)) rfl (.inl rfl) ?_
 refine zS ?_
 have h0:qar [qaO (!inE size 0 200000) 1,qaO (decide (1000 < (es.length:Int))) 2]=if size < 0∨200000 < size then 1 else if 1000 < l.length then 2 else 0:=by
  by_cases a1:size < 0∨200000 < size
  ·have:inE size 0 200000=false:=by simp [inE];omega
   simp [qar,qaO,this,a1]
  ·have:inE size 0 200000=true:=by simp [inE];omega
   by_cases a2:1000 < l.length
   ·have a3:(1000:Int) < es.length:=by omega
    simp [qar,qaO,this,a1,a2,a3]
   ·have a3:¬ (1000:Int) < es.length:=by omega
    simp [qar,qaO,this,a1,a2,a3]
 rw [h0]
 refine br ?_ ?_
 ·intro h
  refine zS ?_
  have h:¬ (if size < 0∨200000 < size then (1:Int) else if 1000 < l.length then 2 else 0)=0:=by simpa using h
  unfold qfz
  split at h
  ·simp [*]
  ·split at h
   ·simp [*]
   ·exact absurd rfl h
 intro h
 have h:(if size < 0∨200000 < size then (1:Int) else if 1000 < l.length then 2 else 0)=0:=by simpa using h
 have hsz:¬ (size < 0∨200000 < size):=by intro h';rw [if_pos h'] at h;cases h
 have hle:¬ 1000 < l.length:=by intro h';rw [if_neg hsz,if_pos h'] at h;cases h
 refine zS ?_
 have hF:qfz l size=qar ((zB l.length).map (qiA size l)):=by simp [qfz,hsz,hle]
 rw [hF]
 have hget:=fun {k:Nat} (h:k < l.length)=>qcf _ k _ (qng size l h)
 generalize hG:(zB l.length).map (qiA size l)=G at *
 have hGl:G.length=l.length:=by rw [← hG];simp
 refine qad (fun n fr L=>∃ k:Nat,k≤l.length∧n=l.length - k∧qar G=qar (G.drop k)∧fr=(.p (.sl 2 es)::.p (int size)::oE (oC (.p (.sl 2 es)::.p (int (es.length:Nat))::.p (int (k:Nat))::oF (oD (oB [])))))∧L=[]) l.length (.p (.sl 2 es)::.p (int size)::oE (oC (.p (.sl 2 es)::.p (int (es.length:Nat))::.p (int (0:Nat))::oF (oD (oB []))))) [] zF_ zE_ ⟨0,by omega,by omega,rfl,rfl,rfl⟩ ?_
 rintro n fr L ⟨k,hk,rfl,hf,rfl,rfl⟩
 simp only [qbN,ZZ,WW,Ze,reduceCtorEq,zd,ze,za,zf,zb]
 refine br ?_ ?_
 ·intro h
  have hlt:k < l.length:=by have:=of_decide_eq_true h;omega
  obtain ⟨x,hx⟩:∃ x,l[k]?=some x:=⟨_,zk hlt⟩
  have hg:es.getD k []=spn x:=by rw [← hes];exact qaR hx
  have hd:=hget hlt
  have hxd:l.getD k (0,0)=x:=by simp [zC,hx]
  obtain ⟨y,hy⟩:∃ y,l[k - 1]?=some y:=⟨_,zk (by omega)⟩
  have hg2:es.getD (k - 1) []=spn y:=by rw [← hes];exact qaR hy
  have hyd:l.getD (k - 1) (0,0)=y:=by simp [zC,hy]
  have hn1:(max (k:Int) 1 - 1).toNat=k - 1:=by omega
  have he:qiA size l k=if (decide (x.1 < 0) || decide (x.2≤x.1) || decide (size < x.2))=true then 1 else if 0 < k∧x.1≤y.2 then 7 else 0:=by simp only [qiA,badS,hxd,hyd]
  have he2:qar [qaO (decide (x.1 < 0) || decide (x.2≤x.1) || decide (size < x.2)) 1,qaO (decide (0 < (k:Int)) && decide (x.1≤y.2)) 7]=qiA size l k:=by
   rw [he]
   generalize (decide (x.1 < 0) || decide (x.2≤x.1) || decide (size < x.2))=b
   cases b with
   |true=>simp [qar,qaO]
   |false=>
    by_cases hq:0 < k∧x.1≤y.2
    ·simp [qar,qaO,hq]
    ·simp [qar,qaO,hq]
  simp only [ZZ,WW,Ze,reduceCtorEq,zd,ze,za,zf,zb,hg,spn]
  ((with_reducible and_intros)<;>try exact sc_)
  refine drg3 (x1:=int (qaO (decide (x.1 < 0) || decide (x.2≤x.1) || decide (size < x.2)) 1)) (x2:=int (qaO (decide (0 < (k:Int)) && decide (x.1≤y.2)) 7)) (x3:=int (qiA size l k)) ?_
  simp only [ZZ,WW,Ze,reduceCtorEq,zd,ze,za,zf,zb,hn1,hg2,spn]
  ((repeat' (with_reducible apply And.intro))<;>try (first|exact usep (qee _ _) rfl (.inl rfl)|(rw [← he2];exact usep (qe9 [_,_] (by simp)) rfl (.inl rfl))|(exact sc_)))
  refine br ?_ ?_
  ·intro h7
   have:¬ qiA size l k=0:=by simpa using h7
   refine zS ?_
   rw [hf,hd,if_neg this]
  intro h7
  have:qiA size l k=0:=by simpa using h7
  refine zS ?_
  refine ⟨qai (by omega) (by omega),?_⟩
  refine qab (l.length - (k+1)) (.p (.sl 2 es)::.p (int size)::oE (oC (.p (.sl 2 es)::.p (int (es.length:Nat))::.p (int ((k+1:Nat)))::oF (oD (oB []))))) [] (by omega) zF_ zE_ ⟨k+1,by omega,rfl,by rw [hf,hd,if_pos this],rfl,rfl⟩
 ·intro h
  have hge:l.length≤k:=by have:=of_decide_eq_false h;omega
  refine zS ?_
  rw [hf,zX (by omega)]
  rfl
end
section
variable {E:Envt}
end
section
variable {E:Envt}
abbrev qbJ:Nat:=92
end
def cov (l:List (Int×Int)) (j:Nat):Bool:=l.any fun s=>decide (s.1≤j) && decide ((j:Int) < s.2)
def bl (p:List Bool):List (List PV):=p.map fun b=>[.bool b]
theorem qt0 {l:List (Int×Int)} {k:Nat} {x:Int×Int} (h:l[k]?=some x) (j:Nat):cov (l.take (k+1)) j=(cov (l.take k) j || (decide (x.1≤j) && decide ((j:Int) < x.2))):=by
 unfold cov
 rw [List.take_add_one,h]
 simp
section
variable {E:Envt}
def onAt (p:List Bool) (i:Nat):Bool:=p.getD i false
theorem qkN {l:List Int} (h:qar l=0):∀ x∈l,x=0:=by
 induction l with
 |nil=>intro x hx;cases hx
 |cons a l ih=>
  intro x hx
  simp only [qar] at h
  split at h
  ·rename_i ha
   rcases List.mem_cons.1 hx with rfl|hx
   ·exact ha
   ·exact ih h x hx
  ·rename_i ha;exact absurd h ha
theorem qqU {l:List (Int×Int)} {size:Int} (h:qfz l size=0) {k:Nat} {x:Int×Int} (hx:l[k]?=some x):0≤x.1∧x.1 < x.2∧x.2≤size:=by
 unfold qfz at h
 split at h
 ·cases h
 ·split at h
  ·cases h
  ·have hk:=(zo.1 hx).1
   have:=qkN h (qiA size l k) (zn (qng size l hk))
   unfold qiA badS at this
   rw [show l.getD k (0,0)=x from by simp [zC,hx]] at this
   split at this
   ·cases this
   ·rename_i hb
    simp at hb
    omega
end
def cv (l:List (Int×Int)) (j:Int):Prop:=∃ s∈l,s.1≤j∧j < s.2
structure Right (l:List (Int×Int)):Prop where
 ok:∀ s∈l,s.1 < s.2
 ord:l.Pairwise (fun s t=>s.2 < t.1)
theorem Right.tail {s:Int×Int} {l:List (Int×Int)} (h:Right (s :: l)):Right l:=⟨fun t ht=>h.ok t (by simp [ht]),(List.pairwise_cons.1 h.ord).2⟩
theorem Right.head {s:Int×Int} {l:List (Int×Int)} (h:Right (s :: l)):s.1 < s.2∧∀ t∈l,s.2 < t.1:=⟨h.ok s (by simp),(List.pairwise_cons.1 h.ord).1⟩
structure FromInv (p:List Bool) (k:Nat) (out:List (Int×Int)):Prop where
 right:Right out
 bd:∀ s∈out,s.2≤k
 last:onAt p (k - 1)=true→0 < k→∃ (i:List (Int×Int)) (y:Int×Int),out=i++[y]∧y.2=(k:Int)
 gap:onAt p (k - 1)=false→0 < k→∀ s∈out,s.2 < k
 cov:∀ j,cv out j↔∃ i:Nat,j=i∧i < k∧onAt p i=true
structure InB (s:Int×Int) (o0 b:List (Int×Int)) (st:Int×List (Int×Int)):Prop where
 lo:s.1≤st.1
 src:st.1=s.1∨∃ x∈b,st.1=x.2
 right:Right st.2
 bd:∀ t∈st.2,t.2 < st.1
 hi:∀ t∈st.2,t∈o0∨t.2≤s.2
 fre:∀ j,st.1≤j→j < s.2→¬ cv b j
 cov:∀ j,cv st.2 j↔cv o0 j∨(s.1≤j∧j < st.1∧j < s.2∧¬ cv b j)
structure InA (b a out:List (Int×Int)):Prop where
 right:Right out
 bd:∀ t∈out,∃ s∈a,t.2≤s.2
 cov:∀ j,cv out j↔cv a j∧¬ cv b j
theorem qqT {l:List (Int×Int)} {size:Int} (h:qfz l size=0):∀ s∈l,0≤s.1∧s.1 < s.2∧s.2≤size:=by
 intro s hs
 obtain ⟨i,hi⟩:=List.getElem?_of_mem hs
 exact qqU h hi
structure InP (l out:List (Int×Int)):Prop where
 right:Right out
 src:∀ t∈out,(∃ u∈l,t.1=u.1)∧∃ u∈l,t.2=u.2
 cov:∀ j,cv out j↔cv l j
section
variable {E:Envt}
end
section
variable {E:Envt}
end
end Go.Proofs.YtjgdjinhkgjpeabGreatDoor
namespace Go.Proofs.YtjgdjinhkgjpeabGreatDoor
open Nat renaming reduceAdd→zd,reduceEqDiff→zb,reduceLT→zf,reduceLeDiff→za,reduceMul→ze
open List renaming getD→zC,getD_eq_getElem?_getD→yj,getElem?_eq_getElem→zk,getElem?_eq_none→zR,getElem?_eq_some_iff→zo,getElem?_range→yc,length_map→zN,mem_of_getElem?→zn,range→zB,take_of_length_le→zJ,take_succ_eq_append_getElem→zI
open Bool renaming and_eq_true→zi
open Go.RowKit
def E0:Envt where
 ok w:=Lib.Utf8Tabs 2 3 w∧∃ m:Int,w.cell? ⟨0,0,none⟩=some (.int .i64 m)
 bl b:=b=2∨b=3∨b=0
 mono w w' hb h:=by
  obtain ⟨⟨h1,h2⟩,m,h3⟩:=h
  have e1:=hb _ (.inl rfl)
  have e2:=hb _ (.inr (.inl rfl))
  have e3:=hb _ (.inr (.inr rfl))
  exact ⟨⟨fun c hc=>(World.cell?_of_block (w:=w) e1).trans (h1 c hc),fun i hi=>⟨(World.cell?_of_block (w:=w) e2).trans (h2 i hi).1,(World.cell?_of_block (w:=w) e2).trans (h2 i hi).2⟩⟩,m,(World.cell?_of_block (w:=w) e3).trans h3⟩
theorem qpN (s:List UInt8) (hs:s.length≤1000000000000):PCall Tryz.prog E0 110 [.str s] (·=.bool (Lib.validD s)):=
 qbK rfl rfl fun w hE=>(Any.utf8_ValidString Tryz.layValid ⟨s.toArray⟩ w (by simp [ByteArray.size];omega) hE.1).mono fun e w' h=>⟨by rw [h.1];rfl,qdD h.2⟩
abbrev qcB:IC:=(sR [qO 4 (.mov (.c (.bool false)))] (sR [qM 5 0,qO 6 (.sln (.t 5)),qM 7 1,qO 8 (.sln (.t 7)),qT 9 .geq 6 8,qM 10 9,⟨some 11,.mov (.t 0),(some (10,true))⟩,⟨some 12,.mov (.t 0),(some (10,true))⟩,⟨some 13,.sln (.t 12),(some (10,true))⟩,⟨some 14,.mov (.t 1),(some (10,true))⟩,⟨some 15,.sln (.t 14),(some (10,true))⟩,⟨some 16,.bin .sub (.t 13) (.t 15),(some (10,true))⟩,⟨some 17,.ssl (.t 11) (some (.t 16)) none,(some (10,true))⟩,⟨some 18,.mov (.t 1),(some (10,true))⟩,⟨some 19,.bin .eql (.t 17) (.t 18),(some (10,true))⟩,qO 20 (.pick (.t 10) (.t 19) (.c (.bool false))),qM 4 20] .ret))
theorem qcQ:chkF Tryz.prog Tryz.f166 qcB [.t 4] 21=true:=by kernel_rfl
abbrev qgF:IC:=(sR [qO 4 (.mov (.c (.bool false)))] (sR [qM 5 0,qM 6 1,jC 7 166 [.t 5,.t 6],qM 4 7] .ret))
theorem qgS:chkF Tryz.prog Tryz.f121 qgF [.t 4] 8=true:=by kernel_rfl
abbrev qhR:IC:=(sR [jI 2 0] (sR [qM 3 0,qO 4 (.sln (.t 3)),qB 5 .gtr 4 (cI 20000),jC 6 30 [.t 5,.c (.int .i64 2)],qM 2 6] .ret))
theorem qh3:chkF Tryz.prog Tryz.f132 qhR [.t 2] 7=true:=by kernel_rfl
def qd0:IC:=(sR [qT 10 .lss 9 8] (.seq (jE 10) (.seq (.block 1 (sR [qM 11 9,qM 5 11] (sR [qM 12 0,qM 13 5,qO 14 (.idx (.t 12) (.t 13)),qM 6 14] (sR [qM 15 6,qB 16 .lss 15 (.c (.int .u8 32)),qM 17 16,⟨some 18,.mov (.t 1),(some (17,true))⟩,⟨some 19,.mov (.t 18),(some (17,true))⟩,⟨some 20,.mov (.t 6),(some (19,true))⟩,⟨some 21,.bin .eql (.t 20) (.c (.int .u8 10)),(some (19,true))⟩,⟨some 22,.pick (.t 19) (.t 21) (.c (.bool false)),(some (17,true))⟩,⟨some 23,.not (.t 22),(some (17,true))⟩,qO 24 (.pick (.t 17) (.t 23) (.c (.bool false))),qM 25 24,⟨some 26,.mov (.t 6),(some (25,false))⟩,⟨some 27,.bin .eql (.t 26) (.c (.int .u8 127)),(some (25,false))⟩,qO 28 (.pick (.t 25) (.c (.bool true)) (.t 27))] (jW 28 (sR [qO 4 (.mov (.c (.bool false)))] .ret)))))) (.reg [qB 29 .add 9 (cI 1),qM 9 29]))))
abbrev qjN:IC:=(sR [qO 4 (.mov (.c (.bool false)))] (.seq (sR [qM 7 0,qO 8 (.sln (.t 7)),jI 9 0] (.block 0 (.loop qd0))) (sR [qM 30 0,jC 31 110 [.t 30],qM 4 31] .ret)))
theorem qjS:chkF Tryz.prog Tryz.f120 qjN [.t 4] 32=true:=by kernel_rfl
abbrev qna:IC:=(sR [qO 2 (.mov (.c (.bool false)))] (sR [qM 3 0,jC 4 120 [.t 3,.c (.bool true)],qM 5 4,⟨some 6,.mov (.t 0),(some (5,true))⟩,⟨some 7,.bin .eql (.t 6) (.c (.str [])),(some (5,true))⟩,⟨some 8,.mov (.t 7),(some (5,true))⟩,⟨some 9,.mov (.t 0),(some (8,false))⟩,⟨some 10,.call 121 [.t 9,.c (.str [10])],(some (8,false))⟩,⟨some 11,.pick (.t 8) (.c (.bool true)) (.t 10),(some (5,true))⟩,qO 12 (.pick (.t 5) (.t 11) (.c (.bool false))),qM 2 12] .ret))
theorem qnq:chkF Tryz.prog Tryz.f133 qna [.t 2] 13=true:=by kernel_rfl
abbrev qfi:IC:=(sR [jI 4 0] (sR [qM 5 0,jC 6 132 [.t 5],qM 7 0,jC 8 133 [.t 7],qO 9 (.not (.t 8)),jC 10 30 [.t 9,.c (.int .i64 3)],qM 11 1,qM 12 0,qO 13 (.sln (.t 12)),jC 14 134 [.t 11,.t 13],qO 15 (.bsl 1 [.t 6,.t 10,.t 14]),jC 16 29 [.t 15],qM 4 16] .ret))
theorem qfp:chkF Tryz.prog Tryz.f83 qfi [.t 4] 17=true:=by kernel_rfl
abbrev qhh:IC:=(sR [qO 4 (.mov (.c (.bool false)))] (sR [qM 5 1,qM 6 0,qO 7 (.sln (.t 6)),qT 8 .lss 5 7,qM 9 8,⟨some 10,.mov (.t 0),(some (9,true))⟩,⟨some 11,.mov (.t 1),(some (9,true))⟩,⟨some 12,.idx (.t 10) (.t 11),(some (9,true))⟩,⟨some 13,.bin .shr (.t 12) (.c (.int .u64 6)),(some (9,true))⟩,⟨some 14,.bin .eql (.t 13) (.c (.int .u8 2)),(some (9,true))⟩,qO 15 (.pick (.t 9) (.t 14) (.c (.bool false))),qM 4 15] .ret))
theorem qhr:chkF Tryz.prog Tryz.f135 qhh [.t 4] 16=true:=by kernel_rfl
def qcX:IC:=(.seq (sR [qM 27 0,wF 28 1 7,qL 29 28,jC 30 135 [.t 27,.t 29]] (.cond (.t 30) .skip (.exit 4))) (.block 5 (.reg [wF 31 1 7,qL 32 31,qB 33 .add 32 (cI 1),wF 34 1 7,qS 1 34 33])))
def qcY:IC:=(.seq (sR [wF 14 0 7,qL 15 14,qB 16 .gtr 15 (cI 0),qM 17 16,⟨some 18,.mov (.t 0),(some (17,true))⟩,⟨some 19,.fla 0 (.t 7),(some (17,true))⟩,⟨some 20,.ld 1 false (.t 19),(some (17,true))⟩,⟨some 21,.call 135 [.t 18,.t 20],(some (17,true))⟩,qO 22 (.pick (.t 17) (.t 21) (.c (.bool false)))] (.cond (.t 22) .skip (.exit 2))) (.block 3 (.reg [wF 23 0 7,qL 24 23,qB 25 .sub 24 (cI 1),wF 26 0 7,qS 1 26 25])))
def qcZ:IC:=(sR [qT 11 .lss 10 9] (.seq (jE 11) (.seq (.block 1 (sR [qX 12 2 8 10,qO 13 (.ld 2 true (.t 12)),qO 7 (.alc 92 [.int .i64 0,.int .i64 0]),qS 2 7 13] (.seq (.block 2 (.loop qcY)) (.seq (.block 4 (.loop qcX)) (.reg [qM 35 5,qO 36 (.ld 2 true (.t 7)),qO 37 (.bsl 2 [.t 36]),qO 38 (.app 92 2 16 (.t 35) (.t 37)),qM 5 38]))))) (.reg [qB 39 .add 10 (cI 1),qM 10 39]))))
abbrev qhg:IC:=(sR [qO 4 (.mov (.c (.nl 2)))] (sR [qO 5 (.nilr 92 2)] (.seq (sR [qM 8 1,qN 9 8,jI 10 0] (.block 0 (.loop qcZ))) (sR [qM 40 5,qM 4 40] .ret))))
theorem qhq:chkF Tryz.prog Tryz.f84 qhg [.t 4] 41=true:=by kernel_rfl
def qc0:IC:=(.seq (sR [qM 29 10,wF 30 1 9,qL 31 30,qT 32 .lss 29 31] (.cond (.t 32) .skip (.exit 2))) (.seq (.block 3 (sR [qM 35 7,qM 36 10,qX 37 1 35 36,qL 38 37,qB 39 .neq 38 (.c (.int .u8 32)),qM 40 39,⟨some 41,.mov (.t 7),(some (40,true))⟩,⟨some 42,.mov (.t 10),(some (40,true))⟩,⟨some 43,.ixa 1 (.t 41) (.t 42),(some (40,true))⟩,⟨some 44,.ld 1 false (.t 43),(some (40,true))⟩,⟨some 45,.bin .neq (.t 44) (.c (.int .u8 10)),(some (40,true))⟩,qO 46 (.pick (.t 40) (.t 45) (.c (.bool false)))] (jW 46 (.reg [qM 47 7,qM 48 10,qX 49 1 47 48,⟨none,.st 1 (.t 49) (.c (.int .u8 35)),none⟩])))) (.cut (.reg [qM 33 10,qB 34 .add 33 (cI 1),qM 10 34]))))
def qc1:IC:=(sR [qT 24 .lss 23 22] (.seq (jE 24) (.seq (.block 1 (sR [qX 25 2 21 23,qO 26 (.ld 2 true (.t 25)),qO 9 (.alc 92 [.int .i64 0,.int .i64 0]),qS 2 9 26] (sR [wF 27 0 9,qL 28 27,qM 10 28] (.block 2 (.loop qc0))))) (.reg [qB 50 .add 23 (cI 1),qM 23 50]))))
abbrev qhi:IC:=(sR [qO 4 (.mov (.c (.str []))),jI 5 0] (.seq (sR [qM 11 0,qM 12 1,jC 13 83 [.t 11,.t 12],qM 6 13] (sR [qM 14 6,qB 15 .neq 14 (cI 0)] (jW 15 (sR [qM 16 6,qO 4 (.mov (.c (.str []))),qM 5 16] .ret)))) (sR [qM 17 0,qO 18 (.s2b 5 (.t 17)),qM 7 18] (.seq (sR [qM 19 0,qM 20 1,jC 21 84 [.t 19,.t 20],qN 22 21,jI 23 0] (.block 0 (.loop qc1))) (sR [qM 51 7,qO 52 (.b2s (.t 51)),qM 4 52,jI 5 0] .ret)))))
theorem qhs:chkF Tryz.prog Tryz.f45 qhi [.t 4,.t 5] 53=true:=by kernel_rfl
abbrev qeU:IC:=(sR [qO 0 (.mov (.c (.bool false)))] (sR [qO 4 (.bld [.int .i64 0,.int .i64 0] [(0,1,.c (.int .i64 0)),(1,1,.c (.int .i64 1))]),qO 5 (.bsl 2 [.t 4]),jC 6 45 [.c (.str [97,98,10]),.t 5],qM 3 6,qO 7 (.ext 0 (.t 3)),qO 8 (.ext 1 (.t 3)),qM 1 7,qM 2 8] (sR [qM 9 2,qB 10 .eql 9 (cI 0),qM 11 10,⟨some 12,.mov (.t 1),(some (11,true))⟩,⟨some 13,.bin .eql (.t 12) (.c (.str [35,98,10])),(some (11,true))⟩,qO 14 (.pick (.t 11) (.t 13) (.c (.bool false))),qM 0 14] .ret)))
theorem qe1:chkF Tryz.prog Tryz.f12 qeU [.t 0] 15=true:=by kernel_rfl
section
variable {E:Envt}
def sufE (s t:List UInt8):Bool:=decide ((t.length:Int)≤s.length) && decide (s.drop (s.length - t.length)=t)
theorem qhJ (s t:List UInt8) (hs:s.length≤1000000000000):PCall Tryz.prog E 166 [.str s,.str t] (·=.bool (sufE s t)):=by
 refine qah mixed Tryz.func166 qcQ ?_
 refine zV ?_
 ((with_reducible and_intros)<;>try exact sc_)
 rw [show ((s.length:Int) - t.length).toNat=s.length - t.length from by omega,List.take_length]
 rfl
theorem qiR (s t:List UInt8) (hs:s.length≤1000000000000):PCall Tryz.prog E 121 [.str s,.str t] (·=.bool (sufE s t)):=by
 refine qah mixed Tryz.func121 qgS ?_
 refine zV ?_
 refine use1 (qhJ s t hs) rfl (.inl rfl) ?_
 simp only [ZZ,WW,Ze,reduceCtorEq,zd,ze,za,zf,zb]
def qm6 (s:List UInt8):Int:=qaO (decide ((20000:Int) < s.length)) 2
theorem qtB (s:List UInt8):PCall Tryz.prog E 132 [.str s] (·=int (qm6 s)):=by
 refine qah mixed Tryz.func132 qh3 ?_
 refine zV ?_
 refine use1 (qee _ 2) rfl (.inl rfl) ?_
 refine zS ?_
 rfl
def insE (s:List UInt8) (i:Int):Bool:=decide (i < s.length) && decide (((s.getD i.toNat 0).toNat:Int) / 64=2)
theorem qnb (s:List UInt8) (i:Int) (hi:0≤i):PCall Tryz.prog E 135 [.str s,int i] (·=.bool (insE s i)):=by
 refine qah mixed Tryz.func135 qhr ?_
 refine zV ?_
 ((with_reducible and_intros)<;>try exact sc_)
 rw [show (2:Int) ^ min (Int.toNat 6) IntKind.u8.bits=64 from rfl,Int.fdiv_eq_ediv_of_nonneg _ (by omega)]
 rfl
def badB (feeds:Bool) (c:UInt8):Bool:=(decide ((c.toNat:Int) < 32) && !(feeds && decide ((c.toNat:Int)=10))) || decide ((c.toNat:Int)=127)
def visE (s:List UInt8) (feeds:Bool):Bool:=(s.all fun c=>!badB feeds c) && Lib.validD s
theorem qmd {s:List UInt8} {k:Nat} {c:UInt8} {p:UInt8→Bool} (h:s[k]?=some c):(s.take (k+1)).all p=((s.take k).all p && p c):=by
 obtain ⟨hk,hx⟩:=zo.1 h
 rw [zI hk,List.all_append,hx]
 simp
end
set_option maxHeartbeats 2000000 in
theorem qkW (s:List UInt8) (feeds:Bool) (hs:s.length≤1000000000):PCall Tryz.prog E0 120 [.str s,.bool feeds] (·=.bool (visE s feeds)):=by
 refine qah mixed Tryz.func120 qjS ?_
 refine zV ?_
 refine qad (fun n fr L=>∃ (k:Nat),k≤s.length∧n=s.length - k∧(((s.take k).all fun c=>!badB feeds c)=true)∧fr=(.p (.str s)::.p (.bool feeds)::oC (oB (.p (int (s.length:Nat))::.p (int (k:Nat))::oE (oC (oB [])))))∧L=[]) (s.length) (.p (.str s)::.p (.bool feeds)::oC (oB (.p (int (s.length:Nat))::.p (int (0:Nat))::oE (oC (oB []))))) [] zF_ zF_ ⟨0,by omega,by omega,by simp,rfl,rfl⟩ ?_
 rintro n fr L ⟨k,hk,rfl,hall,rfl,rfl⟩
 simp only [qd0,ZZ,WW,Ze,reduceCtorEq,zd,ze,za,zf,zb]
 refine br ?_ ?_
 ·intro h
  have hlt:k < s.length:=by have:=of_decide_eq_true h;omega
  obtain ⟨c,hc⟩:∃ x,s[k]?=some x:=⟨_,zk hlt⟩
  have hg:s.getD k 0=c:=by simp [zC,hc]
  have hnx:=qmd (p:=fun c=>!badB feeds c) hc
  simp only [ZZ,WW,Ze,reduceCtorEq,zd,ze,za,zf,zb,hg]
  ((with_reducible and_intros)<;>try exact sc_)
  refine br ?_ ?_
  ·intro hb
   have hb:badB feeds c=true:=hb
   refine zS ?_
   have:(s.all fun c=>!badB feeds c)=false:=by
    rw [List.all_eq_false]
    exact ⟨c,zn hc,by simp [hb]⟩
   simp [visE,this]
  ·intro hb
   have hb:badB feeds c=false:=hb
   refine zS ?_
   ((with_reducible and_intros)<;>try exact sc_)
   refine qab (s.length - (k+1)) (.p (.str s)::.p (.bool feeds)::oC (oB (.p (int (s.length:Nat))::.p (int ((k+1):Nat))::oE (oC (oB []))))) [] (by omega) zF_ zF_ ⟨k+1,by omega,rfl,by rw [hnx,hall,hb];rfl,rfl,rfl⟩
 ·intro h
  have hge:s.length≤k:=by have:=of_decide_eq_false h;omega
  rw [zJ hge] at hall
  refine zS ?_
  refine use1 (qpN s (by omega)) rfl (.inl rfl) ?_
  refine zS ?_
  simp [visE,hall]
def qqK (s:List UInt8):Bool:=visE s true && (decide (s=[]) || sufE s [10])
theorem qw5 (s:List UInt8) (hs:s.length≤1000000000):PCall Tryz.prog E0 133 [.str s] (·=.bool (qqK s)):=by
 refine qah mixed Tryz.func133 qnq ?_
 refine zV ?_
 refine use1 (qkW s true hs) rfl (.inl rfl) ?_
 refine zS ?_
 ((with_reducible and_intros)<;>try exact sc_)
 refine useG (fun _=>qiR s [10] (by omega)) rfl (.inl rfl) ?_
 refine zS ?_
 ((with_reducible and_intros)<;>try exact sc_)
def tErr (s:List UInt8) (l:List (Int×Int)):Int:=qar [qm6 s,qaO (!qqK s) 3,qfz l s.length]
theorem qmy (s:List UInt8) (l:List (Int×Int)) (hs:s.length≤1000000000) (hl:l.length≤1000000):PCall Tryz.prog E0 83 [.str s,sps l] (·=int (tErr s l)):=by
 refine qah mixed Tryz.func83 qfp ?_
 refine zV ?_
 refine use1 (qtB s) rfl (.inl rfl) ?_
 refine zS ?_
 refine use1 (qw5 s hs) rfl (.inl rfl) ?_
 refine zS ?_
 refine use1 (qee _ 3) rfl (.inl rfl) ?_
 refine zS ?_
 refine use1 (qmt l s.length hl) rfl (.inl rfl) ?_
 refine zS ?_
 refine use1 (qe9 [qm6 s,qaO (!qqK s) 3,qfz l s.length] (by simp)) rfl (.inl rfl) ?_
 refine zS ?_
 rfl
def qjT (s:List UInt8):Nat→Nat
 |0=>0
 |n+1=>if insE s ((n+1:Nat):Int)=true then qjT s n else n+1
def fwdN (s:List UInt8):Nat→Nat→Nat
 |0,n=>n
 |f+1,n=>if insE s (n:Int)=true then fwdN s f (n+1) else n
theorem qrK {s:List UInt8} {n:Nat} (h:insE s (n:Int)=true):n < s.length:=by
 simp only [insE,zi,decide_eq_true_eq] at h
 omega
theorem qrO (s:List UInt8):∀ f n,n≤s.length→fwdN s f n≤s.length
 |0,n,h=>h
 |f+1,n,h=>by
  unfold fwdN
  split
  ·rename_i hi
   exact qrO s f (n+1) (qrK hi)
  ·exact h
def pntF (s:List UInt8) (p:Int×Int):Int×Int:=((qjT s p.1.toNat:Nat),(fwdN s (s.length - p.2.toNat) p.2.toNat:Nat))
def qdG (s:List UInt8) (l:List (Int×Int)):List (Int×Int):=l.map (pntF s)
section
variable {E:Envt}
set_option maxHeartbeats 2000000 in
theorem qrh (s:List UInt8) (l:List (Int×Int)) (hs:s.length≤1000000000) (hl:l.length≤1000000) (hb:∀ p∈l,0≤p.1∧p.1≤1000000000∧0≤p.2∧p.2≤s.length) :
  FCall Tryz.prog E 84 [.str s,sps l] qbJ 2 (·=(qdG s l).map spn):=by
 unfold FCall
 refine qf0 mixed Tryz.func84 qhq ?_
 refine zV ?_
 simp only [sps,ZZ,WW,Ze,reduceCtorEq,zd,ze,za,zf,zb]
 have hln:(l.map spn).length=l.length:=by simp
 have hget:∀ k p,l[k]?=some p→(l.map spn).getD k []=[int p.1,int p.2]:=fun k p hp=>qaR hp
 generalize l.map spn=es at hln hget ⊢
 refine qad (fun n fr L=>∃ (k:Nat) (out:List (Int×Int)),k≤l.length∧n=l.length - k∧(out=(qdG s l).take k)∧fr=(.p (.str s)::oo::oo::oo::oo::.row (.l 5)::oo::oo::.p (.sl 2 es)::.p (int (l.length:Nat))::.p (int (k:Nat))::oE (oD (oC (oB []))))∧L=[(.l 5,.row (out.map spn) qbJ 2 true)]) (l.length) (.p (.str s)::oo::oo::oo::oo::.row (.l 5)::oo::oo::.p (.sl 2 es)::.p (int (l.length:Nat))::.p (int (0:Nat))::oE (oD (oC (oB [])))) [(.l 5,.row ([].map spn) qbJ 2 true)] (by simp only [hln,ZZ,WW,Ze,reduceCtorEq,zd,ze,za,zf,zb];try trivial) zF_ ⟨0,[],by omega,by omega,by simp,rfl,rfl⟩ ?_
 rintro n fr L ⟨k,out,hk,rfl,hout,rfl,rfl⟩
 simp only [qcZ,ZZ,WW,Ze,reduceCtorEq,zd,ze,za,zf,zb]
 refine br ?_ ?_
 ·intro h
  have hlt:k < l.length:=by have:=of_decide_eq_true h;omega
  obtain ⟨p,hp⟩:∃ x,l[k]?=some x:=⟨_,zk hlt⟩
  have hg:=hget k p hp
  obtain ⟨hp1,hp2,hp3,hp4⟩:=hb p (zn hp)
  have hol:out.length≤k:=by rw [hout];simp;omega
  obtain ⟨a,ha⟩:=Int.eq_ofNat_of_zero_le hp1
  obtain ⟨b,hbb⟩:=Int.eq_ofNat_of_zero_le hp3
  have hpn:pntF s p=(((qjT s a:Nat):Int),((fwdN s (s.length - b) b:Nat):Int)):=by rw [show p=((a:Int),(b:Int)) from by rw [← ha,← hbb]];rfl
  have hbn:b≤s.length:=by omega
  rw [ha,hbb] at hg
  simp only [ZZ,WW,Ze,reduceCtorEq,zd,ze,za,zf,zb,hg,hln]
  ((with_reducible and_intros)<;>try exact sc_)
  refine qad (fun n fr L=>∃ (f:Nat),f=n∧(qjT s f=qjT s a)∧(f≤a)∧fr=(.p (.str s)::oo::oo::oo::oo::.row (.l 5)::oo::.adr (.l 7) 0::.p (.sl 2 es)::.p (int (l.length:Nat))::.p (int (k:Nat))::oE (oD (oC (oB []))))∧L=[(.l 5,.row (out.map spn) qbJ 2 true),(.l 7,.box [.p (int (f:Nat)),.p (int (b:Nat))] qbJ)]) (a) (.p (.str s)::oo::oo::oo::oo::.row (.l 5)::oo::.adr (.l 7) 0::.p (.sl 2 es)::.p (int (l.length:Nat))::.p (int (k:Nat))::oE (oD (oC (oB [])))) [(.l 5,.row (out.map spn) qbJ 2 true),(.l 7,.box [.p (int (a:Nat)),.p (int (b:Nat))] qbJ)] zF_ zF_ ⟨a,rfl,rfl,Nat.le_refl _,rfl,rfl⟩ ?_
  rintro n fr L ⟨f,rfl,hf,hfa,rfl,rfl⟩
  simp only [qcY,ZZ,WW,Ze,reduceCtorEq,zd,ze,za,zf,zb]
  refine useG (fun _=>qnb s (f:Nat) (by omega)) rfl (.inl rfl) ?_
  refine zS ?_
  refine br ?_ ?_
  ·intro hc
   simp only [zi,decide_eq_true_eq] at hc
   obtain ⟨g,rfl⟩:∃ g,f=g+1:=⟨f - 1,by omega⟩
   have hgg:((g+1:Nat):Int) - 1=(g:Nat):=by omega
   simp only [ZZ,WW,Ze,reduceCtorEq,zd,ze,za,zf,zb,hgg]
   ((with_reducible and_intros)<;>try exact sc_)
   refine qab ((g)) (.p (.str s)::oo::oo::oo::oo::.row (.l 5)::oo::.adr (.l 7) 0::.p (.sl 2 es)::.p (int (l.length:Nat))::.p (int (k:Nat))::oE (oD (oC (oB [])))) [(.l 5,.row (out.map spn) qbJ 2 true),(.l 7,.box [.p (int ((g):Nat)),.p (int (b:Nat))] qbJ)] (by omega) zF_ zF_ ⟨g,rfl,by rw [← hf,qjT,if_pos hc.2],by omega,rfl,rfl⟩
  ·intro hc
   have hfn:f=qjT s a:=by
    rw [← hf]
    cases f with
    |zero=>rfl
    |succ g=>
     have:insE s ((g+1:Nat):Int)=false:=by simpa using hc
     rw [qjT,if_neg (by rw [this];simp)]
   rw [hfn]
   refine zS ?_
   refine qad (fun n fr L=>∃ (g:Nat),s.length - g=n∧(fwdN s (s.length - g) g=fwdN s (s.length - b) b)∧(g≤s.length)∧fr=(.p (.str s)::oo::oo::oo::oo::.row (.l 5)::oo::.adr (.l 7) 0::.p (.sl 2 es)::.p (int (l.length:Nat))::.p (int (k:Nat))::oE (oD (oC (oB []))))∧L=[(.l 5,.row (out.map spn) qbJ 2 true),(.l 7,.box [.p (int (qjT s a:Nat)),.p (int (g:Nat))] qbJ)]) (s.length - b) (.p (.str s)::oo::oo::oo::oo::.row (.l 5)::oo::.adr (.l 7) 0::.p (.sl 2 es)::.p (int (l.length:Nat))::.p (int (k:Nat))::oE (oD (oC (oB [])))) [(.l 5,.row (out.map spn) qbJ 2 true),(.l 7,.box [.p (int (qjT s a:Nat)),.p (int (b:Nat))] qbJ)] zF_ zF_ ⟨b,rfl,rfl,hbn,rfl,rfl⟩ ?_
   rintro n fr L ⟨g,rfl,hg2,hgb,rfl,rfl⟩
   simp only [qcX,ZZ,WW,Ze,reduceCtorEq,zd,ze,za,zf,zb]
   refine use1 (qnb s (g:Nat) (by omega)) rfl (.inl rfl) ?_
   refine zS ?_
   refine br ?_ ?_
   ·intro hc
    have hgl:=qrK hc
    refine zS ?_
    ((with_reducible and_intros)<;>try exact sc_)
    refine qab (s.length - (g+1)) (.p (.str s)::oo::oo::oo::oo::.row (.l 5)::oo::.adr (.l 7) 0::.p (.sl 2 es)::.p (int (l.length:Nat))::.p (int (k:Nat))::oE (oD (oC (oB [])))) [(.l 5,.row (out.map spn) qbJ 2 true),(.l 7,.box [.p (int (qjT s a:Nat)),.p (int ((g+1):Nat))] qbJ)] (by omega) zF_ zF_ ⟨g+1,rfl,by rw [← hg2,show s.length - g=(s.length - (g+1))+1 from by omega,fwdN,if_pos hc],by omega,rfl,rfl⟩
   ·intro hc
    have hgn:g=fwdN s (s.length - b) b:=by
     rw [← hg2]
     cases hh:s.length - g with
     |zero=>rfl
     |succ m=>rw [fwdN,if_neg (by rw [hc];simp)]
    rw [hgn]
    refine zS ?_
    simp only [zN]
    ((with_reducible and_intros)<;>try exact sc_)
    refine qab (l.length - (k+1)) (.p (.str s)::oo::oo::oo::oo::.row (.l 5)::oo::oo::.p (.sl 2 es)::.p (int (l.length:Nat))::.p (int ((k+1):Nat))::oE (oD (oC (oB [])))) [(.l 5,.row ((out++[pntF s p]).map spn) qbJ 2 true)] (by omega) zF_ (by rw [List.map_append,hpn];simp only [spn,ZZ,WW,Ze,reduceCtorEq,zd,ze,za,zf,zb]) ⟨k+1,out++[pntF s p],by omega,rfl,by rw [hout,qdG,zI (by simpa using hlt)];congr 2;simp;rw [(zo.1 hp).2],rfl,rfl⟩
 ·intro h
  have hge:l.length≤k:=by have:=of_decide_eq_false h;omega
  have:(qdG s l).take k=qdG s l:=zJ (by simp [qdG];exact hge)
  rw [this] at hout
  refine zS ?_
  exact qke 5 _ rfl rfl (by rw [hout])
end
def bU (n:Nat) (g:Nat→UInt8):List (List PV):=(zB n).map fun j=>[.int .u8 ((g j).toNat:Nat)]
theorem qsg (n:Nat) (g:Nat→UInt8):(bU n g).length=n:=by simp [bU]
theorem quR {n i:Nat} {g:Nat→UInt8} (h:i < n):(bU n g).getD i []=[.int .u8 ((g i).toNat:Nat)]:=by
 simp [bU,zC,List.getElem?_map,yc h]
theorem quQ {n i:Nat} {g:Nat→UInt8} (c:UInt8):(bU n g).set i [.int .u8 (c.toNat:Nat)]=bU n (fun j=>if j=i then c else g j):=by
 apply List.ext_getElem?
 intro j
 by_cases hj:j < n
 ·by_cases he:j=i
  ·subst he
   rw [List.getElem?_set_self (by simpa [bU] using hj)]
   simp [bU,yc hj]
  ·rw [List.getElem?_set_ne (fun e=>he e.symm)]
   simp [bU,yc hj,he]
 ·rw [zR (by simpa [bU] using hj),zR (by simpa [bU] using hj)]
theorem qyc (s:List UInt8):(s.map fun q=>[PV.int .u8 (q.toNat:Nat)])=bU s.length (fun j=>s.getD j 0):=by
 apply List.ext_getElem?
 intro j
 by_cases hj:j < s.length
 ·simp [bU,yc hj,zk hj,zC]
 ·rw [zR (by simpa using hj),zR (by simpa [bU] using hj)]
theorem qpF (n:Nat) (g:Nat→UInt8):qg6 (bU n g)=some ((zB n).map g):=by
 have:∀ l:List Nat,qg6 (l.map fun j=>[PV.int .u8 ((g j).toNat:Nat)])=some (l.map g):=by
  intro l
  induction l with
  |nil=>rfl
  |cons x r ih=>simp [qg6,ih]
 exact this _
def qib (c:UInt8):Bool:=decide ((c.toNat:Int)=32) || decide ((c.toNat:Int)=10)
def redG (s:List UInt8) (m:Nat→Bool) (j:Nat):UInt8:=if (m j && !qib (s.getD j 0))=true then 35 else s.getD j 0
theorem qvN {s:List UInt8} {m:Nat→Bool} {i:Nat} (h:qib (redG s m i)=false):(fun j=>if j=i then 35 else redG s m j)=redG s (fun j=>m j || decide (j=i)):=by
 funext j
 by_cases hj:j=i
 ·subst hj
  have hb:qib (s.getD j 0)=false:=by
   unfold redG at h
   split at h
   ·rename_i hc;simp at hc;exact hc.2
   ·exact h
  simp only [redG,if_true,hb];simp
 ·simp [redG,hj]
theorem qta {s:List UInt8} {m:Nat→Bool} {i:Nat} (h:qib (redG s m i)=true):redG s m=redG s (fun j=>m j || decide (j=i)):=by
 funext j
 by_cases hj:j=i
 ·subst hj
  have hb:qib (s.getD j 0)=true:=by
   unfold redG at h
   split at h
   ·exact absurd h (by decide)
   ·exact h
  simp only [redG,hb];simp
 ·simp [redG,hj]
def qoa (s:List UInt8) (l:List (Int×Int)):List UInt8:=(zB s.length).map (redG s (cov (qdG s l)))
theorem qqM {s:List UInt8} {l:List (Int×Int)} (h:tErr s l=0):s.length≤20000∧qqK s=true∧qfz l s.length=0:=by
 have hm:=qkN h
 have h1:=hm (qm6 s) (by simp)
 have h2:=hm (qaO (!qqK s) 3) (by simp)
 have h3:=hm (qfz l s.length) (by simp)
 refine ⟨?_,?_,h3⟩
 ·unfold qm6 qaO at h1
  split at h1
  ·cases h1
  ·rename_i hh;simp at hh;omega
 ·unfold qaO at h2
  split at h2
  ·cases h2
  ·rename_i hh;simpa using hh
set_option maxHeartbeats 2000000 in
theorem qsr (s:List UInt8) (l:List (Int×Int)) (hs:s.length≤1000000000) (hl:l.length≤1000000) :
  PCall Tryz.prog E0 45 [.str s,sps l] (·=.tup [.str (if tErr s l=0 then qoa s l else []),int (tErr s l)]):=by
 refine qah mixed Tryz.func45 qhs ?_
 refine zV ?_
 refine use1 (qmy s l hs hl) rfl (.inl rfl) ?_
 refine zS ?_
 refine br ?_ ?_
 ·intro h
  have h:¬ tErr s l=0:=by simpa using h
  refine zS ?_
  rw [if_neg h]
 ·intro h
  have h:tErr s l=0:=by simpa using h
  obtain ⟨h1,h2,h3⟩:=qqM h
  have h4:=qqT h3
  rw [if_pos h,h]
  refine zS ?_
  ((with_reducible and_intros)<;>try exact sc_)
  refine useF (qrh s l hs hl (fun p hp=>by have:=h4 p hp;omega)) rfl rfl ?_
  rintro es rfl
  have hpl:(qdG s l).length=l.length:=by simp [qdG]
  have hpb:∀ p∈qdG s l,0≤p.1∧0≤p.2∧p.2≤s.length:=by
   intro p hp
   obtain ⟨q,hq,rfl⟩:=List.mem_map.1 hp
   have:=h4 q hq
   have:=qrO s (s.length - q.2.toNat) q.2.toNat (by omega)
   simp only [pntF]
   omega
  unfold qoa
  generalize qdG s l=ps at *
  have hln:(ps.map spn).length=l.length:=by simp [hpl]
  rw [qyc]
  simp only [ZZ,WW,Ze,reduceCtorEq,zd,ze,za,zf,zb,hln]
  have hget:∀ k p,ps[k]?=some p→(ps.map spn).getD k []=[int p.1,int p.2]:=fun k p hp=>qaR hp
  generalize hes:ps.map spn=es at hln hget ⊢
  refine qad (fun n fr L=>∃ (k:Nat) (g:Nat→UInt8),k≤l.length∧n=l.length - k∧(g=redG s (cov (ps.take k)))∧fr=(oC (oB (oo::(.row (.l 18)::oD (oC (oo::(.row (.l 21)::.p (int (l.length:Nat))::.p (int (k:Nat))::oE (oD (oC (oo::[]))))))))))∧L=[(.l 18,.row (bU s.length g) 5 1 false),(.l 21,.row es qbJ 2 true)]) (l.length) (oC (oB (oo::(.row (.l 18)::oD (oC (oo::(.row (.l 21)::.p (int (l.length:Nat))::.p (int (0:Nat))::oE (oD (oC (oo::[])))))))))) [(.l 18,.row (bU s.length (fun j=>s.getD j 0)) 5 1 false),(.l 21,.row es qbJ 2 true)] zF_ zF_ ⟨0,fun j=>s.getD j 0,by omega,by omega,by funext j;simp [redG,cov],rfl,rfl⟩ ?_
  rintro n fr L ⟨k,g,hk,rfl,hg,rfl,rfl⟩
  simp only [qc1,ZZ,WW,Ze,reduceCtorEq,zd,ze,za,zf,zb]
  refine br ?_ ?_
  ·intro h
   have hlt:k < ps.length:=by have:=of_decide_eq_true h;omega
   obtain ⟨p,hp⟩:∃ x,ps[k]?=some x:=⟨_,zk hlt⟩
   have hg1:=hget k p hp
   obtain ⟨hp1,hp3,hp4⟩:=hpb p (zn hp)
   obtain ⟨a,ha⟩:=Int.eq_ofNat_of_zero_le hp1
   obtain ⟨b,hbb⟩:=Int.eq_ofNat_of_zero_le hp3
   have hbn:b≤s.length:=by omega
   have hcv:=fun j=>qt0 hp j
   rw [ha,hbb] at hg1 hcv
   simp only [ZZ,WW,Ze,reduceCtorEq,zd,ze,za,zf,zb,hg1,hln]
   ((with_reducible and_intros)<;>try exact sc_)
   refine qad (fun n fr L=>∃ (i:Nat) (g':Nat→UInt8),b - i=n∧(a≤i)∧(i≤max a b)∧(g'=redG s (fun j=>cov (ps.take k) j || (decide (a≤j) && decide (j < i))))∧fr=(oC (oB (oo::(.row (.l 18)::oo::.adr (.l 9) 0::.p (int (i:Nat))::oD (oB (.row (.l 21)::.p (int (l.length:Nat))::.p (int (k:Nat))::oE (oD (oC (oo::[])))))))))∧L=[(.l 18,.row (bU s.length g') 5 1 false),(.l 21,.row es qbJ 2 true),(.l 9,.box [.p (int (a:Nat)),.p (int (b:Nat))] qbJ)]) (b - a) (oC (oB (oo::(.row (.l 18)::oo::.adr (.l 9) 0::.p (int (a:Nat))::oD (oB (.row (.l 21)::.p (int (l.length:Nat))::.p (int (k:Nat))::oE (oD (oC (oo::[]))))))))) [(.l 18,.row (bU s.length g) 5 1 false),(.l 21,.row es qbJ 2 true),(.l 9,.box [.p (int (a:Nat)),.p (int (b:Nat))] qbJ)] zF_ zF_ ⟨a,g,rfl,Nat.le_refl _,by omega,by rw [hg];congr 1;funext j;simp;omega,rfl,rfl⟩ ?_
   rintro n fr L ⟨i,g',rfl,hi,him,hg',rfl,rfl⟩
   simp only [qc0,ZZ,WW,Ze,reduceCtorEq,zd,ze,za,zf,zb]
   refine br ?_ ?_
   ·intro h2
    have h2:=of_decide_eq_true h2
    have hib:i < b:=by omega
    have hgi:(bU s.length g').getD i []=[.int .u8 ((g' i).toNat:Nat)]:=quR (by omega)
    have hbl:=qsg s.length g'
    have hset:(bU s.length g').set i [.int .u8 35]=bU s.length (fun j=>if j=i then 35 else g' j):=quQ (35:UInt8)
    have hmm:(fun j=>(cov (ps.take k) j || (decide (a≤j) && decide (j < i))) || decide (j=i))=(fun j=>cov (ps.take k) j || (decide (a≤j) && decide (j < i+1))):=by
     funext j
     rw [Bool.or_assoc]
     congr 1
     by_cases hj:j=i
     ·subst hj;simp [hi]
     ·simp only [hj,decide_false,Bool.or_false]
      congr 1
      simp only [decide_eq_decide]
      omega
    simp only [ZZ,WW,Ze,reduceCtorEq,zd,ze,za,zf,zb,hgi,hbl]
    ((with_reducible and_intros)<;>try exact sc_)
    refine br ?_ ?_
    ·intro hc
     have hb:qib (g' i)=false:=by
      simp only [zi,Bool.not_eq_true'] at hc
      simp [qib,hc.1,hc.2]
     have hnx:=qvN (s:=s) (i:=i) (by rw [← hg'];exact hb)
     rw [← hg',hmm] at hnx
     simp only [ZZ,WW,Ze,reduceCtorEq,zd,ze,za,zf,zb,hgi,hbl,hset,hnx]
     ((with_reducible and_intros)<;>try exact sc_)
     refine qae zE_ ?_
     refine zS ?_
     ((with_reducible and_intros)<;>try exact sc_)
     refine qab (b - (i+1)) (oC (oB (oo::(.row (.l 18)::oo::.adr (.l 9) 0::.p (int ((i+1):Nat))::oD (oB (.row (.l 21)::.p (int (l.length:Nat))::.p (int (k:Nat))::oE (oD (oC (oo::[]))))))))) [(.l 18,.row (bU s.length (redG s (fun j=>cov (ps.take k) j || (decide (a≤j) && decide (j < i+1))))) 5 1 false),(.l 21,.row es qbJ 2 true),(.l 9,.box [.p (int (a:Nat)),.p (int (b:Nat))] qbJ)] (by omega) zF_ zF_ ⟨i+1,redG s (fun j=>cov (ps.take k) j || (decide (a≤j) && decide (j < i+1))),rfl,by omega,by omega,rfl,rfl,rfl⟩
    ·intro hc
     have hb:qib (g' i)=true:=by
      simp only [Bool.and_eq_false_iff,Bool.not_eq_false'] at hc
      rcases hc with hc|hc<;>simp [qib,hc]
     have hnx:=qta (s:=s) (i:=i) (by rw [← hg'];exact hb)
     rw [hmm] at hnx
     refine zS ?_
     refine qae zE_ ?_
     refine zS ?_
     ((with_reducible and_intros)<;>try exact sc_)
     refine qab (b - (i+1)) (oC (oB (oo::(.row (.l 18)::oo::.adr (.l 9) 0::.p (int ((i+1):Nat))::oD (oB (.row (.l 21)::.p (int (l.length:Nat))::.p (int (k:Nat))::oE (oD (oC (oo::[]))))))))) [(.l 18,.row (bU s.length g') 5 1 false),(.l 21,.row es qbJ 2 true),(.l 9,.box [.p (int (a:Nat)),.p (int (b:Nat))] qbJ)] (by omega) zF_ zF_ ⟨i+1,g',rfl,by omega,by omega,by rw [hg'];exact hnx,rfl,rfl⟩
   ·intro h2
    have h2:=of_decide_eq_false h2
    have hnx:g'=redG s (cov (ps.take (k+1))):=by
     rw [hg']
     congr 1
     funext j
     rw [hcv]
     congr 1
     rw [Bool.eq_iff_iff,zi,zi,decide_eq_true_eq,decide_eq_true_eq,decide_eq_true_eq,decide_eq_true_eq]
     omega
    refine zS ?_
    ((with_reducible and_intros)<;>try exact sc_)
    refine qab (l.length - (k+1)) (oC (oB (oo::(.row (.l 18)::oD (oC (oo::(.row (.l 21)::.p (int (l.length:Nat))::.p (int ((k+1):Nat))::oE (oD (oC (oo::[])))))))))) [(.l 18,.row (bU s.length (g')) 5 1 false),(.l 21,.row es qbJ 2 true)] (by omega) zF_ zF_ ⟨k+1,g',by omega,rfl,hnx,rfl,rfl⟩
  ·intro h
   have hge:ps.length≤k:=by have:=of_decide_eq_false h;omega
   rw [zJ hge] at hg
   simp only [ZZ,WW,Ze,reduceCtorEq,zd,ze,za,zf,zb,qpF]
   rw [hg]
theorem qlr:PCall Tryz.prog E0 12 [] (·=.bool true):=by
 refine qah mixed Tryz.func12 qe1 ?_
 refine zV ?_
 refine use1 (qsr [97,98,10] [(0,1)] (by simp) (by simp)) rfl (.inl rfl) ?_
 have h1:tErr [97,98,10] [(0,1)]=0:=by decide +kernel
 have h2:qoa [97,98,10] [(0,1)]=[35,98,10]:=by decide +kernel
 rw [if_pos h1,h1,h2]
 refine zS ?_
 rfl
def qut (k:IntKind) (w:World) (a:Option Addr) (len cap:Nat) (zs:List Int):Prop:=
 (a=none∧len=0∧cap=0∧zs=[])∨
 ∃ x,a=some x∧len≤cap∧cap≤maxLen∧zs.length=cap∧(∀ i,i < zs.length→w.cell? (x.add i)=some (.int k (zs.getD i 0)))∧∀ n∈zs,(Lit.int k n).wf=true
theorem qmL {w:World} {U:Nat→Prop} {b:Nat}:∀ (l:List Int) (off:Nat),(∀ i,i < l.length→w.cell? ⟨b,off+i,none⟩=some (.int .i64 (l.getD i 0)))→PRepE w U b 1 off (l.map fun x=>[.int .i64 x])
 |[],off,h=>trivial
 |x :: r,off,h=>by
  refine ⟨rfl,⟨⟨_,by simpa using h 0 (by simp),rfl,rfl⟩,trivial⟩,qmL r (off+1) (fun i hi=>?_)⟩
  have:=h (i+1) (by simpa using hi)
  rw [show off+1+i=off+(i+1) from by omega]
  simpa using this
theorem qrI {w:World} {a:Option Addr} {len cap:Nat} {zs:List Int} (h:qut .i64 w a len cap zs):PRep w (fun _=>False) (ints (zs.take len)) (.slice a len cap)∧(zs.take len).length≤9223372036854775807:=by
 rcases h with ⟨rfl,rfl,rfl,rfl⟩|⟨x,rfl,h1,h2,h3,h4,_⟩
 ·exact ⟨⟨none,0,rfl,by simp,fun h=>by simp at h⟩,by simp⟩
 ·have hl:(zs.take len).length=len:=by rw [List.length_take];omega
  refine ⟨⟨some x,cap,by rw [zN,hl],by rw [zN,hl];exact h1,fun hne=>?_⟩,by rw [hl];unfold maxLen at h2;omega⟩
  have h0:0 < len:=by
   rcases Nat.eq_zero_or_pos len with h'|h'
   ·subst h';simp at hne
   ·exact h'
  obtain ⟨b,off,spot⟩:=x
  have hc:=h4 0 (by omega)
  have hspot:spot=none:=by simpa [Addr.add] using World.cell?_spot hc
  subst hspot
  have hb:b < w.heap.size:=by
   have:=World.block_lt_of_cell? w _ hc
   simpa [Addr.add] using this
  refine ⟨b,off,rfl,hb,fun h=>h,qmL _ _ (fun i hi=>?_)⟩
  rw [hl] at hi
  have:=h4 i (by omega)
  rw [qaW] at this
  rw [this]
  congr 2
  rw [yj,yj,List.getElem?_take_of_lt hi]
theorem quX {P:Program} {E:Envt} {f:FuncId} (h:∀ z:List Int,z.length≤9223372036854775807→PCall P E f [ints z] (·=.bool true)) (a0:Option Addr) (len0 cap0:Nat) (z0:List Int) (w:World) (h0:qut .i64 w a0 len0 cap0 z0) (hok:E.ok w) (hbl:∀ b,E.bl b→b < w.heap.size) :
  Calls P f #[.slice a0 len0 cap0] w fun e w'=>e=.returned (.bool true)∧Below w.heap.size w w':=by
 obtain ⟨h1,h2⟩:=qrI h0
 refine (h _ h2 w (fun _=>False) [.slice a0 len0 cap0] (fun _ h=>h.elim) hok hbl ⟨_,[],rfl,h1,rfl⟩).mono ?_
 rintro e w' ⟨v,x,rfl,rfl,hv,hg⟩
 refine ⟨by rw [PRep.bool_eq hv],⟨hg.os,hg.tape,hg.output,hg.size,fun k hk=>hg.block k hk (fun h=>h)⟩⟩
end Go.Proofs.YtjgdjinhkgjpeabGreatDoor
