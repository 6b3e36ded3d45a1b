import Derived.Test.YtjgdjinhkgjpeaaGreatDoorZ4
import Derived.Test.YtjgdjinhkgjpeaaGreatDoorProg
import Derived.KernelRfl
import Derived.Test.YtjgdjinhkgjpeaaGreatDoorZ5
import Derived.Test.YtjgdjinhkgjpeaaGreatDoorLayValid
import Derived.Test.YtjgdjinhkgjpeaaGreatDoorLayItoa
import Derived.Test.YtjgdjinhkgjpeaaGreatDoorLayTZ
import Derived.Test.YtjgdjinhkgjpeaaGreatDoorLayIndex
import Derived.Test.YtjgdjinhkgjpeaaGreatDoorRep
import Derived.Test.YtjgdjinhkgjpeaaGreatDoorLayIndexByte
import Derived.WalkKit
import Derived.OwnWalk
import Derived.Lib.Builder
import Derived.Laws.Externs
import Derived.Maps.AppendAt
import Derived.Shelf.RegionOpenPlain
import Derived.Lib.Strings
import Derived.Lib.Slices
import Derived.Lib.Walk
import Derived.Lib.MakeNoZero
import Derived.Laws.IdiomCopy
import Derived.Laws.BitsLemmas
import Derived.Test.YtjgdjinhkgjpeaaGreatDoorSpec
set_option linter.unusedVariables false
set_option linter.unusedSimpArgs false
set_option linter.defProp false
namespace Go.Proofs.YtjgdjinhkgjpeaaGreatDoor
open Nat renaming reduceAdd→zd,reduceEqDiff→zb,reduceLT→zf,reduceLeDiff→za,reduceMul→ze,reduceSub→zu
open List renaming cons_append→zo,getElem?_eq_getElem→zr,getElem?_eq_some_iff→zw,length_cons→zk,length_nil→zp,map_cons→zl,map_nil→zt,mem_of_getElem?→zD,nil_append→zq,replicate_succ→zj,replicate_zero→zm
theorem mixed:Tryz.prog.follows .mixedOrders=true:=by kernel_rfl
abbrev int (n:Int):PV:=.int .i64 n
def ints (l:List Int):PV:=.sl 1 (l.map fun x=>[.int .i64 x])
def strs (l:List (List UInt8)):PV:=.sl 1 (l.map fun x=>[.str x])
theorem qcw {α β:Type} {f:α→β} {l:List α} {k:Nat} {x:α} {d:β} (h:l[k]?=some x):(l.map f).getD k d=f x:=by
 simp [List.getD,h]
theorem qaj {n:Int} (h1:-9223372036854775808≤n) (h2:n≤9223372036854775807):I64 n:=⟨h1,h2⟩
theorem Zl0 {α:Type} {n:Nat}:([]:List α).take n=[]:=by simp
theorem Zl1 {α:Type} {n:Nat}:([]:List α).drop n=[]:=by simp
theorem Zl2 {α:Type} {l:List α}:l++[]=l:=by simp
theorem Zl3 {p:Prop}:(True∧p)=p:=by simp
theorem Zl4 {p:Prop}:(p∧True)=p:=by simp
theorem Zl5 {α:Type} {h:Decidable True} {a b:α}:(if True then a else b)=a:=by simp
theorem Zl6 {α:Type} {h:Decidable False} {a b:α}:(if False then a else b)=b:=by simp
theorem Zl7 {b:Bool}:(b && true)=b:=by simp
theorem Zl8 {b:Bool}:(true && b)=b:=rfl
theorem Zl9:(!true)=false:=rfl
theorem Zl10:(!false)=true:=rfl
theorem Zl11 {α:Type} {a b:α}:(bif true then a else b)=a:=rfl
theorem Zl12 {α:Type} {a b:α}:(bif false then a else b)=b:=rfl
theorem Zl13 {p:Prop}:(p→p)=True:=by simp
theorem Zl14 {p:Prop}:(p∧p)=p:=by simp
theorem Zl15 {p:Prop}:(True→p)=p:=by simp
theorem Zl16 {p:Prop}:(p→True)=True:=by simp
theorem Zl17 {n:Nat}:0+n=n:=by simp
theorem Zl18 {n:Nat}:n+0=n:=rfl
theorem Zl19 {b c:Bool}:(bif b then c else false)=(b && c):=by simp
theorem Zl20 {b c:Bool}:(bif b then true else c)=(b || c):=by simp
theorem Zl21 {n:Nat}:((n:Int)).toNat=n:=rfl
theorem Zl22:(false=true)=False:=by simp
theorem Zl23 {α:Type} {a b:α}:(a≠b)=¬ (a=b):=by simp
theorem Zl24:(¬ False)=True:=by simp
theorem Zl25:(¬ True)=False:=by simp
theorem Zl26 {a b:Nat}:(Key.l a=Key.l b)=(a=b):=by simp
theorem Zl27 {a b:Nat}:(Key.b a=Key.b b)=(a=b):=by simp
theorem Zl28 {α:Type} {a:α} {l:List α} {d:α}:(a :: l).getD 0 d=a:=rfl
theorem Zl29 {α:Type} {a:α} {l:List α} {d:α} {n:Nat}:(a :: l).getD (n+1) d=l.getD n d:=rfl
theorem Zl30 {α:Type} {d:α} {n:Nat}:([]:List α).getD n d=d:=rfl
theorem Zl31 {α:Type} {a:α} {l:List α}:(a :: l)[0]?=some a:=rfl
theorem Zl32 {α:Type} {a:α} {l:List α} {n:Nat}:(a :: l)[n+1]?=l[n]?:=rfl
theorem Zl33 {α:Type} {a b:α} {l:List α}:(a :: l).set 0 b=b :: l:=rfl
theorem Zl34 {α:Type} {a b:α} {l:List α} {n:Nat}:(a :: l).set (n+1) b=a :: l.set n b:=rfl
theorem Zl35 {α β:Type} {f:α→β} {a:α} {l:List α}:(a :: l).map f=f a :: l.map f:=rfl
theorem Zl36 {α β:Type} {f:α→β}:[].map f=[]:=rfl
theorem Zl37 {α:Type} {a:α} {l:List α}:(a :: l).length=l.length+1:=rfl
theorem Zl38 {α:Type}:([]:List α).length=0:=rfl
theorem Zl39 {α:Type} {p:α→Bool} {a:α} {l:List α}:(a :: l).all p=(p a && l.all p):=rfl
theorem Zl40 {α:Type} {p:α→Bool}:[].all p=true:=rfl
theorem Zl41 {α:Type} {a:α} {l:List α} {n:Nat}:(a :: l).take (n+1)=a :: l.take n:=rfl
theorem Zl42 {α:Type} {l:List α}:l.take 0=[]:=rfl
theorem Zl43 {α:Type} {a:α} {l:List α} {n:Nat}:(a :: l).drop (n+1)=l.drop n:=rfl
theorem Zl44 {α:Type} {l:List α}:l.drop 0=l:=rfl
theorem Zl45 {α β:Type} {f:α→β} {a:α}:(some a).map f=some (f a):=rfl
theorem Zl46 {α β:Type} {f:α→β}:(none:Option α).map f=none:=rfl
theorem Zl47 {α:Type} {a:α} {l m:List α}:(a :: l)++m=a :: (l++m):=rfl
theorem Zl48 {α:Type} {l:List α}:[]++l=l:=rfl
theorem Zl49 {α:Type} {a:α} {l:List α}:(a :: l).isEmpty=false:=rfl
theorem Zl50 {α:Type}:([]:List α).isEmpty=true:=rfl
abbrev qO (d:Nat) (o:IOp):IOper:=⟨some d,o,none⟩
abbrev qM (d s:Nat):IOper:=⟨some d,.mov (.t s),none⟩
abbrev oo:AV:=.any
theorem WW.{u}:(∀ {α:Sort u} (a b:α),(if True then a else b)=a)∧(∀ {α:Sort u} (a b:α),(if False then a else b)=b)∧(∀ {α:Sort u} [Nonempty α] (b:Prop),(α→b)↔b):=⟨fun _ _=>rfl,fun _ _=>rfl,fun _=>by simp⟩
def ZZ:=And.intro (And.intro (And.intro (And.intro (And.intro (And.intro (And.intro (And.intro @qtW (And.intro @qtY @qwA)) (And.intro @qwz (And.intro @qsk @qwB))) (And.intro (And.intro @qwD (And.intro @qwC @qtX)) (And.intro (And.intro @qtZ @qwE) (And.intro @quL @quK)))) (And.intro (And.intro (And.intro @quM (And.intro @qtQ @qtP)) (And.intro @qtR (And.intro @qs2 @qs1))) (And.intro (And.intro @qs3 (And.intro @qxA @qxz)) (And.intro (And.intro @qxB @qw6) (And.intro @qw7 @qw8))))) (And.intro (And.intro (And.intro (And.intro @qw9 (And.intro @qw4 @qw5)) (And.intro @qsv (And.intro @qxy @qxx))) (And.intro (And.intro @qxw (And.intro @qug @qsI)) (And.intro (And.intro @qsy @qt9) (And.intro @qua @qqM)))) (And.intro (And.intro (And.intro @qvF (And.intro @qyJ @qxk)) (And.intro (And.intro @qy9 @qy7) (And.intro @qyZ @qyA))) (And.intro (And.intro @qyC (And.intro @qyP @qyx)) (And.intro (And.intro @o_mx @o_mn) (And.intro @qyV @qyw)))))) (And.intro (And.intro (And.intro (And.intro (And.intro @qys (And.intro @qyU @qyX)) (And.intro @qyW (And.intro @o_ld @qyR))) (And.intro (And.intro @qyQ (And.intro @qyY @qy8)) (And.intro (And.intro @qy2 @qy1) (And.intro @qza @qy5)))) (And.intro (And.intro (And.intro @qyD (And.intro @qyB @qyN)) (And.intro (And.intro @qyO @qxo) (And.intro @qyr @qyG))) (And.intro (And.intro @qyF (And.intro @qxq @qyS)) (And.intro (And.intro @qxn @qyT) (And.intro @qzb @qxl))))) (And.intro (And.intro (And.intro (And.intro @qzf (And.intro @qy6 @o_st)) (And.intro @qyu (And.intro @qyH @qze))) (And.intro (And.intro @qy4 (And.intro @qyy @qyK)) (And.intro (And.intro @qzc @qyt) (And.intro @qyL @qyE)))) (And.intro (And.intro (And.intro @qyv (And.intro @qxr @qxp)) (And.intro (And.intro @qyz @qy0) (And.intro @qyI @qy3))) (And.intro (And.intro @qyM (And.intro @qxm @qzd)) (And.intro (And.intro @qzu @qxJ) (And.intro @qzN @qzL))))))) (And.intro (And.intro (And.intro (And.intro (And.intro (And.intro @qzH (And.intro @qzo @qzq)) (And.intro @qzx (And.intro @qzn @g_mx))) (And.intro (And.intro @g_mn (And.intro @qzD @qzm)) (And.intro (And.intro @qzl @qzC) (And.intro @qzF @qzE)))) (And.intro (And.intro (And.intro @g_ld (And.intro @qzz @qzy)) (And.intro (And.intro @qzG @qzM) (And.intro @qzJ @qzI))) (And.intro (And.intro @qzO (And.intro @qzK @qzr)) (And.intro (And.intro @qzp @qzv) (And.intro @qzw @qxL))))) (And.intro (And.intro (And.intro (And.intro @qzk (And.intro @qzt @qzs)) (And.intro @qxM (And.intro @qzA @qxK))) (And.intro (And.intro @qzB (And.intro @qzP @qta)) (And.intro (And.intro @qrn @qrm) (And.intro @qvH @qvD)))) (And.intro (And.intro (And.intro @qqp (And.intro @qrp @qro)) (And.intro (And.intro @qqq @qud) (And.intro @qvC @qs8))) (And.intro (And.intro @qxi (And.intro @qs9 @qvG)) (And.intro (And.intro @qvE @qub) (And.intro @quc @Zl13)))))) (And.intro (And.intro (And.intro (And.intro (And.intro @Zl28 (And.intro @Zl29 @Zl30)) (And.intro @Zl31 (And.intro @Zl32 @Zl33))) (And.intro (And.intro @Zl34 (And.intro @Zl35 @Zl36)) (And.intro (And.intro @Zl37 @Zl38) (And.intro @Zl39 @Zl40)))) (And.intro (And.intro (And.intro @Zl41 (And.intro @Zl42 @Zl43)) (And.intro (And.intro @Zl44 @Zl0) (And.intro @Zl1 @Zl45))) (And.intro (And.intro @Zl46 (And.intro @Zl3 @Zl4)) (And.intro (And.intro @Zl5 @Zl6) (And.intro @Zl7 @Zl8))))) (And.intro (And.intro (And.intro (And.intro @Zl9 (And.intro @Zl10 @Zl11)) (And.intro @Zl12 (And.intro @Zl26 @Zl27))) (And.intro (And.intro @Zl14 (And.intro @Zl15 @Zl16)) (And.intro (And.intro @Zl17 @Zl18) (And.intro @Zl2 @Zl48)))) (And.intro (And.intro (And.intro @Zl47 (And.intro @Zl19 @Zl20)) (And.intro (And.intro @qmy @qk5) (And.intro @qqv @qqu))) (And.intro (And.intro @Zl21 (And.intro @Zl49 @Zl50)) (And.intro (And.intro @Zl22 @Zl23) (And.intro @Zl24 @Zl25)))))))) (And.intro (And.intro (And.intro (And.intro (And.intro (And.intro (And.intro (And.intro @que @qsA) (And.intro @Za.eq_1 @Zb.eq_1)) (And.intro (And.intro @Zb.eq_2 @Zb.eq_3) (And.intro @Zc.eq_1 @Zc.eq_2))) (And.intro (And.intro (And.intro @Zd.eq_1 @Zd.eq_2) (And.intro @Zf.eq_1 @Zf.eq_2)) (And.intro (And.intro @Zf.eq_3 @Zf.eq_4) (And.intro @Zf.eq_5 (And.intro @Zf.eq_6 @Zf.eq_7))))) (And.intro (And.intro (And.intro (And.intro @Zf.eq_8 @Zf.eq_9) (And.intro @Zf.eq_10 @Zf.eq_11)) (And.intro (And.intro @Zf.eq_12 @Zf.eq_13) (And.intro @Zf.eq_14 @Zf.eq_15))) (And.intro (And.intro (And.intro @Zf.eq_16 @Zf.eq_17) (And.intro @Zf.eq_18 @Zf.eq_19)) (And.intro (And.intro @Zf.eq_20 @Zf.eq_21) (And.intro @Zf.eq_22 (And.intro @Zf.eq_23 @Zf.eq_24)))))) (And.intro (And.intro (And.intro (And.intro (And.intro @Zf.eq_25 @Zf.eq_26) (And.intro @Zf.eq_27 @Zf.eq_28)) (And.intro (And.intro @Zf.eq_29 @Zf.eq_30) (And.intro @Zf.eq_31 @Zf.eq_32))) (And.intro (And.intro (And.intro @Zf.eq_33 @Zf.eq_34) (And.intro @Zf.eq_35 @Zf.eq_36)) (And.intro (And.intro @Zf.eq_37 @Zf.eq_38) (And.intro @Zf.eq_39 (And.intro @Zf.eq_40 @Zf.eq_41))))) (And.intro (And.intro (And.intro (And.intro @Zg.eq_1 @Zg.eq_2) (And.intro @Zh.eq_1 @Zi.eq_1)) (And.intro (And.intro @Zi.eq_2 @Zi.eq_3) (And.intro @rd.eq_1 @rd.eq_2))) (And.intro (And.intro (And.intro @rd.eq_3 @rd.eq_4) (And.intro @AV.un.eq_1 @AV.un.eq_2)) (And.intro (And.intro @AV.unA.eq_1 @AV.ad.eq_1) (And.intro @AV.ad.eq_2 (And.intro @Zj.eq_1 @Zk.eq_1))))))) (And.intro (And.intro (And.intro (And.intro (And.intro (And.intro @Zk.eq_2 @Zl.eq_1) (And.intro @Zl.eq_2 @Zl.eq_3)) (And.intro (And.intro @Zm.eq_1 @Zm.eq_2) (And.intro @Zn.eq_1 @Zo.eq_1))) (And.intro (And.intro (And.intro @Zo.eq_2 @Zo.eq_3) (And.intro @Zo.eq_4 @Zo.eq_5)) (And.intro (And.intro @Zp.eq_1 @Zp.eq_2) (And.intro @Zp.eq_3 (And.intro @Zp.eq_4 @Zp.eq_5))))) (And.intro (And.intro (And.intro (And.intro @Zp.eq_6 @Zp.eq_7) (And.intro @Zp.eq_8 @Zp.eq_9)) (And.intro (And.intro @Zp.eq_10 @Zp.eq_11) (And.intro @Zp.eq_12 @Zp.eq_13))) (And.intro (And.intro (And.intro @Zp.eq_14 @Zq.eq_1) (And.intro @Zq.eq_2 @Zq.eq_3)) (And.intro (And.intro @Zr.eq_1 @Zr.eq_2) (And.intro @Zr.eq_3 (And.intro @Zr.eq_4 @Zr.eq_5)))))) (And.intro (And.intro (And.intro (And.intro (And.intro @Zr.eq_6 @Zr.eq_7) (And.intro @Zr.eq_8 @Zs.eq_1)) (And.intro (And.intro @Zs.eq_2 @Zs.eq_3) (And.intro @Zt.eq_1 @Zu.eq_1))) (And.intro (And.intro (And.intro @Zu.eq_2 @Zu.eq_3) (And.intro @Zu.eq_4 @Zu.eq_5)) (And.intro (And.intro @Zv.eq_1 @Zv.eq_2) (And.intro @Zw.eq_1 (And.intro @Zw.eq_2 @Zw.eq_3))))) (And.intro (And.intro (And.intro (And.intro @Zw.eq_4 @Zx.eq_1) (And.intro @Zx.eq_2 @Zx.eq_3)) (And.intro (And.intro @Zy.eq_1 @Zy.eq_2) (And.intro @Zy.eq_3 (And.intro @Zz.eq_1 @Zz.eq_2)))) (And.intro (And.intro (And.intro @Zaa.eq_1 @Zab.eq_1) (And.intro @Zab.eq_2 @Zac.eq_1)) (And.intro (And.intro @Zac.eq_2 @Zad.eq_1) (And.intro @Zad.eq_2 (And.intro @Zae.eq_1 @Zae.eq_2)))))))) (And.intro (And.intro (And.intro (And.intro (And.intro (And.intro (And.intro @Zaf.eq_1 @Zaf.eq_2) (And.intro @Zag.eq_1 @Zag.eq_2)) (And.intro (And.intro @Zag.eq_3 @Zag.eq_4) (And.intro @Zag.eq_5 @Zah.eq_1))) (And.intro (And.intro (And.intro @Zah.eq_2 @Zah.eq_3) (And.intro @Zai.eq_1 @Zai.eq_2)) (And.intro (And.intro @Zaj.eq_1 @Zaj.eq_2) (And.intro @Zaj.eq_3 (And.intro @Zak.eq_1 @Zak.eq_2))))) (And.intro (And.intro (And.intro (And.intro @Zak.eq_3 @Zal.eq_1) (And.intro @Zal.eq_2 @Zal.eq_3)) (And.intro (And.intro @Zal.eq_4 @Zam.eq_1) (And.intro @Zan.eq_1 @Zao.eq_1))) (And.intro (And.intro (And.intro @Zao.eq_2 @wk1.eq_1) (And.intro @wk1.eq_2 @wk.eq_1)) (And.intro (And.intro @wk.eq_2 @wk.eq_3) (And.intro @Zap.eq_1 (And.intro @Zap.eq_2 @Zap.eq_3)))))) (And.intro (And.intro (And.intro (And.intro (And.intro @Zaq.eq_1 @Zar.eq_1) (And.intro @Zas.eq_1 @Zas.eq_2)) (And.intro (And.intro @Zat.eq_1 @Zat.eq_2) (And.intro @Zau.eq_1 @Zau.eq_2))) (And.intro (And.intro (And.intro @Zav.eq_1 @Zaw.eq_1) (And.intro @Zaw.eq_2 @AV.kill.eq_1)) (And.intro (And.intro @AV.kill.eq_2 @AV.kill.eq_3) (And.intro @AV.kill.eq_4 (And.intro @AV.kill.eq_5 @AV.kill.eq_6))))) (And.intro (And.intro (And.intro (And.intro @AV.kill.eq_7 @AV.kill.eq_8) (And.intro @AV.kill.eq_9 @AV.kill.eq_10)) (And.intro (And.intro @AV.kill.eq_11 @AO.kill.eq_1) (And.intro @AO.kill.eq_2 (And.intro @AO.kill.eq_3 @AO.kill.eq_4)))) (And.intro (And.intro (And.intro @AO.kill.eq_5 @AO.kill.eq_6) (And.intro @AV.thaw.eq_1 @AV.thaw.eq_2)) (And.intro (And.intro @AV.thaw.eq_3 @AV.thaw.eq_4) (And.intro @AV.thaw.eq_5 (And.intro @AV.thaw.eq_6 @AV.thaw.eq_7))))))) (And.intro (And.intro (And.intro (And.intro (And.intro (And.intro @AV.thaw.eq_8 @AV.thaw.eq_9) (And.intro @AV.thaw.eq_10 @AV.thaw.eq_11)) (And.intro (And.intro @Zax.eq_1 @Zax.eq_2) (And.intro @AO.thaw.eq_1 @AO.thaw.eq_2))) (And.intro (And.intro (And.intro @AO.thaw.eq_3 @AO.thaw.eq_4) (And.intro @AO.thaw.eq_5 @AO.thaw.eq_6)) (And.intro (And.intro @Zay.eq_1 @Zay.eq_2) (And.intro @Zay.eq_3 (And.intro @Zay.eq_4 @Zaz.eq_1))))) (And.intro (And.intro (And.intro (And.intro @Zaz.eq_2 @Zba.eq_1) (And.intro @Zba.eq_2 @Zbb.eq_1)) (And.intro (And.intro @Zbb.eq_2 @Zbc.eq_1) (And.intro @Zbc.eq_2 @Zbd.eq_1))) (And.intro (And.intro (And.intro @Zbd.eq_2 @Zbe.eq_1) (And.intro @Zbe.eq_2 @Zbf.eq_1)) (And.intro (And.intro @Zbf.eq_2 @Zbf.eq_3) (And.intro @Zbf.eq_4 (And.intro @Zbg.eq_1 @Zbg.eq_2)))))) (And.intro (And.intro (And.intro (And.intro (And.intro @Zbh.eq_1 @Zbh.eq_2) (And.intro @Zbi.eq_1 @Zbi.eq_2)) (And.intro (And.intro @Zbi.eq_3 @Zbi.eq_4) (And.intro @Zbi.eq_5 @Zbi.eq_6))) (And.intro (And.intro (And.intro @Zbj.eq_1 @Zbj.eq_2) (And.intro @Zbj.eq_3 @Zbj.eq_4)) (And.intro (And.intro @Zbj.eq_5 @Zbj.eq_6) (And.intro @Zbk.eq_1 (And.intro @Zbk.eq_2 @Zbk.eq_3))))) (And.intro (And.intro (And.intro (And.intro @Zbk.eq_4 @Zbk.eq_5) (And.intro @Zbk.eq_6 @Zbl.eq_1)) (And.intro (And.intro @Zbl.eq_2 @qsE) (And.intro @qso (And.intro @qwF @thaw_P.eq_1)))) (And.intro (And.intro (And.intro @thaw_P.eq_2 @caps_P.eq_1) (And.intro @caps_P.eq_2 @caps_P.eq_3)) (And.intro (And.intro @ok_Ks.eq_1 @ok_Ks.eq_2) (And.intro @ok_Ks.eq_3 (And.intro @ok_Ks.eq_4 @qsx)))))))))
theorem zE_ {p:Prop} (h:p:=by simp only [ZZ,WW,Ze,reduceCtorEq,Nat.reduceAdd,Nat.reduceMul,Nat.reduceLeDiff,Nat.reduceLT,Nat.reduceEqDiff]):p:=h
theorem zF_ {p:Prop} (h:p:=by (simp only [ZZ,WW,Ze,reduceCtorEq,Nat.reduceAdd,Nat.reduceMul,Nat.reduceLeDiff,Nat.reduceLT,Nat.reduceEqDiff];try trivial)):p:=h
theorem zG_ {p:Prop} (h:p:=by (simp only [ZZ,WW,Ze,reduceCtorEq,Nat.reduceAdd,Nat.reduceMul,Nat.reduceLeDiff,Nat.reduceLT,Nat.reduceEqDiff];trivial)):p:=h
theorem sc_ {p:Prop} (h:p:=by first|first|assumption|trivial|exact (fun hq=>by rw [hq];rfl)|exact qaj (by omega) (by omega)|omega|(simp;done)|(simp;omega)|(intro hsc;have hs0:=hsc;(try have hsd:=of_decide_eq_true hsc);(try simp only [Bool.not_eq_true',Bool.or_eq_false_iff,Bool.and_eq_true,Bool.or_eq_true,decide_eq_true_eq,decide_eq_false_iff_not] at hsc);(repeat' (with_reducible apply And.intro))<;>(first|assumption|trivial|exact (fun hq=>by rw [hq];rfl)|exact qaj (by omega) (by omega)|omega|(simp;done)|(simp;omega)|(intro hse;simp [hse,hs0];done)|(intro hse;simp only [hse,hs0,Bool.true_and,Bool.and_true,Bool.not_false,Bool.not_true,Bool.and_self];done)))):p:=h
def qls:IC:=(.seq (.reg [qO 6 (.mov (.c (.bool false)))]) (.seq (.reg [qM 7 0,qM 8 1,qO 9 (.bin .geq (.t 7) (.t 8)),qM 10 9,⟨some 11,.mov (.t 0),(some (10,true))⟩,⟨some 12,.mov (.t 2),(some (10,true))⟩,⟨some 13,.bin .leq (.t 11) (.t 12),(some (10,true))⟩,qO 14 (.pick (.t 10) (.t 13) (.c (.bool false))),qM 6 14]) .ret))
def qlg:List IRes:=[.t 6]
theorem qqG:chkF Tryz.prog Tryz.f75 qls qlg 15=true:=by kernel_rfl
def qjp:IC:=(.seq (.reg [qO 4 (.mov (.c (.int .i64 0)))]) (.seq (.seq (.reg [qM 5 0]) (.cond (.t 5) (.seq (.reg [qM 6 1,qM 4 6]) .ret) .skip)) (.seq (.reg [qO 4 (.mov (.c (.int .i64 0)))]) .ret)))
def qjm:List IRes:=[.t 4]
theorem qnK:chkF Tryz.prog Tryz.f78 qjp qjm 7=true:=by kernel_rfl
def qgk:IC:=(.seq (.reg [qO 8 (.bin .lss (.t 7) (.t 6))]) (.seq (.cond (.t 8) .skip (.exit 0)) (.seq (.block 1 (.seq (.reg [qO 9 (.ixa 1 (.t 5) (.t 7)),qO 10 (.ld 1 false (.t 9)),qM 4 10]) (.seq (.reg [qM 11 4,qO 12 (.bin .neq (.t 11) (.c (.int .i64 0)))]) (.cond (.t 12) (.seq (.reg [qM 13 4,qM 2 13]) .ret) .skip)))) (.reg [qO 14 (.bin .add (.t 7) (.c (.int .i64 1))),qM 7 14]))))
def qiA:IC:=(.seq (.reg [qO 2 (.mov (.c (.int .i64 0)))]) (.seq (.seq (.reg [qM 5 0,qO 6 (.len (.t 5)),qO 7 (.mov (.c (.int .i64 0)))]) (.block 0 (.loop qgk))) (.seq (.reg [qO 2 (.mov (.c (.int .i64 0)))]) .ret)))
def qio:List IRes:=[.t 2]
theorem qmv:chkF Tryz.prog Tryz.f76 qiA qio 15=true:=by kernel_rfl
def qfb:IC:=(.seq (.reg [qO 4 (.mov (.c (.int .i64 0)))]) (.seq (.seq (.reg [qM 5 1,qO 6 (.bin .lss (.t 5) (.c (.int .i64 1)))]) (.cond (.t 6) (.seq (.reg [qO 4 (.mov (.c (.int .i64 0)))]) .ret) .skip)) (.seq (.reg [qM 7 0,qM 8 1,qO 9 (.bin .rem (.t 7) (.t 8)),qM 0 9]) (.seq (.seq (.reg [qM 10 0,qO 11 (.bin .lss (.t 10) (.c (.int .i64 0)))]) (.cond (.t 11) (.reg [qM 12 0,qM 13 1,qO 14 (.bin .add (.t 12) (.t 13)),qM 0 14]) .skip)) (.cut (.seq (.reg [qM 15 0,qM 4 15]) .ret))))))
def qe2:List IRes:=[.t 4]
theorem qiN:chkF Tryz.prog Tryz.f86 qfb qe2 16=true:=by kernel_rfl
def qbB:IC:=(.seq (.reg [qO 4 (.mov (.c (.int .i64 0)))]) (.seq (.reg [qM 7 0,qO 8 (.nck (.t 7)),qO 9 (.fla 1 (.t 8)),qO 10 (.ld 1 false (.t 9)),qO 11 (.bin .add (.t 10) (.c (.int .i64 1))),qO 12 (.nck (.t 7)),qO 13 (.fla 1 (.t 12)),⟨none,.st 1 (.t 13) (.t 11),none⟩]) (.seq (.seq (.reg [qM 14 0,qO 15 (.nck (.t 14)),qO 16 (.fla 0 (.t 15)),qO 17 (.ld 1 false (.t 16)),qO 18 (.len (.t 17)),qO 19 (.bin .eql (.t 18) (.c (.int .i64 0)))]) (.cond (.t 19) (.seq (.reg [qM 20 0,qO 21 (.nck (.t 20)),qO 22 (.fla 1 (.t 21)),qO 23 (.ld 1 false (.t 22)),qO 24 (.bin .mul (.t 23) (.c (.int .i64 7919))),qM 25 1,qO 26 (.call 86 [.t 24,.t 25]),qM 4 26]) .ret) .skip)) (.seq (.drg [qM 27 0,qO 28 (.nck (.t 27)),qO 29 (.fla 1 (.t 28)),qO 30 (.ld 1 false (.t 29)),qO 31 (.bin .sub (.t 30) (.c (.int .i64 1))),qM 32 0,qO 33 (.nck (.t 32)),qO 34 (.fla 0 (.t 33)),qO 35 (.ld 1 false (.t 34)),qO 36 (.len (.t 35)),qO 37 (.bin .rem (.t 31) (.t 36)),qM 5 37]) (.seq (.drg [qM 38 0,qO 39 (.nck (.t 38)),qO 40 (.fla 1 (.t 39)),qO 41 (.ld 1 false (.t 40)),qO 42 (.bin .sub (.t 41) (.c (.int .i64 1))),qM 43 0,qO 44 (.nck (.t 43)),qO 45 (.fla 0 (.t 44)),qO 46 (.ld 1 false (.t 45)),qO 47 (.len (.t 46)),qO 48 (.bin .quo (.t 42) (.t 47)),qM 6 48]) (.seq (.reg [qM 49 0,qO 50 (.nck (.t 49)),qO 51 (.fla 0 (.t 50)),qO 52 (.ld 1 false (.t 51)),qM 53 5,qO 54 (.ixa 1 (.t 52) (.t 53)),qO 55 (.ld 1 false (.t 54)),qO 56 (.call 86 [.t 55,.c (.int .i64 1073741824)]),qM 57 6,qM 58 5,qO 59 (.bin .add (.c (.int .i64 7919)) (.t 58)),qO 60 (.bin .mul (.t 57) (.t 59)),qO 61 (.bin .add (.t 56) (.t 60)),qM 62 1,qO 63 (.call 86 [.t 61,.t 62]),qM 4 63]) .ret))))))
def qby:List IRes:=[.t 4]
theorem qcM:chkF Tryz.prog Tryz.f46 qbB qby 64=true:=by kernel_rfl
def qcK:IC:=(.seq (.reg [qO 4 (.mov (.c (.bool false)))]) (.seq (.reg [qM 5 0,qM 6 1,qO 7 (.call 46 [.t 5,.t 6]),qO 8 (.bin .eql (.t 7) (.c (.int .i64 0))),qM 4 8]) .ret))
def qcC:List IRes:=[.t 4]
theorem qfO:chkF Tryz.prog Tryz.f14 qcK qcC 9=true:=by kernel_rfl
def qcr:IC:=(.seq (.reg [qO 6 (.mov (.c (.int .i64 0)))]) (.seq (.seq (.reg [qM 7 2,qM 8 1,qO 9 (.bin .lss (.t 7) (.t 8))]) (.cond (.t 9) (.seq (.reg [qM 10 1,qM 6 10]) .ret) .skip)) (.seq (.reg [qM 11 1,qM 12 0,qM 13 2,qM 14 1,qO 15 (.bin .sub (.t 13) (.t 14)),qO 16 (.bin .add (.t 15) (.c (.int .i64 1))),qO 17 (.call 46 [.t 12,.t 16]),qO 18 (.bin .add (.t 11) (.t 17)),qM 6 18]) .ret)))
def qch:List IRes:=[.t 6]
theorem qfh:chkF Tryz.prog Tryz.f48 qcr qch 19=true:=by kernel_rfl
def qcJ:IC:=(.seq (.reg [qO 4 (.mov (.c (.int .i64 0)))]) (.seq (.reg [qM 5 1,qM 6 0,qM 7 1,qO 8 (.len (.t 7)),qO 9 (.call 46 [.t 6,.t 8]),qO 10 (.ixa 1 (.t 5) (.t 9)),qO 11 (.ld 1 false (.t 10)),qM 4 11]) .ret))
def qcB:List IRes:=[.t 4]
theorem qfN:chkF Tryz.prog Tryz.f49 qcJ qcB 12=true:=by kernel_rfl
def qcd:IC:=(.seq (.reg [qO 4 (.mov (.c (.str [])))]) (.seq (.reg [qM 5 1,qM 6 0,qM 7 1,qO 8 (.len (.t 7)),qO 9 (.call 46 [.t 6,.t 8]),qO 10 (.ixa 1 (.t 5) (.t 9)),qO 11 (.ld 1 false (.t 10)),qM 4 11]) .ret))
def qb8:List IRes:=[.t 4]
theorem qeW:chkF Tryz.prog Tryz.f34 qcd qb8 12=true:=by kernel_rfl
section
variable {E:Envt}
def inE (n lo hi:Int):Bool:=decide (lo≤n) && decide (n≤hi)
theorem qqO (n lo hi:Int):PCall Tryz.prog E 75 [int n,int lo,int hi] (·=.bool (inE n lo hi)):=by
 refine qaf mixed Tryz.func75 qqG ?_
 simp only [a0,l0,OS.ao,zl,zt,zk,zp,zo,zq,zu,zd,zj,zm,qls,qlg,ZZ,WW,Ze,reduceCtorEq,zd,ze,za,zf,zb]
 rfl
def qbR (b:Bool) (e:Int):Int:=if b=true then e else 0
theorem qdB (b:Bool) (e:Int):PCall Tryz.prog E 78 [.bool b,int e] (·=int (qbR b e)):=by
 refine qaf mixed Tryz.func78 qnK ?_
 simp only [a0,l0,OS.ao,zl,zt,zk,zp,zo,zq,zu,zd,zj,zm,qjp,qjm,ZZ,WW,Ze,reduceCtorEq,zd,ze,za,zf,zb]
 refine br ?_ ?_
 all_goals
  rintro rfl
  simp only [ZZ,WW,Ze,reduceCtorEq,zd,ze,za,zf,zb]
  rfl
def qbw:List Int→Int
 |[]=>0
 |e :: r=>if e=0 then qbw r else e
theorem qkq (l:List Int) (k:Nat) (x:Int) (h:l[k]?=some x):qbw (l.drop k)=if x=0 then qbw (l.drop (k+1)) else x:=by
 have hk:=(zw.1 h).1
 rw [List.drop_eq_getElem_cons hk,(zw.1 h).2]
 rfl
theorem qj2 (l:List Int) (hl:l.length≤1000000):PCall Tryz.prog E 76 [ints l] (·=int (qbw l)):=by
 refine qaf mixed Tryz.func76 qmv ?_
 simp only [a0,l0,OS.ao,zl,zt,zk,zp,zo,zq,zu,zd,zj,zm,qiA,qio,ZZ,WW,Ze,reduceCtorEq,zd,ze,za,zf,zb]
 simp only [ints,ZZ,WW,Ze,reduceCtorEq,zd,ze,za,zf,zb]
 generalize hes:l.map (fun x=>[PV.int IntKind.i64 x])=es
 have hln:es.length=l.length:=by rw [← hes];simp
 refine qag (fun n fr L=>∃ k:Nat,k≤l.length∧n=l.length - k∧qbw l=qbw (l.drop k)∧fr=[.p (.sl 1 es),oo,oo,oo,oo,.p (.sl 1 es),.p (int (es.length:Nat)),.p (int (k:Nat)),oo,oo,oo,oo,oo,oo,oo]∧L=[]) l.length _ [] ?_ ?_ ⟨0,by omega,by omega,rfl,rfl,rfl⟩ ?_
 ·(simp only [ZZ,WW,Ze,reduceCtorEq,zd,ze,za,zf,zb];try trivial)
 ·simp only [ZZ,WW,Ze,reduceCtorEq,zd,ze,za,zf,zb]
 rintro n fr L ⟨k,hk,rfl,hf,rfl,rfl⟩
 simp only [qgk,ZZ,WW,Ze,reduceCtorEq,zd,ze,za,zf,zb]
 refine br ?_ ?_
 ·intro h
  have hlt:k < l.length:=by have:=of_decide_eq_true h;omega
  obtain ⟨x,hx⟩:∃ x,l[k]?=some x:=⟨_,zr hlt⟩
  have hg:es.getD k []=[PV.int .i64 x]:=by rw [← hes];exact qcw hx
  have hd:=qkq l k x hx
  simp only [ZZ,WW,Ze,reduceCtorEq,zd,ze,za,zf,zb,hg]
  refine ⟨by omega,by omega,?_⟩
  refine br ?_ ?_
  ·intro h2
   simp only [ZZ,WW,Ze,reduceCtorEq,zd,ze,za,zf,zb]
   rw [hf,hd,if_neg (by simpa using h2)]
  ·intro h2
   simp only [ZZ,WW,Ze,reduceCtorEq,zd,ze,za,zf,zb]
   refine ⟨qaj (by omega) (by omega),?_⟩
   refine qae (l.length - (k+1)) _ [] (by omega) ?_ ?_ ⟨k+1,by omega,rfl,by rw [hf,hd,if_pos (by simpa using h2)],rfl,rfl⟩
   ·(simp only [ZZ,WW,Ze,reduceCtorEq,zd,ze,za,zf,zb];try trivial)
   ·simp only [ZZ,WW,Ze,reduceCtorEq,zd,ze,za,zf,zb]
 ·intro h
  have hge:l.length≤k:=by have:=of_decide_eq_false h;omega
  simp only [ZZ,WW,Ze,reduceCtorEq,zd,ze,za,zf,zb]
  rw [hf,List.drop_eq_nil_of_le hge]
  rfl
def qer (x n:Int):Int:=if n < 1 then 0 else x % n
theorem qdC (x n:Int):0≤qer x n:=by
 unfold qer
 split
 ·omega
 ·exact Int.emod_nonneg x (by omega)
theorem qdD (x n:Int) (h:1≤n):qer x n < n:=by
 unfold qer
 rw [if_neg (by omega)]
 exact Int.emod_lt_of_pos x (by omega)
theorem qqj (x n:Int) (hn:1≤n):x % n=if x.tmod n < 0 then x.tmod n+n else x.tmod n:=by
 have h2:=Int.emod_nonneg x (show n≠0 by omega)
 have h3:=Int.emod_lt_of_pos x (show 0 < n by omega)
 rw [Int.tmod_eq_emod]
 split<;>split at *<;>omega
theorem quI (x n:Int) (hn:1≤n):-n < x.tmod n∧x.tmod n < n:=by
 have h2:=Int.emod_nonneg x (show n≠0 by omega)
 have h3:=Int.emod_lt_of_pos x (show 0 < n by omega)
 rw [Int.tmod_eq_emod]
 split<;>omega
theorem qhk (x n:Int) (h2:n≤9223372036854775807):PCall Tryz.prog E 86 [int x,int n] (·=int (qer x n)):=by
 refine qaf mixed Tryz.func86 qiN ?_
 simp only [a0,l0,OS.ao,zl,zt,zk,zp,zo,zq,zu,zd,zj,zm,qfb,qe2,ZZ,WW,Ze,reduceCtorEq,zd,ze,za,zf,zb]
 refine br ?_ ?_
 ·intro h
  simp only [ZZ,WW,Ze,reduceCtorEq,zd,ze,za,zf,zb]
  have:n < 1:=of_decide_eq_true h
  simp [qer,this]
 ·intro h
  have hn:¬ n < 1:=of_decide_eq_false h
  have hb:=quI x n (by omega)
  have hc:=qqj x n (by omega)
  simp only [ZZ,WW,Ze,reduceCtorEq,zd,ze,za,zf,zb]
  refine ⟨by omega,?_⟩
  refine qeU (fun fr L=>∃ y,y=x % n∧fr=[.p (int y),oo,oo,oo,oo,oo,oo,oo,oo,oo,oo,oo,oo,oo,oo,oo]∧L=[]) ?_ ?_ ?_
  ·intro h1
   have h1:=of_decide_eq_true h1
   simp only [ZZ,WW,Ze,reduceCtorEq,zd,ze,za,zf,zb]
   refine ⟨qaj (by omega) (by omega),qao [.p (int (x.tmod n+n)),oo,oo,oo,oo,oo,oo,oo,oo,oo,oo,oo,oo,oo,oo,oo] [] ?_ ?_ ⟨_,by rw [hc,if_pos h1],rfl,rfl⟩⟩
   ·(simp only [ZZ,WW,Ze,reduceCtorEq,zd,ze,za,zf,zb];try trivial)
   ·simp only [ZZ,WW,Ze,reduceCtorEq,zd,ze,za,zf,zb]
  ·intro h1
   have h1:=of_decide_eq_false h1
   simp only [ZZ,WW,Ze,reduceCtorEq,zd,ze,za,zf,zb]
   refine qao [.p (int (x.tmod n)),oo,oo,oo,oo,oo,oo,oo,oo,oo,oo,oo,oo,oo,oo,oo] [] ?_ ?_ ⟨_,by rw [hc,if_neg h1],rfl,rfl⟩
   ·(simp only [ZZ,WW,Ze,reduceCtorEq,zd,ze,za,zf,zb];try trivial)
   ·simp only [ZZ,WW,Ze,reduceCtorEq,zd,ze,za,zf,zb]
  ·rintro fr L ⟨y,rfl,rfl,rfl⟩
   simp only [ZZ,WW,Ze,reduceCtorEq,zd,ze,za,zf,zb]
   simp [qer,hn]
def stm (l:List Int) (k:Nat):List PV:=[ints l,int k]
abbrev T:TypeId:=25
theorem qb4 (l:List Int) (k:Nat) (n:Int) (hk:k≤1000000) (hl:l.length≤9223372036854775807) (h2:n≤9223372036854775807) :
  qdl Tryz.prog E 46 T (stm l k) [int n] (fun x cs'=>∃ y,x=int (qer y n)∧cs'=stm l (k+1)):=by
 unfold qdl
 refine qgl mixed Tryz.func46 qcM ?_
 simp only [a0,l0,OS.ao,zl,zt,zk,zp,zo,zq,zu,zd,zj,zm,stm,qbB,qby,ZZ,WW,Ze,reduceCtorEq,zd,ze,za,zf,zb]
 refine ⟨qaj (by omega) (by omega),?_⟩
 simp only [ints,ZZ,WW,Ze,reduceCtorEq,zd,ze,za,zf,zb]
 generalize hes:l.map (fun x=>[PV.int IntKind.i64 x])=es
 have hln:es.length=l.length:=by rw [← hes];simp
 have hc:[PV.sl 1 es,int ((k:Int)+1)]=[PV.sl 1 es,int ((k+1:Nat):Int)]:=by simp
 refine br ?_ ?_
 ·intro h
  simp only [ZZ,WW,Ze,reduceCtorEq,zd,ze,za,zf,zb]
  refine ⟨qaj (by omega) (by omega),?_⟩
  refine use1 (qhk _ _ h2) rfl (.inl rfl) ?_
  simp only [ZZ,WW,Ze,reduceCtorEq,zd,ze,za,zf,zb]
  exact qfU [PV.sl 1 es,int ((k:Int)+1)] rfl ⟨_,rfl,hc⟩
 ·intro h
  have hne:¬ ((es.length:Int)=0):=of_decide_eq_false h
  simp only [ZZ,WW,Ze,reduceCtorEq,zd,ze,za,zf,zb]
  refine drg0 ?_
  simp only [ZZ,WW,Ze,reduceCtorEq,zd,ze,za,zf,zb]
  refine ⟨qaj (by omega) (by omega),⟨by omega,?_⟩⟩
  refine drg0 ?_
  have hkk:(k:Int)+1 - 1=k:=by omega
  have hrem:(k:Int).tmod (es.length:Int)=((k % es.length:Nat):Int):=by rw [Int.tmod_eq_emod_of_nonneg (by omega)];rfl
  have hquo:(k:Int).tdiv (es.length:Int)=((k / es.length:Nat):Int):=by rw [Int.tdiv_eq_ediv_of_nonneg (by omega)];rfl
  have hq1:k / es.length≤k:=Nat.div_le_self _ _
  have hr1:k % es.length≤k:=Nat.mod_le _ _
  have hr2:k % es.length < es.length:=Nat.mod_lt _ (by omega)
  obtain ⟨x,hx⟩:∃ x,l[k % es.length]?=some x:=⟨_,zr (by omega)⟩
  have hg:es.getD (k % es.length) []=[PV.int .i64 x]:=by rw [← hes];exact qcw (by rw [hes];exact hx)
  simp only [ZZ,WW,Ze,reduceCtorEq,zd,ze,za,zf,zb,hkk,hrem,hquo,hg]
  generalize k / es.length=q at *
  generalize k % es.length=r at *
  refine ⟨qaj (by omega) (by omega),⟨hne,qaj (by omega) (by omega)⟩,⟨by omega,by omega⟩,by omega,?_⟩
  refine use1 (qhk _ _ (by decide)) rfl (.inl rfl) ?_
  have hb1:=qdC x 1073741824
  have hb2:=qdD x 1073741824 (by omega)
  have hm:(q:Int) * (7919+(r:Int))≤1000000 * 1007919:=Int.mul_le_mul (by omega) (by omega) (by omega) (by omega)
  have hm0:0≤(q:Int) * (7919+(r:Int)):=Int.mul_nonneg (by omega) (by omega)
  simp only [ZZ,WW,Ze,reduceCtorEq,zd,ze,za,zf,zb]
  refine ⟨qaj (by omega) (by omega),qaj (by omega) (by omega),qaj (by omega) (by omega),?_⟩
  refine use1 (qhk _ _ h2) rfl (.inl rfl) ?_
  simp only [ZZ,WW,Ze,reduceCtorEq,zd,ze,za,zf,zb]
  exact qfU [PV.sl 1 es,int ((k:Int)+1)] rfl ⟨_,rfl,hc⟩
theorem qdW (x:Int) (n:Nat) (hn:0 < n):∃ i:Nat,i < n∧qer x n=i:=by
 have h0:=qdC x n
 have h1:=qdD x n (by omega)
 exact ⟨(qer x n).toNat,by omega,by omega⟩
theorem qmP (l:List Int) (k:Nat) (n:Int) (hk:k≤1000000) (hl:l.length≤9223372036854775807) (h2:n≤9223372036854775807) :
  qdl Tryz.prog E 14 T (stm l k) [int n] (fun x cs'=>∃ b,x=.bool b∧cs'=stm l (k+1)):=by
 unfold qdl
 refine qgl mixed Tryz.func14 qfO ?_
 simp only [a0,l0,OS.ao,zl,zt,zk,zp,zo,zq,zu,zd,zj,zm,qcK,qcC,ZZ,WW,Ze,reduceCtorEq,zd,ze,za,zf,zb]
 refine useS (qb4 l k n hk hl h2) rfl rfl rfl zE_ ?_
 rintro x cs' ⟨y,rfl,rfl⟩
 simp only [ZZ,WW,Ze,reduceCtorEq,zd,ze,za,zf,zb]
 exact qfU (stm l (k+1)) rfl ⟨_,rfl,rfl⟩
theorem qj1 (l:List Int) (k:Nat) (lo hi:Int) (hk:k≤1000000) (hl:l.length≤9223372036854775807) (h1:-1000000000≤lo) (h2:lo≤hi) (h3:hi≤1000000000) :
  qdl Tryz.prog E 48 T (stm l k) [int lo,int hi] (fun x cs'=>∃ y,x=int y∧lo≤y∧y≤hi∧cs'=stm l (k+1)):=by
 unfold qdl
 refine qgl mixed Tryz.func48 qfh ?_
 simp only [a0,l0,OS.ao,zl,zt,zk,zp,zo,zq,zu,zd,zj,zm,qcr,qch,ZZ,WW,Ze,reduceCtorEq,zd,ze,za,zf,zb]
 refine br (fun h=>absurd (of_decide_eq_true h) (by omega)) ?_
 intro _
 simp only [ZZ,WW,Ze,reduceCtorEq,zd,ze,za,zf,zb]
 refine ⟨qaj (by omega) (by omega),qaj (by omega) (by omega),?_⟩
 refine useS (qb4 l k _ hk hl (by omega)) rfl rfl rfl zE_ ?_
 rintro x cs' ⟨y,rfl,rfl⟩
 have b1:=qdC y (hi - lo+1)
 have b2:=qdD y (hi - lo+1) (by omega)
 simp only [ZZ,WW,Ze,reduceCtorEq,zd,ze,za,zf,zb]
 exact ⟨qaj (by omega) (by omega),qfU (stm l (k+1)) rfl ⟨_,rfl,by omega,by omega,rfl⟩⟩
theorem qhZ (l:List Int) (k:Nat) (c:List Int) (hk:k≤1000000) (hl:l.length≤9223372036854775807) (h0:0 < c.length) (h1:c.length≤1000000) :
  qdl Tryz.prog E 49 T (stm l k) [ints c] (fun x cs'=>∃ y,x=int y∧y∈c∧cs'=stm l (k+1)):=by
 unfold qdl
 refine qgl mixed Tryz.func49 qfN ?_
 simp only [a0,l0,OS.ao,zl,zt,zk,zp,zo,zq,zu,zd,zj,zm,qcJ,qcB,ZZ,WW,Ze,reduceCtorEq,zd,ze,za,zf,zb]
 simp only [ints,ZZ,WW,Ze,reduceCtorEq,zd,ze,za,zf,zb]
 generalize hes:c.map (fun x=>[PV.int IntKind.i64 x])=es
 have hln:es.length=c.length:=by rw [← hes];simp
 refine useS (qb4 l k _ hk hl (by omega)) rfl rfl rfl zE_ ?_
 rintro x cs' ⟨y,rfl,rfl⟩
 obtain ⟨i,hi,hy⟩:=qdW y es.length (by omega)
 rw [hy]
 obtain ⟨z,hz⟩:∃ z,c[i]?=some z:=⟨_,zr (by omega)⟩
 have hg:es.getD i []=[PV.int .i64 z]:=by rw [← hes];exact qcw hz
 simp only [ZZ,WW,Ze,reduceCtorEq,zd,ze,za,zf,zb,hg]
 exact ⟨⟨by omega,by omega⟩,by omega,qfU (stm l (k+1)) rfl ⟨_,rfl,zD hz,rfl⟩⟩
theorem qee (l:List Int) (k:Nat) (c:List (List UInt8)) (hk:k≤1000000) (hl:l.length≤9223372036854775807) (h0:0 < c.length) (h1:c.length≤1000000) :
  qdl Tryz.prog E 34 T (stm l k) [strs c] (fun x cs'=>∃ y,x=.str y∧y∈c∧cs'=stm l (k+1)):=by
 unfold qdl
 refine qgl mixed Tryz.func34 qeW ?_
 simp only [a0,l0,OS.ao,zl,zt,zk,zp,zo,zq,zu,zd,zj,zm,qcd,qb8,ZZ,WW,Ze,reduceCtorEq,zd,ze,za,zf,zb]
 simp only [strs,ZZ,WW,Ze,reduceCtorEq,zd,ze,za,zf,zb]
 generalize hes:c.map (fun x=>[PV.str x])=es
 have hln:es.length=c.length:=by rw [← hes];simp
 refine useS (qb4 l k _ hk hl (by omega)) rfl rfl rfl zE_ ?_
 rintro x cs' ⟨y,rfl,rfl⟩
 obtain ⟨i,hi,hy⟩:=qdW y es.length (by omega)
 rw [hy]
 obtain ⟨z,hz⟩:∃ z,c[i]?=some z:=⟨_,zr (by omega)⟩
 have hg:es.getD i []=[PV.str z]:=by rw [← hes];exact qcw hz
 simp only [ZZ,WW,Ze,reduceCtorEq,zd,ze,za,zf,zb,hg]
 exact ⟨⟨by omega,by omega⟩,by omega,qfU (stm l (k+1)) rfl ⟨_,rfl,zD hz,rfl⟩⟩
end
end Go.Proofs.YtjgdjinhkgjpeaaGreatDoor
namespace Go.Proofs.YtjgdjinhkgjpeaaGreatDoor
open Nat renaming reduceAdd→zd,reduceEqDiff→zb,reduceLT→zf,reduceLeDiff→za,reduceMul→ze,reduceSub→zu
open List renaming cons_append→zo,length_cons→zk,length_nil→zp,map_cons→zl,map_nil→zt,nil_append→zq,replicate_succ→zj,replicate_zero→zm
open Int renaming toNat_natCast→yi
open Go.RowKit
def qbt:IC:=(.seq (.reg [qO 2 (.mov (.c (.bool false)))]) (.seq (.reg [qM 3 0,qM 4 0,qO 5 (.bin .sub (.t 4) (.c (.int .i64 1))),qO 6 (.bin .and (.t 3) (.t 5)),qO 7 (.bin .eql (.t 6) (.c (.int .i64 0))),qM 2 7]) .ret))
def qbo:List IRes:=[.t 2]
theorem qdi:chkF Tryz.prog Tryz.f179 qbt qbo 8=true:=by kernel_rfl
def qc1:IC:=(.seq (.seq (.reg [qM 66 1,qM 67 17,qO 68 (.bin .geq (.t 66) (.t 67))]) (.cond (.t 68) .skip (.exit 2))) (.block 3 (.seq (.reg [qM 69 13,qO 70 (.bin .sub (.t 69) (.c (.int .i64 1))),qM 13 70]) (.seq (.reg [qM 71 1,qM 72 17,qO 73 (.bin .quo (.t 71) (.t 72)),qM 18 73]) (.seq (.reg [qM 74 13,qM 75 1,qM 76 18,qM 77 17,qO 78 (.bin .mul (.t 76) (.t 77)),qO 79 (.bin .sub (.t 75) (.t 78)),qO 80 (.idx (.c (.str [48,49,50,51,52,53,54,55,56,57,97,98,99,100,101,102,103,104,105,106,107,108,109,110,111,112,113,114,115,116,117,118,119,120,121,122])) (.t 79)),qO 81 (.ixv 1 65 (.t 12) (.t 74)),⟨none,.st 1 (.t 81) (.t 80),none⟩]) (.reg [qM 82 18,qM 1 82]))))))
def qbk:IC:=(.seq (.seq (.reg [qM 44 1,qM 45 15,qO 46 (.bin .geq (.t 44) (.t 45))]) (.cond (.t 46) .skip (.exit 0))) (.block 1 (.seq (.reg [qM 47 13,qO 48 (.bin .sub (.t 47) (.c (.int .i64 1))),qM 13 48]) (.seq (.reg [qM 49 13,qM 50 1,qM 51 16,qO 52 (.bin .and (.t 50) (.t 51)),qO 53 (.idx (.c (.str [48,49,50,51,52,53,54,55,56,57,97,98,99,100,101,102,103,104,105,106,107,108,109,110,111,112,113,114,115,116,117,118,119,120,121,122])) (.t 52)),qO 54 (.ixv 1 65 (.t 12) (.t 49)),⟨none,.st 1 (.t 54) (.t 53),none⟩]) (.reg [qM 55 1,qM 56 14,qO 57 (.bin .shr (.t 55) (.t 56)),qM 1 57])))))
def qbG:IC:=(.seq (.reg [qO 10 (.mov (.c (.nl 1))),qO 11 (.mov (.c (.str [])))]) (.seq (.seq (.reg [qM 19 2,qO 20 (.bin .lss (.t 19) (.c (.int .i64 2))),qM 21 20,⟨some 22,.mov (.t 2),(some (21,false))⟩,⟨some 23,.bin .eql (.t 22) (.c (.int .i64 10)),(some (21,false))⟩,qO 24 (.pick (.t 21) (.c (.bool true)) (.t 23)),qM 25 24,⟨some 26,.mov (.t 2),(some (25,false))⟩,⟨some 27,.bin .gtr (.t 26) (.c (.int .i64 36)),(some (25,false))⟩,qO 28 (.pick (.t 25) (.c (.bool true)) (.t 27))]) (.cond (.t 28) (.reg [qO 29 (.dead),⟨none,.dead,none⟩]) .skip)) (.cut (.seq (.reg [qO 12 (.alc 195 [.int .u8 0,.int .u8 0,.int .u8 0,.int .u8 0,.int .u8 0,.int .u8 0,.int .u8 0,.int .u8 0,.int .u8 0,.int .u8 0,.int .u8 0,.int .u8 0,.int .u8 0,.int .u8 0,.int .u8 0,.int .u8 0,.int .u8 0,.int .u8 0,.int .u8 0,.int .u8 0,.int .u8 0,.int .u8 0,.int .u8 0,.int .u8 0,.int .u8 0,.int .u8 0,.int .u8 0,.int .u8 0,.int .u8 0,.int .u8 0,.int .u8 0,.int .u8 0,.int .u8 0,.int .u8 0,.int .u8 0,.int .u8 0,.int .u8 0,.int .u8 0,.int .u8 0,.int .u8 0,.int .u8 0,.int .u8 0,.int .u8 0,.int .u8 0,.int .u8 0,.int .u8 0,.int .u8 0,.int .u8 0,.int .u8 0,.int .u8 0,.int .u8 0,.int .u8 0,.int .u8 0,.int .u8 0,.int .u8 0,.int .u8 0,.int .u8 0,.int .u8 0,.int .u8 0,.int .u8 0,.int .u8 0,.int .u8 0,.int .u8 0,.int .u8 0,.int .u8 0])]) (.seq (.reg [qO 13 (.mov (.c (.int .i64 65)))]) (.seq (.seq (.reg [qM 30 3]) (.cond (.t 30) (.reg [qM 31 1,qO 32 (.neg (.t 31)),qM 1 32]) .skip)) (.cut (.seq (.seq (.reg [qM 33 2,qO 34 (.call 179 [.t 33])]) (.cond (.t 34) (.seq (.reg [qM 35 2,qO 36 (.cvi .u64 (.t 35)),qO 37 (.call 180 [.t 36]),qO 38 (.cvi .u64 (.t 37)),qM 14 38]) (.seq (.reg [qM 39 2,qO 40 (.cvi .u64 (.t 39)),qM 15 40]) (.seq (.reg [qM 41 2,qO 42 (.cvi .u64 (.t 41)),qO 43 (.bin .sub (.t 42) (.c (.int .u64 1))),qM 16 43]) (.seq (.block 0 (.loop qbk)) (.seq (.reg [qM 58 13,qO 59 (.bin .sub (.t 58) (.c (.int .i64 1))),qM 13 59]) (.reg [qM 60 13,qM 61 1,qO 62 (.idx (.c (.str [48,49,50,51,52,53,54,55,56,57,97,98,99,100,101,102,103,104,105,106,107,108,109,110,111,112,113,114,115,116,117,118,119,120,121,122])) (.t 61)),qO 63 (.ixv 1 65 (.t 12) (.t 60)),⟨none,.st 1 (.t 63) (.t 62),none⟩])))))) (.seq (.reg [qM 64 2,qO 65 (.cvi .u64 (.t 64)),qM 17 65]) (.seq (.block 2 (.loop qc1)) (.seq (.reg [qM 83 13,qO 84 (.bin .sub (.t 83) (.c (.int .i64 1))),qM 13 84]) (.reg [qM 85 13,qM 86 1,qO 87 (.idx (.c (.str [48,49,50,51,52,53,54,55,56,57,97,98,99,100,101,102,103,104,105,106,107,108,109,110,111,112,113,114,115,116,117,118,119,120,121,122])) (.t 86)),qO 88 (.ixv 1 65 (.t 12) (.t 85)),⟨none,.st 1 (.t 88) (.t 87),none⟩])))))) (.cut (.seq (.seq (.reg [qM 89 3]) (.cond (.t 89) (.seq (.reg [qM 90 13,qO 91 (.bin .sub (.t 90) (.c (.int .i64 1))),qM 13 91]) (.reg [qM 92 13,qO 93 (.ixv 1 65 (.t 12) (.t 92)),⟨none,.st 1 (.t 93) (.c (.int .u8 45)),none⟩])) .skip)) (.cut (.seq (.seq (.reg [qM 94 4]) (.cond (.t 94) (.seq (.reg [qM 95 0,qM 96 13,⟨none,.fz (.t 12),none⟩,qO 97 (.asl 65 (.t 12) (.t 96)),qO 98 (.app 5 1 1 (.t 95) (.t 97)),qM 10 98]) .ret) .skip)) (.seq (.reg [qM 99 13,⟨none,.fz (.t 12),none⟩,⟨none,.re,none⟩,qO 100 (.asl 65 (.t 12) (.t 99)),qO 101 (.b2s (.t 100)),qM 11 101]) .ret)))))))))))))
def qbE:List IRes:=[.t 10,.t 11]
theorem qdU:chkF Tryz.prog Tryz.f134 qbG qbE 102=true:=by kernel_rfl
def qbH:IC:=(.seq (.reg [qO 4 (.mov (.c (.str [])))]) (.seq (.seq (.reg [qM 9 1,qO 10 (.bin .eql (.t 9) (.c (.int .i64 10)))]) (.cond (.t 10) (.seq (.seq (.reg [qM 11 0,qO 12 (.bin .lss (.t 11) (.c (.int .u64 100)))]) (.cond (.t 12) (.seq (.reg [qM 13 0,qO 14 (.cvi .i64 (.t 13)),qO 15 (.call 131 [.t 14]),qM 4 15]) .ret) .skip)) (.seq (.reg [qO 5 (.alc 149 [.int .u8 0,.int .u8 0,.int .u8 0,.int .u8 0,.int .u8 0,.int .u8 0,.int .u8 0,.int .u8 0,.int .u8 0,.int .u8 0,.int .u8 0,.int .u8 0,.int .u8 0,.int .u8 0,.int .u8 0,.int .u8 0,.int .u8 0,.int .u8 0,.int .u8 0,.int .u8 0,.int .u8 0,.int .u8 0,.int .u8 0,.int .u8 0])]) (.seq (.reg [qM 16 0,qO 17 (.call 132 [.t 16]),qM 6 17]) (.seq (.reg [qM 18 6,qO 19 (.dead),qM 20 0,qO 21 (.call 133 [.t 19,.t 20])]) (.seq (.reg [qM 22 6,qO 23 (.dead),qO 24 (.b2s (.t 23)),qM 4 24]) .ret))))) .skip)) (.seq (.reg [qM 26 0,qM 27 1,qO 28 (.call 134 [.c (.nl 1),.t 26,.t 27,.c (.bool false),.c (.bool false)]),qM 25 28,qO 29 (.ext 0 (.t 25)),qO 30 (.ext 1 (.t 25)),qM 7 29,qM 8 30]) (.seq (.reg [qM 31 8,qM 4 31]) .ret))))
def qbF:List IRes:=[.t 4]
theorem qdV:chkF Tryz.prog Tryz.f203 qbH qbF 32=true:=by kernel_rfl
def qdN:IC:=(.seq (.reg [qO 4 (.mov (.c (.str [])))]) (.seq (.reg [qM 5 0,qM 6 1,qO 7 (.call 203 [.t 5,.t 6]),qM 4 7]) .ret))
def qdG:List IRes:=[.t 4]
theorem qgU:chkF Tryz.prog Tryz.f176 qdN qdG 8=true:=by kernel_rfl
section
variable {E:Envt}
theorem qji:∀ l:List UInt8,qg0 ((l.map fun b=>PV.int .u8 (b.toNat:Nat)).map fun x=>[x])=some l
 |[]=>rfl
 |b :: l=>by
  simp only [zl,qg0,qji l,Option.map_some,yi]
  simp
theorem qrc {cs:List PV} {D:List UInt8} {c:UInt8} (hl:65 - (c :: D).length=64 - D.length) (hc:cs.length=65) (hD:D.length≤15) (h:cs.drop (65 - D.length)=D.map (fun b=>PV.int .u8 (b.toNat:Nat))):(cs.set (64 - D.length) (.int .u8 (c.toNat:Nat))).drop (65 - (c :: D).length)=(c :: D).map (fun b=>PV.int .u8 (b.toNat:Nat)):=by
 rw [hl]
 have hk:64 - D.length < (cs.set (64 - D.length) (PV.int .u8 (c.toNat:Nat))).length:=by simp;omega
 rw [List.drop_eq_getElem_cons hk,zl,← h]
 congr 1
 ·simp
 ·rw [List.drop_set_of_lt (by omega),show 64 - D.length+1=65 - D.length from by omega]
theorem qvz:PCall Tryz.prog E 179 [int 16] (·=.bool true):=by
 refine qaf mixed Tryz.func179 qdi ?_
 simp only [a0,l0,OS.ao,zl,zt,zk,zp,zo,zq,zu,zd,zj,zm,qbt,qbo,ZZ,WW,Ze,reduceCtorEq,zd,ze,za,zf,zb]
 ((repeat' (with_reducible apply And.intro))<;>try ((exact sc_)))
abbrev tA65:Nat:=195
set_option maxRecDepth 100000 in
theorem qmj (hTZ:PCall Tryz.prog E 180 [.int .u64 16] (·=int 4)) (u:Nat) (hu:u < 18446744073709551616):PCall Tryz.prog E 134 [.sl 1 [],.int .u64 (u:Nat),int 16,.bool false,.bool false] (·=.tup [.sl 1 [],.str (hexF u)]):=by
 refine qaf mixed Tryz.func134 qdU ?_
 simp only [a0,l0,OS.ao,zl,zt,zk,zp,zo,zq,zu,zd,zj,zm,qbG,qbE,ZZ,WW,Ze,reduceCtorEq,zd,ze,za,zf,zb]
 have e1:decide ((16:Int) < 2)=false:=by decide
 have e2:decide ((16:Int)=10)=false:=by decide
 have e3:decide ((36:Int) < 16)=false:=by decide
 simp only [ZZ,WW,Ze,reduceCtorEq,zd,ze,za,zf,zb,e1,e2,e3,Bool.or_self,Bool.not_false]
 ((repeat' (with_reducible apply And.intro))<;>try ((exact sc_)))
 refine qai zE_ ?_
 simp only [ZZ,WW,Ze,reduceCtorEq,zd,ze,za,zf,zb]
 refine qai zE_ ?_
 simp only [ZZ,WW,Ze,reduceCtorEq,zd,ze,za,zf,zb]
 refine use1 qvz rfl (.inl rfl) ?_
 have w16:IntKind.u64.wrap 16=16:=by decide
 have w4:IntKind.u64.wrap 4=4:=by decide
 simp only [ZZ,WW,Ze,reduceCtorEq,zd,ze,za,zf,zb,w16]
 refine use1 hTZ rfl (.inl rfl) ?_
 have w15:IntKind.u64.wrap (16 - 1)=15:=by decide
 simp only [ZZ,WW,Ze,reduceCtorEq,zd,ze,za,zf,zb,w4,w15,w16]
 refine qag (fun n fr L=>∃ (v:Nat) (D:List UInt8) (cs:List PV),v=n∧(D.length≤15)∧(v < 16 ^ (16 - D.length))∧(hexF v++D=hexF u)∧(cs.length=65)∧(cs.drop (65 - D.length)=D.map (fun b=>PV.int .u8 (b.toNat:Nat)))∧fr=[.p (.sl 1 []),.p (.int .u64 (v:Nat)),.p (int 16),.p (.bool false),.p (.bool false),oo,oo,oo,oo,oo,.p (.nl 1),.p (.str []),.adr (.l 12) 0,.p (int ((65 - D.length:Nat))),.p (.int .u64 4),.p (.int .u64 16),.p (.int .u64 15),oo,oo,oo,oo,oo,oo,oo,oo,oo,oo,oo,oo,oo,oo,oo,oo,oo,oo,oo,oo,oo,oo,oo,oo,oo,oo,oo,oo,oo,oo,oo,oo,oo,oo,oo,oo,oo,oo,oo,oo,oo,oo,oo,oo,oo,oo,oo,oo,oo,oo,oo,oo,oo,oo,oo,oo,oo,oo,oo,oo,oo,oo,oo,oo,oo,oo,oo,oo,oo,oo,oo,oo,oo,oo,oo,oo,oo,oo,oo,oo,oo,oo,oo,oo,oo]∧L=[(.l 12,.box (cs.map .p) tA65)]) (u) _ _ (by (simp only [ZZ,WW,Ze,reduceCtorEq,zd,ze,za,zf,zb];try trivial)) (by (simp only [ZZ,WW,Ze,reduceCtorEq,zd,ze,za,zf,zb];try trivial)) ⟨u,(List.nil:List UInt8),[.int .u8 0,.int .u8 0,.int .u8 0,.int .u8 0,.int .u8 0,.int .u8 0,.int .u8 0,.int .u8 0,.int .u8 0,.int .u8 0,.int .u8 0,.int .u8 0,.int .u8 0,.int .u8 0,.int .u8 0,.int .u8 0,.int .u8 0,.int .u8 0,.int .u8 0,.int .u8 0,.int .u8 0,.int .u8 0,.int .u8 0,.int .u8 0,.int .u8 0,.int .u8 0,.int .u8 0,.int .u8 0,.int .u8 0,.int .u8 0,.int .u8 0,.int .u8 0,.int .u8 0,.int .u8 0,.int .u8 0,.int .u8 0,.int .u8 0,.int .u8 0,.int .u8 0,.int .u8 0,.int .u8 0,.int .u8 0,.int .u8 0,.int .u8 0,.int .u8 0,.int .u8 0,.int .u8 0,.int .u8 0,.int .u8 0,.int .u8 0,.int .u8 0,.int .u8 0,.int .u8 0,.int .u8 0,.int .u8 0,.int .u8 0,.int .u8 0,.int .u8 0,.int .u8 0,.int .u8 0,.int .u8 0,.int .u8 0,.int .u8 0,.int .u8 0,.int .u8 0],rfl,by simp,by simpa using hu,by simp,rfl,rfl,rfl,rfl⟩ ?_
 rintro n fr L ⟨v,D,cs,rfl,hD,hv,hF,hcl,hcs,rfl,rfl⟩
 simp only [qbk,ZZ,WW,Ze,reduceCtorEq,zd,ze,za,zf,zb]
 refine br ?_ ?_
 ·intro h
  have hv16:¬ v < 16:=by have:=of_decide_eq_true h;omega
  have hvb:v < 18446744073709551616:=by
   have:16 ^ (16 - D.length)≤16 ^ 16:=Nat.pow_le_pow_right (by omega) (by omega)
   omega
  have hD2:D.length+1≤15:=by
   rcases Nat.lt_or_ge D.length 15 with h'|h'
   ·omega
   ·have:D.length=15:=by omega
    rw [this] at hv
    omega
  have hb:=qxZ (u:=(v:Int)) (by omega) (by omega)
  have hm:(v:Int) % 16=((v % 16:Nat):Int):=by omega
  rw [hm] at hb
  have hs:((v:Int)).fdiv (2 ^ (min (Int.toNat 4) IntKind.u64.bits))=((v / 16:Nat):Int):=by
   rw [show (2:Int) ^ (min (Int.toNat 4) IntKind.u64.bits)=16 by decide,Int.fdiv_eq_ediv_of_nonneg _ (by omega)]
   omega
  have hi:((65 - D.length:Nat):Int) - 1=((64 - D.length:Nat):Int):=by omega
  have hx:=quv (v % 16) (by omega)
  have h65:(64 - D.length) * 1+1≤(List.map AV.p cs).length:=by simp;omega
  have hset:(List.map AV.p cs).set ((64 - D.length) * 1) (.p (.int .u8 ((hxB (v % 16)).toNat:Nat)))=(cs.set (64 - D.length) (.int .u8 ((hxB (v % 16)).toNat:Nat))).map .p:=by rw [Nat.mul_one,List.map_set]
  simp only [ZZ,WW,Ze,reduceCtorEq,zd,ze,za,zf,zb,hb,hs,hi,hx,h65,hset]
  ((repeat' (with_reducible apply And.intro))<;>try ((exact sc_)))
  have hlD:65 - (hxB (v % 16) :: D).length=64 - D.length:=by simp only [zk];omega
  refine qae ((v / 16)) _ _ (by omega) (by simp only [hlD];(simp only [ZZ,WW,Ze,reduceCtorEq,zd,ze,za,zf,zb];try trivial)) (by (simp only [ZZ,WW,Ze,reduceCtorEq,zd,ze,za,zf,zb];try trivial)) ⟨v / 16,hxB (v % 16) :: D,cs.set (64 - D.length) (.int .u8 ((hxB (v % 16)).toNat:Nat)),rfl,by simpa using hD2,by simp only [zk];rw [show 16 - D.length=(16 - (D.length+1))+1 from by omega,Nat.pow_succ] at hv;omega,by rw [← hF,qjU hv16];simp,by simpa using hcl,qrc hlD hcl hD hcs,rfl,rfl⟩
 ·intro h
  have hv16:v < 16:=by have:=of_decide_eq_false h;omega
  have hi:((65 - D.length:Nat):Int) - 1=((64 - D.length:Nat):Int):=by omega
  have hx:=quv v hv16
  have h65:(64 - D.length) * 1+1≤(List.map AV.p cs).length:=by simp;omega
  have hset:(List.map AV.p cs).set ((64 - D.length) * 1) (.p (.int .u8 ((hxB v).toNat:Nat)))=(cs.set (64 - D.length) (.int .u8 ((hxB v).toNat:Nat))).map .p:=by rw [Nat.mul_one,List.map_set]
  simp only [ZZ,WW,Ze,reduceCtorEq,zd,ze,za,zf,zb,hi,hx,h65,hset]
  ((repeat' (with_reducible apply And.intro))<;>try ((exact sc_)))
  refine qai zE_ ?_
  simp only [ZZ,WW,Ze,reduceCtorEq,zd,ze,za,zf,zb]
  refine qai zE_ ?_
  have hlD:65 - (hxB v :: D).length=64 - D.length:=by simp only [zk];omega
  have hd:=qrc (c:=hxB v) hlD hcl hD hcs
  have hl:(cs.set (64 - D.length) (PV.int .u8 ((hxB v).toNat:Nat))).length=65:=by simpa using hcl
  rw [hlD] at hd
  have hu2:hexF u=hxB v :: D:=by rw [← hF,qfH hv16];rfl
  rw [hu2]
  generalize cs.set (64 - D.length) (PV.int .u8 ((hxB v).toNat:Nat))=cs2 at *
  generalize hxB v :: D=D2 at *
  simp only [ZZ,WW,Ze,reduceCtorEq,zd,ze,za,zf,zb]
  rw [qxh]
  refine ⟨_,_,qxc (k:=.l 12) (cs:=cs2) rfl,?_⟩
  simp only [ZZ,WW,Ze,reduceCtorEq,zd,ze,za,zf,zb,hl,hd,qji,yi]
  ((repeat' (with_reducible apply And.intro))<;>try ((exact sc_)))
theorem qk9 (hTZ:PCall Tryz.prog E 180 [.int .u64 16] (·=int 4)) (u:Nat) (hu:u < 18446744073709551616):PCall Tryz.prog E 203 [.int .u64 (u:Nat),int 16] (·=.str (hexF u)):=by
 refine qaf mixed Tryz.func203 qdV ?_
 simp only [a0,l0,OS.ao,zl,zt,zk,zp,zo,zq,zu,zd,zj,zm,qbH,qbF,ZZ,WW,Ze,reduceCtorEq,zd,ze,za,zf,zb]
 have e2:decide ((16:Int)=10)=false:=by decide
 simp only [ZZ,WW,Ze,reduceCtorEq,zd,ze,za,zf,zb,e2]
 refine use1 (qmj hTZ u hu) rfl (.inl rfl) ?_
 simp only [ZZ,WW,Ze,reduceCtorEq,zd,ze,za,zf,zb]
theorem qmO (hTZ:PCall Tryz.prog E 180 [.int .u64 16] (·=int 4)) (u:Nat) (hu:u < 18446744073709551616):PCall Tryz.prog E 176 [.int .u64 (u:Nat),int 16] (·=.str (hexF u)):=by
 refine qaf mixed Tryz.func176 qgU ?_
 simp only [a0,l0,OS.ao,zl,zt,zk,zp,zo,zq,zu,zd,zj,zm,qdN,qdG,ZZ,WW,Ze,reduceCtorEq,zd,ze,za,zf,zb]
 refine use1 (qk9 hTZ u hu) rfl (.inl rfl) ?_
 simp only [ZZ,WW,Ze,reduceCtorEq,zd,ze,za,zf,zb]
end
end Go.Proofs.YtjgdjinhkgjpeaaGreatDoor
namespace Go.Proofs.YtjgdjinhkgjpeaaGreatDoor
section
variable {E:Envt}
end
section
variable {E:Envt}
end
section
variable {E:Envt}
end
def cov (l:List (Int×Int)) (j:Nat):Bool:=l.any fun s=>decide (s.1≤j) && decide ((j:Int) < s.2)
def bl (p:List Bool):List (List PV):=p.map fun b=>[.bool b]
section
variable {E:Envt}
def onAt (p:List Bool) (i:Nat):Bool:=p.getD i false
end
def cv (l:List (Int×Int)) (j:Int):Prop:=∃ s∈l,s.1≤j∧j < s.2
structure Right (l:List (Int×Int)):Prop where
 ok:∀ s∈l,s.1 < s.2
 ord:l.Pairwise (fun s t=>s.2 < t.1)
theorem Right.tail {s:Int×Int} {l:List (Int×Int)} (h:Right (s :: l)):Right l:=⟨fun t ht=>h.ok t (by simp [ht]),(List.pairwise_cons.1 h.ord).2⟩
theorem Right.head {s:Int×Int} {l:List (Int×Int)} (h:Right (s :: l)):s.1 < s.2∧∀ t∈l,s.2 < t.1:=⟨h.ok s (by simp),(List.pairwise_cons.1 h.ord).1⟩
structure FromInv (p:List Bool) (k:Nat) (out:List (Int×Int)):Prop where
 right:Right out
 bd:∀ s∈out,s.2≤k
 last:onAt p (k - 1)=true→0 < k→∃ (i:List (Int×Int)) (y:Int×Int),out=i++[y]∧y.2=(k:Int)
 gap:onAt p (k - 1)=false→0 < k→∀ s∈out,s.2 < k
 cov:∀ j,cv out j↔∃ i:Nat,j=i∧i < k∧onAt p i=true
structure InB (s:Int×Int) (o0 b:List (Int×Int)) (st:Int×List (Int×Int)):Prop where
 lo:s.1≤st.1
 src:st.1=s.1∨∃ x∈b,st.1=x.2
 right:Right st.2
 bd:∀ t∈st.2,t.2 < st.1
 hi:∀ t∈st.2,t∈o0∨t.2≤s.2
 fre:∀ j,st.1≤j→j < s.2→¬ cv b j
 cov:∀ j,cv st.2 j↔cv o0 j∨(s.1≤j∧j < st.1∧j < s.2∧¬ cv b j)
structure InA (b a out:List (Int×Int)):Prop where
 right:Right out
 bd:∀ t∈out,∃ s∈a,t.2≤s.2
 cov:∀ j,cv out j↔cv a j∧¬ cv b j
structure InP (l out:List (Int×Int)):Prop where
 right:Right out
 src:∀ t∈out,(∃ u∈l,t.1=u.1)∧∃ u∈l,t.2=u.2
 cov:∀ j,cv out j↔cv l j
section
variable {E:Envt}
end
section
variable {E:Envt}
end
end Go.Proofs.YtjgdjinhkgjpeaaGreatDoor
namespace Go.Proofs.YtjgdjinhkgjpeaaGreatDoor
open Nat renaming lt_or_ge→yg,reduceAdd→zd,reduceEqDiff→zb,reduceLT→zf,reduceLeDiff→za,reduceMul→ze,reduceSub→zu
open List renaming cons_append→zo,getD_eq_getElem?_getD→zG,getElem?_eq_getElem→zr,length_cons→zk,length_map→zV,length_nil→zp,map_cons→zl,map_nil→zt,mem_of_getElem?→zD,nil_append→zq,replicate_succ→zj,replicate_zero→zm,take_of_length_le→zP
open Option renaming map_eq_some_iff→zi
open _root_.Array renaming getElem?_eq_none→yt
open Go.RowKit
def E0:Envt where
 ok w:=Lib.Utf8Tabs 4 5 w∧∃ m:Int,w.cell? ⟨2,0,none⟩=some (.int .i64 m)
 bl b:=b=4∨b=5∨b=2
 mono w w' hb h:=by
  obtain ⟨⟨h1,h2⟩,m,h3⟩:=h
  have e1:=hb _ (.inl rfl)
  have e2:=hb _ (.inr (.inl rfl))
  have e3:=hb _ (.inr (.inr rfl))
  exact ⟨⟨fun c hc=>(World.cell?_of_block (w:=w) e1).trans (h1 c hc),fun i hi=>⟨(World.cell?_of_block (w:=w) e2).trans (h2 i hi).1,(World.cell?_of_block (w:=w) e2).trans (h2 i hi).2⟩⟩,m,(World.cell?_of_block (w:=w) e3).trans h3⟩
theorem qqb (s:List UInt8) (hs:s.length≤1000000000000):PCall Tryz.prog E0 145 [.str s] (·=.bool (Lib.validD s)):=
 qbz rfl rfl fun w hE=>(Any.utf8_ValidString Tryz.layValid ⟨s.toArray⟩ w (by simp [ByteArray.size];omega) hE.1).mono fun e w' h=>⟨by rw [h.1];rfl,qcL h.2⟩
def qbg:IC:=(.seq (.reg [qO 4 (.mov (.c (.bool false)))]) (.seq (.reg [qM 5 0,qO 6 (.sln (.t 5)),qM 7 1,qO 8 (.sln (.t 7)),qO 9 (.bin .geq (.t 6) (.t 8)),qM 10 9,⟨some 11,.mov (.t 0),(some (10,true))⟩,⟨some 12,.mov (.t 0),(some (10,true))⟩,⟨some 13,.sln (.t 12),(some (10,true))⟩,⟨some 14,.mov (.t 1),(some (10,true))⟩,⟨some 15,.sln (.t 14),(some (10,true))⟩,⟨some 16,.bin .sub (.t 13) (.t 15),(some (10,true))⟩,⟨some 17,.ssl (.t 11) (some (.t 16)) none,(some (10,true))⟩,⟨some 18,.mov (.t 1),(some (10,true))⟩,⟨some 19,.bin .eql (.t 17) (.t 18),(some (10,true))⟩,qO 20 (.pick (.t 10) (.t 19) (.c (.bool false))),qM 4 20]) .ret))
def qba:List IRes:=[.t 4]
theorem qdb:chkF Tryz.prog Tryz.f146 qbg qba 21=true:=by kernel_rfl
def qef:IC:=(.seq (.reg [qO 4 (.mov (.c (.bool false)))]) (.seq (.reg [qM 5 0,qM 6 1,qO 7 (.call 146 [.t 5,.t 6]),qM 4 7]) .ret))
def qd3:List IRes:=[.t 4]
theorem qhl:chkF Tryz.prog Tryz.f159 qef qd3 8=true:=by kernel_rfl
def qfc:IC:=(.seq (.reg [qO 10 (.bin .lss (.t 9) (.t 8))]) (.seq (.cond (.t 10) .skip (.exit 0)) (.seq (.block 1 (.seq (.reg [qM 11 9,qM 5 11]) (.seq (.reg [qM 12 0,qM 13 5,qO 14 (.idx (.t 12) (.t 13)),qM 6 14]) (.seq (.reg [qM 15 6,qO 16 (.bin .lss (.t 15) (.c (.int .u8 32))),qM 17 16,⟨some 18,.mov (.t 1),(some (17,true))⟩,⟨some 19,.mov (.t 18),(some (17,true))⟩,⟨some 20,.mov (.t 6),(some (19,true))⟩,⟨some 21,.bin .eql (.t 20) (.c (.int .u8 10)),(some (19,true))⟩,⟨some 22,.pick (.t 19) (.t 21) (.c (.bool false)),(some (17,true))⟩,⟨some 23,.not (.t 22),(some (17,true))⟩,qO 24 (.pick (.t 17) (.t 23) (.c (.bool false))),qM 25 24,⟨some 26,.mov (.t 6),(some (25,false))⟩,⟨some 27,.bin .eql (.t 26) (.c (.int .u8 127)),(some (25,false))⟩,qO 28 (.pick (.t 25) (.c (.bool true)) (.t 27))]) (.cond (.t 28) (.seq (.reg [qO 4 (.mov (.c (.bool false)))]) .ret) .skip))))) (.reg [qO 29 (.bin .add (.t 9) (.c (.int .i64 1))),qM 9 29]))))
def qgQ:IC:=(.seq (.reg [qO 4 (.mov (.c (.bool false)))]) (.seq (.seq (.reg [qM 7 0,qO 8 (.sln (.t 7)),qO 9 (.mov (.c (.int .i64 0)))]) (.block 0 (.loop qfc))) (.seq (.reg [qM 30 0,qO 31 (.call 145 [.t 30]),qM 4 31]) .ret)))
def qgD:List IRes:=[.t 4]
theorem qkC:chkF Tryz.prog Tryz.f158 qgQ qgD 32=true:=by kernel_rfl
section
variable {E:Envt}
def sufE (s t:List UInt8):Bool:=decide ((t.length:Int)≤s.length) && decide (s.drop (s.length - t.length)=t)
theorem qia (s t:List UInt8) (hs:s.length≤1000000000000):PCall Tryz.prog E 146 [.str s,.str t] (·=.bool (sufE s t)):=by
 refine qaf mixed Tryz.func146 qdb ?_
 simp only [a0,l0,OS.ao,zl,zt,zk,zp,zo,zq,zu,zd,zj,zm,qbg,qba,ZZ,WW,Ze,reduceCtorEq,zd,ze,za,zf,zb]
 ((repeat' (with_reducible apply And.intro))<;>try ((exact sc_)))
 rw [show ((s.length:Int) - t.length).toNat=s.length - t.length from by omega,List.take_length]
 rfl
theorem qn9 (s t:List UInt8) (hs:s.length≤1000000000000):PCall Tryz.prog E 159 [.str s,.str t] (·=.bool (sufE s t)):=by
 refine qaf mixed Tryz.func159 qhl ?_
 simp only [a0,l0,OS.ao,zl,zt,zk,zp,zo,zq,zu,zd,zj,zm,qef,qd3,ZZ,WW,Ze,reduceCtorEq,zd,ze,za,zf,zb]
 refine use1 (qia s t hs) rfl (.inl rfl) ?_
 simp only [ZZ,WW,Ze,reduceCtorEq,zd,ze,za,zf,zb]
def badB (feeds:Bool) (c:UInt8):Bool:=(decide ((c.toNat:Int) < 32) && !(feeds && decide ((c.toNat:Int)=10))) || decide ((c.toNat:Int)=127)
def visE (s:List UInt8) (feeds:Bool):Bool:=(s.all fun c=>!badB feeds c) && Lib.validD s
theorem qp9 {s:List UInt8} {k:Nat} {c:UInt8} {p:UInt8→Bool} (h:s[k]?=some c):(s.take (k+1)).all p=((s.take k).all p && p c):=by
 obtain ⟨hk,hx⟩:=List.getElem?_eq_some_iff.1 h
 rw [List.take_succ_eq_append_getElem hk,List.all_append,hx]
 simp
end
theorem qqJ (s:List UInt8) (feeds:Bool) (hs:s.length≤1000000000):PCall Tryz.prog E0 158 [.str s,.bool feeds] (·=.bool (visE s feeds)):=by
 refine qaf mixed Tryz.func158 qkC ?_
 simp only [a0,l0,OS.ao,zl,zt,zk,zp,zo,zq,zu,zd,zj,zm,qgQ,qgD,ZZ,WW,Ze,reduceCtorEq,zd,ze,za,zf,zb]
 refine qag (fun n fr L=>∃ (k:Nat),k≤s.length∧n=s.length - k∧(((s.take k).all fun c=>!badB feeds c)=true)∧fr=[.p (.str s),.p (.bool feeds),oo,oo,oo,oo,oo,oo,.p (int (s.length:Nat)),.p (int (k:Nat)),oo,oo,oo,oo,oo,oo,oo,oo,oo,oo,oo,oo,oo,oo,oo,oo,oo,oo,oo,oo,oo,oo]∧L=[]) (s.length) _ [] (by (simp only [ZZ,WW,Ze,reduceCtorEq,zd,ze,za,zf,zb];try trivial)) (by (simp only [ZZ,WW,Ze,reduceCtorEq,zd,ze,za,zf,zb];try trivial)) ⟨0,by omega,by omega,by simp,rfl,rfl⟩ ?_
 rintro n fr L ⟨k,hk,rfl,hall,rfl,rfl⟩
 simp only [qfc,ZZ,WW,Ze,reduceCtorEq,zd,ze,za,zf,zb]
 refine br ?_ ?_
 ·intro h
  have hlt:k < s.length:=by have:=of_decide_eq_true h;omega
  obtain ⟨c,hc⟩:∃ x,s[k]?=some x:=⟨_,zr hlt⟩
  have hg:s.getD k 0=c:=by simp [List.getD,hc]
  have hnx:=qp9 (p:=fun c=>!badB feeds c) hc
  simp only [ZZ,WW,Ze,reduceCtorEq,zd,ze,za,zf,zb,hg]
  ((repeat' (with_reducible apply And.intro))<;>try ((exact sc_)))
  refine br ?_ ?_
  ·intro hb
   have hb:badB feeds c=true:=hb
   simp only [ZZ,WW,Ze,reduceCtorEq,zd,ze,za,zf,zb]
   have:(s.all fun c=>!badB feeds c)=false:=by
    rw [List.all_eq_false]
    exact ⟨c,zD hc,by simp [hb]⟩
   simp [visE,this]
  ·intro hb
   have hb:badB feeds c=false:=hb
   simp only [ZZ,WW,Ze,reduceCtorEq,zd,ze,za,zf,zb]
   ((repeat' (with_reducible apply And.intro))<;>try ((exact sc_)))
   refine qae (s.length - (k+1)) _ [] (by omega) (by (simp only [ZZ,WW,Ze,reduceCtorEq,zd,ze,za,zf,zb];try trivial)) (by (simp only [ZZ,WW,Ze,reduceCtorEq,zd,ze,za,zf,zb];try trivial)) ⟨k+1,by omega,rfl,by rw [hnx,hall,hb];rfl,rfl,rfl⟩
 ·intro h
  have hge:s.length≤k:=by have:=of_decide_eq_false h;omega
  rw [zP hge] at hall
  simp only [ZZ,WW,Ze,reduceCtorEq,zd,ze,za,zf,zb]
  refine use1 (qqb s (by omega)) rfl (.inl rfl) ?_
  simp only [ZZ,WW,Ze,reduceCtorEq,zd,ze,za,zf,zb]
  simp [visE,hall]
section
variable {E:Envt}
end
theorem qqg {P:Program} {w w':World} {n:String} {g:Nat} (hg:P.globalNamed n=some g) (hb:w'.heap[g]?=w.heap[g]?):w'.var? P n=w.var? P n:=by
 simp only [World.var?,hg,Option.bind_some,hb]
def ED:Envt where
 ok w:=E0.ok w∧Lib.TabIs Tryz.prog w "internal/strconv.uint64pow10" .u64 Lib.pow10Tab∧TabAt 9 Lib.deBruijn64tab w
 bl b:=E0.bl b∨b=3∨b=9
 mono w w' hb h:=⟨E0.mono w w' (fun b hbb=>hb b (.inl hbb)) h.1,(qqg (by kernel_rfl) (hb _ (.inr (.inl rfl)))).trans h.2.1,fun j hj=>(World.cell?_of_block (hb _ (.inr (.inr rfl)))).trans (h.2.2 j hj)⟩
theorem upD {f:FuncId} {args:List PV} {φ:PV→Prop} (h:PCall Tryz.prog E0 f args φ):PCall Tryz.prog ED f args φ:=fun w U vs hU hE hEb hA=>h w U vs hU hE.1 (fun c hc=>hEb c (.inl hc)) hA
theorem qrQ (w:World) (k:Nat) (os:Array Obj):Grow w (Sort.grow (w.drewN k) os) (fun _=>False):=⟨rfl,rfl,rfl,by simp [Sort.grow,World.drewN],fun b hb _=>by simp [Sort.grow,World.drewN,Array.getElem?_append_left hb]⟩
theorem qaW (n:Int) (h0:-9223372036854775808≤n) (h1:n≤9223372036854775807):PCall Tryz.prog ED 17 [int n] (·=.str (Lib.itoa n)):=
 qbz rfl rfl fun w hE=>(Any.strconv_Itoa Tryz.layItoa n h0 h1 w hE.2.1).mono fun e w' h=>⟨h.1,by obtain ⟨k,os,rfl⟩:=h.2;exact qrQ w k os⟩
theorem qx7:PCall Tryz.prog ED 180 [.int .u64 16] (·=int 4):=
 qbz rfl rfl fun w hE=>(Any7.bits_TrailingZeros Tryz.layTZ 16 (by omega) w (fun _=>hE.2.2)).mono fun e w' h=>⟨by have h1:=h.1;rw [show Lib.ctz 64 16=4 by decide] at h1;exact h1,by rw [h.2];exact Grow.refl _ _⟩
theorem qk8 (u:Nat) (hu:u < 18446744073709551616):PCall Tryz.prog ED 176 [.int .u64 (u:Nat),int 16] (·=.str (hexF u)):=qmO qx7 u hu
def qt7 (k:IntKind) (w:World) (a:Option Addr) (len cap:Nat) (zs:List Int):Prop:=
 (a=none∧len=0∧cap=0∧zs=[])∨
 ∃ x,a=some x∧len≤cap∧cap≤maxLen∧zs.length=cap∧(∀ i,i < zs.length→w.cell? (x.add i)=some (.int k (zs.getD i 0)))∧∀ n∈zs,(Lit.int k n).wf=true
theorem qnb {w:World} {U:Nat→Prop} {b:Nat}:∀ (l:List Int) (off:Nat),(∀ i,i < l.length→w.cell? ⟨b,off+i,none⟩=some (.int .i64 (l.getD i 0)))→PRepE w U b 1 off (l.map fun x=>[.int .i64 x])
 |[],off,h=>trivial
 |x :: r,off,h=>by
  refine ⟨rfl,⟨⟨_,by simpa using h 0 (by simp),rfl,rfl⟩,trivial⟩,qnb r (off+1) (fun i hi=>?_)⟩
  have:=h (i+1) (by simpa using hi)
  rw [show off+1+i=off+(i+1) from by omega]
  simpa using this
theorem qrI {w:World} {a:Option Addr} {len cap:Nat} {zs:List Int} (h:qt7 .i64 w a len cap zs):PRep w (fun _=>False) (ints (zs.take len)) (.slice a len cap)∧(zs.take len).length≤9223372036854775807:=by
 rcases h with ⟨rfl,rfl,rfl,rfl⟩|⟨x,rfl,h1,h2,h3,h4,_⟩
 ·exact ⟨⟨none,0,rfl,by simp,fun h=>by simp at h⟩,by simp⟩
 ·have hl:(zs.take len).length=len:=by rw [List.length_take];omega
  refine ⟨⟨some x,cap,by rw [zV,hl],by rw [zV,hl];exact h1,fun hne=>?_⟩,by rw [hl];unfold maxLen at h2;omega⟩
  have h0:0 < len:=by
   rcases Nat.eq_zero_or_pos len with h'|h'
   ·subst h';simp at hne
   ·exact h'
  obtain ⟨b,off,spot⟩:=x
  have hc:=h4 0 (by omega)
  have hspot:spot=none:=by simpa [Addr.add] using World.cell?_spot hc
  subst hspot
  have hb:b < w.heap.size:=by
   have:=World.block_lt_of_cell? w _ hc
   simpa [Addr.add] using this
  refine ⟨b,off,rfl,hb,fun h=>h,qnb _ _ (fun i hi=>?_)⟩
  rw [hl] at hi
  have:=h4 i (by omega)
  rw [qaU] at this
  rw [this]
  congr 2
  rw [zG,zG,List.getElem?_take_of_lt hi]
theorem quE {P:Program} {E:Envt} {f:FuncId} (h:∀ z:List Int,z.length≤9223372036854775807→PCall P E f [ints z] (·=.bool true)) (a0:Option Addr) (len0 cap0:Nat) (z0:List Int) (w:World) (h0:qt7 .i64 w a0 len0 cap0 z0) (hok:E.ok w) (hbl:∀ b,E.bl b→b < w.heap.size) :
  Calls P f #[.slice a0 len0 cap0] w fun e w'=>e=.returned (.bool true)∧Below w.heap.size w w':=by
 obtain ⟨h1,h2⟩:=qrI h0
 refine (h _ h2 w (fun _=>False) [.slice a0 len0 cap0] (fun _ h=>h.elim) hok hbl ⟨_,[],rfl,h1,rfl⟩).mono ?_
 rintro e w' ⟨v,x,rfl,rfl,hv,hg⟩
 refine ⟨by rw [PRep.bool_eq hv],⟨hg.os,hg.tape,hg.output,hg.size,fun k hk=>hg.block k hk (fun h=>h)⟩⟩
theorem qfm (s:List UInt8):(⟨s.toArray⟩:ByteArray).size=s.length:=by simp [ByteArray.size]
section
variable {E:Envt}
theorem qsw (s:List UInt8) (n:Nat) (hn:n≤1000000) (hs:s.length≤1000000):PCall Tryz.prog E 125 [.str s,int n] (·=.str (Lib.repeatL s n)):=
 qbz rfl rfl fun w _=>(qpx ⟨s.toArray⟩ n w (by omega) (by rw [qfm];exact Nat.le_trans (Nat.mul_le_mul hs hn) (by decide))).mono fun e w' h=>⟨h.1,qcL h.2⟩
theorem qb5 (s p:List UInt8):PCall Tryz.prog E 74 [.str s,.str p] (·=.bool (Lib.hasPrefix s p)):=
 qbz rfl rfl fun w _=>(Any.strings_HasPrefix Tryz.layPrefix ⟨s.toArray⟩ ⟨p.toArray⟩ w).mono fun e w' h=>⟨h.1,by rw [h.2];exact Grow.refl _ _⟩
end
theorem qt8 (s t:List UInt8) (hs:s.length≤1000000000):PCall Tryz.prog E0 111 [.str s,.str t] (·=int (Lib.index s t)):=
 qbz rfl rfl fun w hE=>by
  obtain ⟨_,m,hm⟩:=hE
  exact (Any.strings_Index { Tryz.layIndex with } ⟨s.toArray⟩ ⟨t.toArray⟩ m w (by rw [qfm];omega) hm).mono fun e w' h=>⟨h.1,by rw [h.2];exact Grow.refl _ _⟩
def qb9:IC:=(.seq (.reg [qO 11 (.bin .lss (.t 10) (.t 9))]) (.seq (.cond (.t 11) .skip (.exit 0)) (.seq (.block 1 (.seq (.reg [qO 12 (.ixa 1 (.t 8) (.t 10)),qO 13 (.ld 1 false (.t 12)),qM 6 13]) (.seq (.reg [qM 14 6,qO 15 (.bin .lss (.t 14) (.c (.int .u8 32))),qM 16 15,⟨some 17,.mov (.t 1),(some (16,true))⟩,⟨some 18,.mov (.t 17),(some (16,true))⟩,⟨some 19,.mov (.t 6),(some (18,true))⟩,⟨some 20,.bin .eql (.t 19) (.c (.int .u8 10)),(some (18,true))⟩,⟨some 21,.pick (.t 18) (.t 20) (.c (.bool false)),(some (16,true))⟩,⟨some 22,.not (.t 21),(some (16,true))⟩,qO 23 (.pick (.t 16) (.t 22) (.c (.bool false))),qM 24 23,⟨some 25,.mov (.t 6),(some (24,false))⟩,⟨some 26,.bin .eql (.t 25) (.c (.int .u8 127)),(some (24,false))⟩,qO 27 (.pick (.t 24) (.c (.bool true)) (.t 26))]) (.cond (.t 27) (.seq (.reg [qO 4 (.mov (.c (.bool false)))]) .ret) .skip)))) (.reg [qO 28 (.bin .add (.t 10) (.c (.int .i64 1))),qM 10 28]))))
def qc2:IC:=(.seq (.reg [qO 4 (.mov (.c (.bool false)))]) (.seq (.seq (.reg [qM 7 0,qO 8 (.s2b 5 (.t 7)),qO 9 (.len (.t 8)),qO 10 (.mov (.c (.int .i64 0)))]) (.block 0 (.loop qb9))) (.seq (.reg [qM 29 0,qO 30 (.call 145 [.t 29]),qM 4 30]) .ret)))
def qcR:List IRes:=[.t 4]
theorem qfV:chkF Tryz.prog Tryz.f103 qc2 qcR 31=true:=by kernel_rfl
theorem qqa {p:UInt8→Prop} (h:∀ n:Fin 256,p (UInt8.ofNat n.val)) (c:UInt8):p c:=by
 have:=h ⟨c.toNat,c.toNat_lt⟩
 simpa using this
section
variable {E:Envt}
end
theorem qlH (s:List UInt8) (feeds:Bool) (hs:s.length≤1000000000):PCall Tryz.prog E0 103 [.str s,.bool feeds] (·=.bool (visE s feeds)):=by
 refine qaf mixed Tryz.func103 qfV ?_
 simp only [a0,l0,OS.ao,zl,zt,zk,zp,zo,zq,zu,zd,zj,zm,qc2,qcR,ZZ,WW,Ze,reduceCtorEq,zd,ze,za,zf,zb]
 refine ⟨by omega,?_⟩
 have hln:(s.map fun q=>[PV.int .u8 (q.toNat:Nat)]).length=s.length:=by simp
 have hget:∀ k c,s[k]?=some c→(s.map fun q=>[PV.int .u8 (q.toNat:Nat)]).getD k []=[.int .u8 (c.toNat:Nat)]:=fun k c h=>qcw h
 generalize (s.map fun q=>[PV.int .u8 (q.toNat:Nat)])=es at hln hget ⊢
 simp only [ZZ,WW,Ze,reduceCtorEq,zd,ze,za,zf,zb,hln]
 refine qag (fun n fr L=>∃ (k:Nat),k≤s.length∧n=s.length - k∧(((s.take k).all fun c=>!badB feeds c)=true)∧fr=[.p (.str s),.p (.bool feeds),oo,oo,oo,oo,oo,oo,.row (.l 8),.p (int (s.length:Nat)),.p (int (k:Nat)),oo,oo,oo,oo,oo,oo,oo,oo,oo,oo,oo,oo,oo,oo,oo,oo,oo,oo,oo,oo]∧L=[(.l 8,.row es 5 1 false)]) (s.length) _ _ (by (simp only [ZZ,WW,Ze,reduceCtorEq,zd,ze,za,zf,zb];try trivial)) (by (simp only [ZZ,WW,Ze,reduceCtorEq,zd,ze,za,zf,zb];try trivial)) ⟨0,by omega,by omega,by simp,rfl,rfl⟩ ?_
 rintro n fr L ⟨k,hk,rfl,hall,rfl,rfl⟩
 simp only [qb9,ZZ,WW,Ze,reduceCtorEq,zd,ze,za,zf,zb]
 refine br ?_ ?_
 ·intro h
  have hlt:k < s.length:=by have:=of_decide_eq_true h;omega
  obtain ⟨c,hc⟩:∃ x,s[k]?=some x:=⟨_,zr hlt⟩
  have hg:=hget k c hc
  have hnx:=qp9 (p:=fun c=>!badB feeds c) hc
  simp only [ZZ,WW,Ze,reduceCtorEq,zd,ze,za,zf,zb,hg,hln]
  ((repeat' (with_reducible apply And.intro))<;>try ((exact sc_)))
  refine br ?_ ?_
  ·intro hb
   have hb:badB feeds c=true:=hb
   simp only [ZZ,WW,Ze,reduceCtorEq,zd,ze,za,zf,zb]
   have:(s.all fun c=>!badB feeds c)=false:=by
    rw [List.all_eq_false]
    exact ⟨c,zD hc,by simp [hb]⟩
   simp [visE,this]
  ·intro hb
   have hb:badB feeds c=false:=hb
   simp only [ZZ,WW,Ze,reduceCtorEq,zd,ze,za,zf,zb]
   ((repeat' (with_reducible apply And.intro))<;>try ((exact sc_)))
   refine qae (s.length - (k+1)) _ _ (by omega) (by (simp only [ZZ,WW,Ze,reduceCtorEq,zd,ze,za,zf,zb];try trivial)) (by (simp only [ZZ,WW,Ze,reduceCtorEq,zd,ze,za,zf,zb];try trivial)) ⟨k+1,by omega,rfl,by rw [hnx,hall,hb];rfl,rfl,rfl⟩
 ·intro h
  have hge:s.length≤k:=by have:=of_decide_eq_false h;omega
  rw [zP hge] at hall
  simp only [ZZ,WW,Ze,reduceCtorEq,zd,ze,za,zf,zb]
  refine use1 (qqb s (by omega)) rfl (.inl rfl) ?_
  simp only [ZZ,WW,Ze,reduceCtorEq,zd,ze,za,zf,zb]
  simp [visE,hall]
theorem quA:(Tryz.prog.info? 5).map (fun i=>(i.zero,i.size,i.bytes))=some (some (.int .u8 0),1,1):=by kernel_rfl
theorem qsj:(Tryz.prog.info? 52).map (·.size)=some 2:=by kernel_rfl
theorem qwx:liesAt Tryz.prog Tryz.prog.depth 52 (2 / Tryz.prog.cellsOf 52) 0 52 1=true:=by kernel_rfl
theorem qmA (W:World) (q:Option Addr):(Builtin.unsafeString_ #[97,3] 9 #[.pointer q,.int .i64 0]).run Tryz.prog W=.ok (.string .empty) W:=Lib.run_unsafeString_none W _ _ _ q
theorem qhV:Tryz.prog.follows .mixedOrders=true:=by kernel_rfl
theorem qwy:Tryz.prog.cellsOf 5=1:=by kernel_rfl
theorem qx1:(Tryz.prog.info? 5).map (·.size)=some 1:=by kernel_rfl
abbrev tSb:TypeId:=52
abbrev tU8:TypeId:=5
set_option maxHeartbeats 1000000 in
set_option maxRecDepth 100000 in
theorem qtU (b:Nat) (w:World) (h0:w.cell? ⟨b,0,none⟩=some (.pointer (some ⟨b,0,none⟩))) :
  Calls Tryz.prog 56 #[.pointer (some ⟨b,0,none⟩)] w fun e w'=>e=.returned (.tuple #[])∧w'=w:=by
 obtain ⟨j,hj,_⟩:=zi.1 qsj
 go_enter Tryz.func56,Tryz.ntmps56
 go_wp2
 rw [Lib.run_neq_ptr_same w _ Tryz.underlying49 hj]
 go_wp2
 go_end0
 exact ⟨rfl,rfl⟩
set_option maxHeartbeats 1000000 in
set_option maxRecDepth 100000 in
theorem qnR (b:Nat) (w:World) (h0:w.cell? ⟨b,0,none⟩=some (.pointer none)) (hsh:w.shape? b=some (52,2)) (hfz:w.frozen? ⟨b,0,none⟩=false) :
  Calls Tryz.prog 56 #[.pointer (some ⟨b,0,none⟩)] w fun e w'=>e=.returned (.tuple #[])∧w'=w.setCell ⟨b,0,none⟩ (.pointer (some ⟨b,0,none⟩)):=by
 obtain ⟨j,hj,hjs⟩:=zi.1 qsj
 go_enter Tryz.func56,Tryz.ntmps56
 go_wp2
 rw [Lib.run_to_unsafe w ⟨b,0,none⟩ Tryz.underlying49 Tryz.underlying128 hj (by rw [hjs];decide) hsh (Nat.zero_lt_succ 1)]
 simp only [Result.andThen]
 rw [Oper.upon_value]
 go_wp2
 rw [run_callFunc_extern Tryz.func98 (by kernel_rfl) (by kernel_rfl) (by kernel_rfl) (e:=Extern.AbiNoEscape.same) (by kernel_rfl)]
 rw [Lib.run_noEscape]
 simp only [Result.andThen]
 rw [Oper.upon_value]
 go_wp2
 rw [Lib.run_from_unsafe w ⟨b,0,none⟩ Tryz.underlying128 Tryz.underlying49 hj hsh qwx]
 simp only [Result.andThen]
 rw [Oper.upon_value]
 go_wp2
 go_end0
 exact ⟨rfl,rfl⟩
theorem b_cc (b:Nat) (bs:List Value) (w:World) (h:Lib.IsBuilder 52 5 0 b bs w) :
  Calls Tryz.prog 56 #[.pointer (some ⟨b,0,none⟩)] w fun e w'=>e=.returned (.tuple #[])∧qsH 52 5 b bs w w':=by
 rcases h with h|h
 ·refine (qnR b w h.cell0 h.shape h.frozen0).mono ?_
  rintro e w' ⟨rfl,rfl⟩
  exact ⟨rfl,qnN h⟩
 ·refine (qtU b w h.cell0).mono ?_
  rintro e w' ⟨rfl,rfl⟩
  exact ⟨rfl,qo0 h⟩
set_option maxHeartbeats 2000000 in
set_option maxRecDepth 100000 in
theorem qm9 (b:Nat) (s:List UInt8) (c:UInt8) (w:World) (h:Lib.IsBuilder 52 5 0 b (Lib.byteCells s) w) (hlen:s.length+1≤140737488355328) :
  Calls Tryz.prog 96 #[.pointer (some ⟨b,0,none⟩),.int .u8 c.toNat] w fun e w'=>e=.returned .nilIface∧SbPost 52 5 b (s++[c]) w w':=by
 obtain ⟨i0,hi,hz0,hz1,hz2⟩:=info_parts quA
 go_enter Tryz.func96,Tryz.ntmps96
 go_wp2_with (go_at_call 56;refine (b_cc b _ _ h).mono ?_)
 rintro e w1 ⟨rfl,v,hbk,hown,hne,hG1,hbf⟩
 rw [Lib.byteCells_length] at hown
 have c0:w1.cell? ⟨b,0,none⟩=some (.pointer (some ⟨b,0,none⟩)):=by rw [Lib.cell_of_heap hbk];rfl
 have c1:w1.cell? ⟨b,1,none⟩=some v:=by rw [Lib.cell_of_heap hbk];rfl
 go_wp2_with (at_builtin;refine wpList_append_own_at _ rfl _ _ 50 rfl 0 5 i0 (.int .u8 0) 1 1 Tryz.underlying50 hi hz0 hz1 hz2 rfl (by decide) _ _ _ rfl (hown.alloc _) ⟨w1.heap.size,0,none⟩ 1 1 [.int .u8 c.toNat] rfl rfl (cell_one_new _ _ _) (by intro u hu;simp at hu;subst hu;rfl) (by unfold maxLen;omega) (by omega) (Nat.zero_le _) ?_)
 intro v' w2 hown' hgrow _ hat
 have hlt:=qi3 hbk
 have hk1:(w1.alloc (.cells #[.int .u8 c.toNat] 5)).heap[b]?=some (.cells #[.pointer (some ⟨b,0,none⟩),v] 52 (0,0)):=by rw [Lib.alloc_old w1 _ b hlt];exact hbk
 have hb2:w2.heap[b]?=some (.cells #[.pointer (some ⟨b,0,none⟩),v] 52 (0,0)):=by
  rw [hgrow.block b (by simp;omega) (fun e=>hne e.symm)]
  exact hk1
 have d0:w2.cell? ⟨b,0,none⟩=some (.pointer (some ⟨b,0,none⟩)):=by rw [Lib.cell_of_heap hb2];rfl
 have d1:w2.cell? ⟨b,1,none⟩=some v:=by rw [Lib.cell_of_heap hb2];rfl
 have f1:w2.frozen? ⟨b,1,none⟩=false:=Lib.frozen_of_heap hb2 1
 have hP:SbPost 52 5 b (s++[c]) w (w2.setCell ⟨b,1,none⟩ v'):=by
  refine qkc (w1:=w1.alloc (.cells #[.int .u8 c.toNat] 5)) (by decide) ⟨hG1.os,hG1.tape,hG1.output,Nat.le_trans hG1.size (by simp),fun k hk hn=>(Lib.alloc_old w1 _ k (Nat.lt_of_lt_of_le hk hG1.size)).trans (hG1.block k hk hn)⟩ (fun x hx=>hbf x ((qf2 hbk).2 ((qf2 hk1).1 hx))) hk1 hgrow hne (fun x hx=>?_) (by simpa [Lib.byteCells] using hown')
  rcases hat with h'|h'
  ·exact .inl (by rw [← h'];exact hx)
  ·rw [h'] at hx;simp at hx;right;simp;omega
 obtain ⟨g,cap,rfl⟩:∃ g cap,v'=.slice (some ⟨g,0,none⟩) (s.length+1) cap:=by
  rcases hown'.2 with ⟨_,h0⟩|⟨g,cap,cur,hv,_⟩
  ·omega
  ·exact ⟨g,cap,hv⟩
 go_wp2
 go_ret
 exact ⟨rfl,hP⟩
set_option maxHeartbeats 2000000 in
set_option maxRecDepth 100000 in
theorem qkS (b:Nat) (s t:List UInt8) (w:World) (h:Lib.IsBuilder 52 5 0 b (Lib.byteCells s) w) (hlen:s.length+t.length≤140737488355328) :
  Calls Tryz.prog 20 #[.pointer (some ⟨b,0,none⟩),.string ⟨t.toArray⟩] w fun e w'=>e=.returned (.tuple #[.int .i64 t.length,.nilIface])∧SbPost 52 5 b (s++t) w w':=by
 obtain ⟨i0,hi,hz0,hz1,hz2⟩:=info_parts quA
 have hsz:(⟨t.toArray⟩:ByteArray).size=t.length:=by simp [ByteArray.size]
 have hcl:Lib.strCells ⟨t.toArray⟩=Lib.byteCells t:=by simp [Lib.strCells,Lib.byteCells]
 generalize hst:(⟨t.toArray⟩:ByteArray)=st at hsz hcl ⊢
 rw [← hsz] at hlen ⊢
 go_enter Tryz.func20,Tryz.ntmps20
 go_wp2_with (go_at_call 56;refine (b_cc b _ _ h).mono ?_)
 rintro e w1 ⟨rfl,v,hbk,hown,hne,hG1,hbf⟩
 rw [Lib.byteCells_length] at hown
 have c0:w1.cell? ⟨b,0,none⟩=some (.pointer (some ⟨b,0,none⟩)):=by rw [Lib.cell_of_heap hbk];rfl
 have c1:w1.cell? ⟨b,1,none⟩=some v:=by rw [Lib.cell_of_heap hbk];rfl
 go_wp2_with (at_builtin;refine qkP rfl _ _ 50 9 rfl 0 5 i0 Tryz.underlying50 Tryz.underlying9 hi hz0 hz1 hz2 _ _ _ rfl hown st rfl (by unfold maxLen;omega) (by omega) (Nat.zero_le _) ?_)
 intro v' w2 hown' hgrow hat
 have hlt:=qi3 hbk
 have hb2:w2.heap[b]?=some (.cells #[.pointer (some ⟨b,0,none⟩),v] 52 (0,0)):=by
  rw [hgrow.block b hlt (fun e=>hne e.symm)]
  exact hbk
 have d0:w2.cell? ⟨b,0,none⟩=some (.pointer (some ⟨b,0,none⟩)):=by rw [Lib.cell_of_heap hb2];rfl
 have d1:w2.cell? ⟨b,1,none⟩=some v:=by rw [Lib.cell_of_heap hb2];rfl
 have f1:w2.frozen? ⟨b,1,none⟩=false:=Lib.frozen_of_heap hb2 1
 have hP:SbPost 52 5 b (s++t) w (w2.setCell ⟨b,1,none⟩ v'):=
  qkc (by decide) hG1 hbf hbk hgrow hne hat (by first|(rw [hcl,hsz] at hown';simpa [Lib.byteCells] using hown')|simpa [Lib.byteCells] using hown')
 obtain ⟨ao,n',cap,rfl⟩:∃ ao n' cap,v'=.slice ao n' cap:=by
  rcases hown'.2 with ⟨hv,_⟩|⟨g,cap,cur,hv,_⟩
  ·exact ⟨_,_,_,hv⟩
  ·exact ⟨_,_,_,hv⟩
 go_wp2
 go_ret2
 exact ⟨by first|rfl|(rw [hsz];rfl),hP⟩
set_option maxHeartbeats 1000000 in
set_option maxRecDepth 100000 in
theorem qtV (B b:Nat) (l:List UInt8) (w:World) (h:Lib.IsBuilder 52 5 B b (Lib.byteCells l) w) (h0:l≠[]) :
  Calls Tryz.prog 23 #[.pointer (some ⟨b,0,none⟩)] w fun e w'=>e=.returned (.string ⟨l.toArray⟩)∧Grow w w' (fun x=>x=b∨qfl w 52 b x):=by
 obtain ⟨p,hB,v,hbk,hown,hne⟩:∃ p,Lib.BuilderAt 52 5 B b p (Lib.byteCells l) w:=by
  rcases h with h|h
  ·exact ⟨_,h⟩
  ·exact ⟨_,h⟩
 have hl0:l.length≠0:=by simpa using h0
 rw [Lib.byteCells_length] at hown
 obtain ⟨g,cap,cur,rfl,hbg,hg,hnc,hcm,hcs,htake⟩:∃ g cap cur,v=.slice (some ⟨g,0,none⟩) l.length cap∧B≤g∧w.heap[g]?=some (.cells cur 5 (0,0))∧l.length≤cap∧cap≤maxLen∧cur.size=cap * 1∧cur.toList.take (l.length * 1)=Lib.byteCells l:=by
  rcases hown.2 with ⟨_,hz⟩|⟨g,cap,cur,hv,r⟩
  ·exact absurd hz hl0
  ·exact ⟨g,cap,cur,hv,r⟩
 have c1:w.drew.cell? ⟨b,1,none⟩=some (.slice (some ⟨g,0,none⟩) l.length cap):=by
  have:w.drew.heap[b]?=some (.cells #[p,.slice (some ⟨g,0,none⟩) l.length cap] 52 (0,0)):=hbk
  rw [Lib.cell_of_heap this];rfl
 have hSD:(Builtin.unsafeSliceData_ #[50] 97 #[.slice (some ⟨g,0,none⟩) l.length cap]).run Tryz.prog w.drew=.ok (.pointer (some ⟨g,0,none⟩)) w.drew:=
  Lib.run_unsafeSliceData_row _ _ _ _ _ _ (by omega)
 have hUS:(Builtin.unsafeString_ #[97,3] 9 #[.pointer (some ⟨g,0,none⟩),.int .i64 l.length]).run Tryz.prog w.drew=.ok (.string ⟨l.toArray⟩) (w.drew.freeze ⟨g,0,none⟩ l.length):=by
  refine Lib.run_unsafeString_row w.drew 97 3 9 5 Tryz.underlying97 qwy g cur.size (by have hg':w.drew.heap[g]?=some (.cells cur 5 (0,0)):=hg;simp [World.shape?,hg']) l h0 (by omega) (by unfold maxLen at hcm;omega) ?_
  intro j x hx
  have:=hown.cells (g:=g) rfl j (.int .u8 x.toNat) (by simp [Lib.byteCells,hx])
  exact this
 have mixed:=qhV
 go_enter Tryz.func23,Tryz.ntmps23
 go_wp2
 go_region_o
 all_goals (go_wp2;go_ret;exact ⟨rfl,qoN (.inr ⟨_,_,hbk,rfl⟩)⟩)
set_option maxHeartbeats 2000000 in
set_option maxRecDepth 100000 in
theorem qnS (B b:Nat) (p:Value) (w:World) (hbk:w.heap[b]?=some (.cells #[p,.slice none 0 0] 52 (0,0))) :
  Calls Tryz.prog 23 #[.pointer (some ⟨b,0,none⟩)] w fun e w'=>e=.returned (.string ⟨#[]⟩)∧Grow w w' (fun x=>x=b∨qfl w 52 b x):=by
 have hUS:=qmA
 have c1:w.drew.cell? ⟨b,1,none⟩=some (.slice none 0 0):=by
  have:w.drew.heap[b]?=some (.cells #[p,.slice none 0 0] 52 (0,0)):=hbk
  rw [Lib.cell_of_heap this];rfl
 have hSD:(Builtin.unsafeSliceData_ #[50] 97 #[.slice none 0 0]).run Tryz.prog w.drew=.ok (.pointer none) w.drew:=rfl
 have mixed:=qhV
 go_enter Tryz.func23,Tryz.ntmps23
 go_wp2
 go_region_o
 all_goals (go_wp2;go_ret;exact ⟨rfl,(Grow.refl w _).drew⟩)
set_option maxHeartbeats 2000000 in
set_option maxRecDepth 100000 in
theorem qkE (B b g:Nat) (p:Value) (cur:Array Value) (w:World) (hBw:B≤w.heap.size) (hbk:w.heap[b]?=some (.cells #[p,.slice (some ⟨g,0,none⟩) 0 0] 52 (0,0))) (hg:w.heap[g]?=some (.cells cur 5 (0,0))) :
  Calls Tryz.prog 23 #[.pointer (some ⟨b,0,none⟩)] w fun e w'=>e=.returned (.string ⟨#[]⟩)∧Grow w w' (fun x=>x=b∨qfl w 52 b x):=by
 have hUS:=qmA
 have hlt:b < w.heap.size:=by
  rcases yg b w.heap.size with h'|h'
  ·exact h'
  ·simp [yt h'] at hbk
 have c1:w.drew.cell? ⟨b,1,none⟩=some (.slice (some ⟨g,0,none⟩) 0 0):=by
  have:w.drew.heap[b]?=some (.cells #[p,.slice (some ⟨g,0,none⟩) 0 0] 52 (0,0)):=hbk
  rw [Lib.cell_of_heap this];rfl
 have hSD:(Builtin.unsafeSliceData_ #[50] 97 #[.slice (some ⟨g,0,none⟩) 0 0]).run Tryz.prog w.drew=.ok (.pointer (some ⟨w.drew.heap.size,0,none⟩)) (w.drew.alloc (.view ⟨g,0,none⟩ 5)):=
  Lib.run_unsafeSliceData_zero w.drew _ _ 5 Tryz.underlying97 ⟨g,0,none⟩ 0 (5,cur.size) (by have hg':w.drew.heap[g]?=some (.cells cur 5 (0,0)):=hg;simp [World.shape?,hg'])
 have c2:(w.drew.alloc (.view ⟨g,0,none⟩ 5)).cell? ⟨b,1,none⟩=some (.slice (some ⟨g,0,none⟩) 0 0):=by
  have:(w.drew.alloc (.view ⟨g,0,none⟩ 5)).heap[b]?=_:=(Lib.alloc_old w.drew _ b hlt).trans hbk
  rw [Lib.cell_of_heap this];rfl
 have c3:(w.alloc (.view ⟨g,0,none⟩ 5)).drew.cell? ⟨b,1,none⟩=some (.slice (some ⟨g,0,none⟩) 0 0):=c2
 have c0:w.cell? ⟨b,1,none⟩=some (.slice (some ⟨g,0,none⟩) 0 0):=c1
 have mixed:=qhV
 go_enter Tryz.func23,Tryz.ntmps23
 go_wp2
 go_region_o
 all_goals (go_wp2;go_ret;exact ⟨rfl,qoO⟩)
set_option maxHeartbeats 2000000 in
set_option maxRecDepth 100000 in
theorem qmB (B b g cap:Nat) (p:Value) (w:World) (hc0:cap≠0) (hbk:w.heap[b]?=some (.cells #[p,.slice (some ⟨g,0,none⟩) 0 cap] 52 (0,0))) :
  Calls Tryz.prog 23 #[.pointer (some ⟨b,0,none⟩)] w fun e w'=>e=.returned (.string ⟨#[]⟩)∧Grow w w' (fun x=>x=b∨qfl w 52 b x):=by
 have hUS:=qmA
 have c1:w.drew.cell? ⟨b,1,none⟩=some (.slice (some ⟨g,0,none⟩) 0 cap):=by
  have:w.drew.heap[b]?=some (.cells #[p,.slice (some ⟨g,0,none⟩) 0 cap] 52 (0,0)):=hbk
  rw [Lib.cell_of_heap this];rfl
 have hSD:(Builtin.unsafeSliceData_ #[50] 97 #[.slice (some ⟨g,0,none⟩) 0 cap]).run Tryz.prog w.drew=.ok (.pointer (some ⟨g,0,none⟩)) w.drew:=
  Lib.run_unsafeSliceData_row _ _ _ _ _ _ hc0
 clear hc0
 have mixed:=qhV
 go_enter Tryz.func23,Tryz.ntmps23
 go_wp2
 go_region_o
 all_goals (go_wp2;go_ret;exact ⟨rfl,(Grow.refl w _).drew⟩)
theorem qk6 (B b:Nat) (w:World) (h:Lib.IsBuilder 52 5 B b [] w) (hBw:B≤w.heap.size) :
  Calls Tryz.prog 23 #[.pointer (some ⟨b,0,none⟩)] w fun e w'=>e=.returned (.string ⟨#[]⟩)∧Grow w w' (fun x=>x=b∨qfl w 52 b x):=by
 obtain ⟨p,hB,v,hbk,hown,hne⟩:∃ p,Lib.BuilderAt 52 5 B b p [] w:=by
  rcases h with h|h
  ·exact ⟨_,h⟩
  ·exact ⟨_,h⟩
 rcases hown.2 with ⟨rfl,_⟩|⟨g,cap,cur,rfl,hbg,hg,_,_,_,_⟩
 ·exact qnS B b p w hbk
 ·by_cases hc0:cap=0
  ·subst hc0
   exact qkE B b g p cur w hBw hbk hg
  ·exact qmB B b g cap p w hc0 hbk
theorem qnT (B b:Nat) (l:List UInt8) (w:World) (h:Lib.IsBuilder 52 5 B b (Lib.byteCells l) w) (hBw:B≤w.heap.size) :
  Calls Tryz.prog 23 #[.pointer (some ⟨b,0,none⟩)] w fun e w'=>e=.returned (.string ⟨l.toArray⟩)∧Grow w w' (fun x=>x=b∨qfl w 52 b x):=by
 cases l with
 |nil=>exact qk6 B b w h hBw
 |cons x r=>exact qtV B b (x :: r) w h (by simp)
set_option maxHeartbeats 1000000 in
set_option maxRecDepth 100000 in
theorem qzR (B b:Nat) (bs:List Value) (w:World) (h:Lib.IsBuilder 52 5 B b bs w) :
  Calls Tryz.prog 22 #[.pointer (some ⟨b,0,none⟩)] w fun e w'=>e=.returned (.int .i64 bs.length)∧w'=w:=by
 obtain ⟨p,hB,v,hbk,hown,hne⟩:∃ p,Lib.BuilderAt 52 5 B b p bs w:=by
  rcases h with h|h
  ·exact ⟨_,h⟩
  ·exact ⟨_,h⟩
 obtain ⟨ao,cap,rfl⟩:∃ ao cap,v=.slice ao bs.length cap:=by
  rcases hown.2 with ⟨hv,h0⟩|⟨g,cap,cur,hv,_⟩
  ·exact ⟨none,0,by rw [hv,h0]⟩
  ·exact ⟨_,_,hv⟩
 have c1:w.cell? ⟨b,1,none⟩=some (.slice ao bs.length cap):=by rw [Lib.cell_of_heap hbk];rfl
 have mixed:=qhV
 go_enter Tryz.func22,Tryz.ntmps22
 go_wp2
 go_ret
 exact ⟨rfl,rfl⟩
set_option maxHeartbeats 2000000 in
set_option maxRecDepth 1000000 in
theorem qnQ (B b n:Nat) (w:World) (hB:B≤b) (hbk:w.heap[b]?=some (.cells #[.pointer (some ⟨b,0,none⟩),.slice none 0 0] 52 (0,0))) (hBw:B≤w.heap.size) (hn:n≤281474976710656) :
  Calls Tryz.prog 99 #[.pointer (some ⟨b,0,none⟩),.int .i64 n] w fun e w'=>e=.returned (.tuple #[])∧SbPost 52 5 b [] w w':=by
 obtain ⟨cs,hrun,hle,hmax⟩:=Lib.run_makeNoZero (P:=Tryz.prog) w.drew #[3] 50 5 Tryz.underlying50 n hn
 have hw:IntKind.i64.wrap (IntKind.i64.wrap 0+(n:Int))=n:=by
  rw [IntKind.wrap_i64,IntKind.wrap_i64]
  omega
 have hcall:(callFunc 136 #[.int .i64 (IntKind.i64.wrap (IntKind.i64.wrap 0+(n:Int)))]).run Tryz.prog w.drew=.ok (.value (.slice (some ⟨w.drew.heap.size,0,none⟩) n cs.size)) (w.drew.drew.drew.alloc (.cells cs 5)):=by
  rw [hw,run_callFunc_extern Tryz.func136 (by kernel_rfl) (by kernel_rfl) (by kernel_rfl) (e:=Extern.BytealgMakeNoZero.makeNoZero #[3] #[50]) (by kernel_rfl),hrun]
  rfl
 have c1:w.drew.cell? ⟨b,1,none⟩=some (.slice none 0 0):=by
  have:w.drew.heap[b]?=_:=hbk
  rw [Lib.cell_of_heap this];rfl
 have c2:(w.alloc (.cells cs 5)).cell? ⟨b,1,none⟩=some (.slice none 0 0):=by
  have hlt:b < w.heap.size:=by
   rcases yg b w.heap.size with h'|h'
   ·exact h'
   ·simp [yt h'] at hbk
  have:(w.alloc (.cells cs 5)).heap[b]?=_:=(Lib.alloc_old w _ b hlt).trans hbk
  rw [Lib.cell_of_heap this];rfl
 have f2:(w.alloc (.cells cs 5)).frozen? ⟨b,1,none⟩=false:=by
  have hlt:b < w.heap.size:=by
   rcases yg b w.heap.size with h'|h'
   ·exact h'
   ·simp [yt h'] at hbk
  exact Lib.frozen_of_heap ((Lib.alloc_old w _ b hlt).trans hbk) 1
 have hcopy:∀ W:World,(Builtin.copy_ #[50,50] 3 #[.slice (some ⟨w.heap.size,0,none⟩) 0 cs.size,.slice none 0 0]).run Tryz.prog W=.ok (goInt 0) W:=
  fun W=>run_copy_none W 50 50 3 5 _ _ 0 cs.size 0 0 Tryz.underlying50 qx1 rfl
 clear hw
 have mixed:=qhV
 go_enter Tryz.func99,Tryz.ntmps99
 go_wp2
 have hfin:=SbPost.of_grown (T:=52) (e:=5) (cs:=cs) (by decide) hbk (hmax (by unfold maxLen;omega))
 go_region_o
 all_goals (go_wp2;go_end0;exact ⟨rfl,hfin⟩)
set_option maxHeartbeats 2000000 in
set_option maxRecDepth 1000000 in
theorem qnU (B b n:Nat) (w:World) (hB:B≤b) (hbk:w.heap[b]?=some (.cells #[.pointer none,.slice none 0 0] 52 (0,0))) (hBw:B≤w.heap.size) (hn:n≤281474976710656) :
  Calls Tryz.prog 57 #[.pointer (some ⟨b,0,none⟩),.int .i64 n] w fun e w'=>e=.returned (.tuple #[])∧SbPost 52 5 b [] w w':=by
 have hbk1:(w.setCell ⟨b,0,none⟩ (.pointer (some ⟨b,0,none⟩))).heap[b]?=some (.cells #[.pointer (some ⟨b,0,none⟩),.slice none 0 0] 52 (0,0)):=by
  simp [World.setCell,Array.getElem?_modify,hbk]
 have c1:(w.setCell ⟨b,0,none⟩ (.pointer (some ⟨b,0,none⟩))).cell? ⟨b,1,none⟩=some (.slice none 0 0):=by rw [Lib.cell_of_heap hbk1];rfl
 have mixed:=qhV
 go_enter Tryz.func57,Tryz.ntmps57
 have c1':(w.setCell ⟨b,0,none⟩ (.pointer (some ⟨b,0,none⟩))).drew.cell? ⟨b,1,none⟩=some (.slice none 0 0):=c1
 go_wp2_with (go_at_call 56;refine (qnR b w (by rw [Lib.cell_of_heap hbk];rfl) (by simp [World.shape?,hbk]) (Lib.frozen_of_heap hbk 0)).mono ?_;rintro e w' ⟨rfl,rfl⟩)
 go_region_o
 all_goals go_wp2_with (go_at_call 99;refine (qnQ B b n (w.setCell ⟨b,0,none⟩ (.pointer (some ⟨b,0,none⟩))).drew hB hbk1 (by simpa [World.setCell,World.drew,-World.drew_eq] using hBw) hn).mono ?_;rintro e w' ⟨rfl,h1⟩)
 all_goals first
  |(go_end0;exact ⟨rfl,SbPost.behind hbk h1⟩)
  |(go_end0;exact ⟨rfl,SbPost.of_used hbk⟩)
def qiB:IC:=(.seq (.reg [qO 2 (.mov (.c (.bool false)))]) (.seq (.reg [qM 3 0,qO 4 (.bin .geq (.t 3) (.c (.int .u8 48))),qM 5 4,⟨some 6,.mov (.t 0),(some (5,true))⟩,⟨some 7,.bin .leq (.t 6) (.c (.int .u8 57)),(some (5,true))⟩,qO 8 (.pick (.t 5) (.t 7) (.c (.bool false))),qM 2 8]) .ret))
def qip:List IRes:=[.t 2]
theorem qmw:chkF Tryz.prog Tryz.f107 qiB qip 9=true:=by kernel_rfl
def digB (c:UInt8):Bool:=decide (48≤(c.toNat:Int)) && decide ((c.toNat:Int)≤57)
section
variable {E:Envt}
theorem qqd (c:UInt8):PCall Tryz.prog E 107 [.int .u8 (c.toNat:Nat)] (·=.bool (digB c)):=by
 refine qaf mixed Tryz.func107 qmw ?_
 simp only [a0,l0,OS.ao,zl,zt,zk,zp,zo,zq,zu,zd,zj,zm,qiB,qip,ZZ,WW,Ze,reduceCtorEq,zd,ze,za,zf,zb]
 ((repeat' (with_reducible apply And.intro))<;>try ((exact sc_)))
def strE (l:List (List UInt8)):List (List PV):=l.map fun x=>[PV.str x]
theorem qau (l:List (List UInt8)):(strE l).length=l.length:=by simp [strE]
theorem qlL (l:List (List UInt8)):strs l=.sl 1 (strE l):=rfl
theorem qh4 {l:List (List UInt8)} {k:Nat} {x:List UInt8} (h:l[k]?=some x):(strE l).getD k []=[.str x]:=qcw h
end
section
variable {E:Envt}
end
end Go.Proofs.YtjgdjinhkgjpeaaGreatDoor
