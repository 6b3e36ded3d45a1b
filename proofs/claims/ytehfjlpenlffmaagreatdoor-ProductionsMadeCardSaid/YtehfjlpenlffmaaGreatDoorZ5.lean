import Derived.Test.YtehfjlpenlffmaaGreatDoorZ4
import Derived.Test.YtehfjlpenlffmaaGreatDoorProg
import Derived.KernelRfl
set_option linter.unusedVariables false
set_option linter.unusedSimpArgs false
set_option linter.defProp false
namespace Go.Proofs.YtehfjlpenlffmaaGreatDoor
open Nat renaming reduceAdd→zd,reduceEqDiff→za,reduceLT→zf,reduceLeDiff→zb,reduceMul→ze,reduceSub→zu
open List renaming cons_append→zl,getElem?_eq_getElem→zg,getElem?_eq_some_iff→zt,length_cons→zi,length_nil→zo,map_cons→zk,map_nil→zr,mem_of_getElem?→zx,nil_append→zm,replicate_succ→zh,replicate_zero→zj
theorem mixed:Tryz.prog.follows .mixedOrders=true:=by kernel_rfl
abbrev int (n:Int):PV:=.int .i64 n
def ints (l:List Int):PV:=.sl 1 (l.map fun x=>[.int .i64 x])
def strs (l:List (List UInt8)):PV:=.sl 1 (l.map fun x=>[.str x])
theorem qas {α β:Type} {f:α→β} {l:List α} {k:Nat} {x:α} {d:β} (h:l[k]?=some x):(l.map f).getD k d=f x:=by
 simp [List.getD,h]
theorem qan {n:Int} (h1:-9223372036854775808≤n) (h2:n≤9223372036854775807):I64 n:=⟨h1,h2⟩
theorem Zl0 {α:Type} {n:Nat}:([]:List α).take n=[]:=by simp
theorem Zl1 {α:Type} {n:Nat}:([]:List α).drop n=[]:=by simp
theorem Zl2 {α:Type} {l:List α}:l++[]=l:=by simp
theorem Zl3 {p:Prop}:(True∧p)=p:=by simp
theorem Zl4 {p:Prop}:(p∧True)=p:=by simp
theorem Zl5 {α:Type} {h:Decidable True} {a b:α}:(if True then a else b)=a:=by simp
theorem Zl6 {α:Type} {h:Decidable False} {a b:α}:(if False then a else b)=b:=by simp
theorem Zl7 {b:Bool}:(b && true)=b:=by simp
theorem Zl8 {b:Bool}:(true && b)=b:=rfl
theorem Zl9:(!true)=false:=rfl
theorem Zl10:(!false)=true:=rfl
theorem Zl11 {α:Type} {a b:α}:(bif true then a else b)=a:=rfl
theorem Zl12 {α:Type} {a b:α}:(bif false then a else b)=b:=rfl
theorem Zl13 {p:Prop}:(p→p)=True:=by simp
theorem Zl14 {p:Prop}:(p∧p)=p:=by simp
theorem Zl15 {p:Prop}:(True→p)=p:=by simp
theorem Zl16 {p:Prop}:(p→True)=True:=by simp
theorem Zl17 {n:Nat}:0+n=n:=by simp
theorem Zl18 {n:Nat}:n+0=n:=rfl
theorem Zl19 {b c:Bool}:(bif b then c else false)=(b && c):=by simp
theorem Zl20 {b c:Bool}:(bif b then true else c)=(b || c):=by simp
theorem Zl21 {n:Nat}:((n:Int)).toNat=n:=rfl
theorem Zl22:(false=true)=False:=by simp
theorem Zl23 {α:Type} {a b:α}:(a≠b)=¬ (a=b):=by simp
theorem Zl24:(¬ False)=True:=by simp
theorem Zl25:(¬ True)=False:=by simp
theorem Zl26 {a b:Nat}:(Key.l a=Key.l b)=(a=b):=by simp
theorem Zl27 {a b:Nat}:(Key.b a=Key.b b)=(a=b):=by simp
theorem Zl28 {α:Type} {a:α} {l:List α} {d:α}:(a :: l).getD 0 d=a:=rfl
theorem Zl29 {α:Type} {a:α} {l:List α} {d:α} {n:Nat}:(a :: l).getD (n+1) d=l.getD n d:=rfl
theorem Zl30 {α:Type} {d:α} {n:Nat}:([]:List α).getD n d=d:=rfl
theorem Zl31 {α:Type} {a:α} {l:List α}:(a :: l)[0]?=some a:=rfl
theorem Zl32 {α:Type} {a:α} {l:List α} {n:Nat}:(a :: l)[n+1]?=l[n]?:=rfl
theorem Zl33 {α:Type} {a b:α} {l:List α}:(a :: l).set 0 b=b :: l:=rfl
theorem Zl34 {α:Type} {a b:α} {l:List α} {n:Nat}:(a :: l).set (n+1) b=a :: l.set n b:=rfl
theorem Zl35 {α β:Type} {f:α→β} {a:α} {l:List α}:(a :: l).map f=f a :: l.map f:=rfl
theorem Zl36 {α β:Type} {f:α→β}:[].map f=[]:=rfl
theorem Zl37 {α:Type} {a:α} {l:List α}:(a :: l).length=l.length+1:=rfl
theorem Zl38 {α:Type}:([]:List α).length=0:=rfl
theorem Zl39 {α:Type} {p:α→Bool} {a:α} {l:List α}:(a :: l).all p=(p a && l.all p):=rfl
theorem Zl40 {α:Type} {p:α→Bool}:[].all p=true:=rfl
theorem Zl41 {α:Type} {a:α} {l:List α} {n:Nat}:(a :: l).take (n+1)=a :: l.take n:=rfl
theorem Zl42 {α:Type} {l:List α}:l.take 0=[]:=rfl
theorem Zl43 {α:Type} {a:α} {l:List α} {n:Nat}:(a :: l).drop (n+1)=l.drop n:=rfl
theorem Zl44 {α:Type} {l:List α}:l.drop 0=l:=rfl
theorem Zl45 {α β:Type} {f:α→β} {a:α}:(some a).map f=some (f a):=rfl
theorem Zl46 {α β:Type} {f:α→β}:(none:Option α).map f=none:=rfl
theorem Zl47 {α:Type} {a:α} {l m:List α}:(a :: l)++m=a :: (l++m):=rfl
theorem Zl48 {α:Type} {l:List α}:[]++l=l:=rfl
theorem Zl49 {α:Type} {a:α} {l:List α}:(a :: l).isEmpty=false:=rfl
theorem Zl50 {α:Type}:([]:List α).isEmpty=true:=rfl
abbrev qO (d:Nat) (o:IOp):IOper:=⟨some d,o,none⟩
abbrev qM (d s:Nat):IOper:=⟨some d,.mov (.t s),none⟩
abbrev oo:AV:=.any
abbrev oB (l:List AV):List AV:=oo::oo::l
abbrev oC (l:List AV):List AV:=oB (oB l)
abbrev oD (l:List AV):List AV:=oC (oC l)
abbrev oE (l:List AV):List AV:=oD (oD l)
abbrev oF (l:List AV):List AV:=oE (oE l)
abbrev oG (l:List AV):List AV:=oF (oF l)
abbrev cI (n:Int):Opd:=.c (.int .i64 n)
abbrev qL (d x:Nat):IOper:=qO d (.ld 1 false (.t x))
abbrev qF (d o x:Nat):IOper:=qO d (.fla o (.t x))
abbrev qS (s a b:Nat):IOper:=⟨none,.st s (.t a) (.t b),none⟩
abbrev qN (d x:Nat):IOper:=qO d (.len (.t x))
abbrev qT (d:Nat) (o:BinOp) (x y:Nat):IOper:=qO d (.bin o (.t x) (.t y))
abbrev qB (d:Nat) (o:BinOp) (x:Nat) (y:Opd):IOper:=qO d (.bin o (.t x) y)
abbrev qX (d z x y:Nat):IOper:=qO d (.ixa z (.t x) (.t y))
abbrev sR (l:List IOper) (b:IC):IC:=.seq (.reg l) b
theorem WW.{u}:(∀ {α:Sort u} (a b:α),(if True then a else b)=a)∧(∀ {α:Sort u} (a b:α),(if False then a else b)=b)∧(∀ {α:Sort u} [Nonempty α] (b:Prop),(α→b)↔b):=⟨fun _ _=>rfl,fun _ _=>rfl,fun _=>by simp⟩
def ZZ:=And.intro (And.intro (And.intro (And.intro (And.intro (And.intro (And.intro (And.intro @qyt @qyv) (And.intro @qBb (And.intro @qBa @qwK))) (And.intro (And.intro @qBc (And.intro @qBe @qBd)) (And.intro @qyu (And.intro @qyw @qBf)))) (And.intro (And.intro (And.intro @qzs @qzr) (And.intro @qzt (And.intro @qyn @qym))) (And.intro (And.intro @qyo (And.intro @qxw @qxv)) (And.intro @qxx (And.intro @qB6 @qB5))))) (And.intro (And.intro (And.intro (And.intro @qB7 @qBG) (And.intro @qBH (And.intro @qBI @qBJ))) (And.intro (And.intro @qBE (And.intro @qBF @qwQ)) (And.intro @qB4 (And.intro @qB3 @qB2)))) (And.intro (And.intro (And.intro @qyS (And.intro @qw3 @qwU)) (And.intro @qyK (And.intro @qyL @quI))) (And.intro (And.intro @qAo (And.intro @qCV @qBX)) (And.intro @qDe (And.intro @qDc @qCP)))))) (And.intro (And.intro (And.intro (And.intro (And.intro @qCZ @qCN) (And.intro @o_mx (And.intro @qC3 @qCM))) (And.intro (And.intro @qCJ (And.intro @qC2 @qC5)) (And.intro @qC4 (And.intro @o_ld @qC1)))) (And.intro (And.intro (And.intro @qC0 (And.intro @qC6 @qDd)) (And.intro @qC8 (And.intro @qC7 @qDf))) (And.intro (And.intro @qDa (And.intro @qCQ @qCY)) (And.intro @qCT (And.intro @qCS @qB0))))) (And.intro (And.intro (And.intro (And.intro @qBY @qDh) (And.intro @qDb (And.intro @o_st @qCK))) (And.intro (And.intro @qCU (And.intro @qDg @qC9)) (And.intro @qCO (And.intro @qCW @qCX)))) (And.intro (And.intro (And.intro @qCR (And.intro @qCL @qB1)) (And.intro @qBZ (And.intro @qDu @qCh))) (And.intro (And.intro @qDJ (And.intro @qDH @qDq)) (And.intro @qDw (And.intro @qDp @g_mx))))))) (And.intro (And.intro (And.intro (And.intro (And.intro (And.intro @qDA @qDo) (And.intro @qDn (And.intro @qDz @qDC))) (And.intro (And.intro @qDB (And.intro @g_ld @qDy)) (And.intro @qDx (And.intro @qDD @qDI)))) (And.intro (And.intro (And.intro @qDF @qDE) (And.intro @qDK (And.intro @qDG @qDr))) (And.intro (And.intro @qDv (And.intro @qDt @qDs)) (And.intro @qCi (And.intro @qxI @qvJ))))) (And.intro (And.intro (And.intro (And.intro @qvI @qAq) (And.intro @qus (And.intro @qvL @qvK))) (And.intro (And.intro @qut (And.intro @qyO @qAn)) (And.intro @qxG (And.intro @qBW @qxH)))) (And.intro (And.intro (And.intro @qAp (And.intro @qyM @qyN)) (And.intro @Zl13 (And.intro @Zl28 @Zl29))) (And.intro (And.intro @Zl30 (And.intro @Zl31 @Zl32)) (And.intro @Zl33 (And.intro @Zl34 @Zl35)))))) (And.intro (And.intro (And.intro (And.intro (And.intro @Zl36 @Zl37) (And.intro @Zl38 (And.intro @Zl39 @Zl40))) (And.intro (And.intro @Zl41 (And.intro @Zl42 @Zl43)) (And.intro @Zl44 (And.intro @Zl0 @Zl1)))) (And.intro (And.intro (And.intro @Zl45 (And.intro @Zl46 @Zl3)) (And.intro @Zl4 (And.intro @Zl5 @Zl6))) (And.intro (And.intro @Zl7 (And.intro @Zl8 @Zl9)) (And.intro @Zl10 (And.intro @Zl11 @Zl12))))) (And.intro (And.intro (And.intro (And.intro @Zl26 @Zl27) (And.intro @Zl14 (And.intro @Zl15 @Zl16))) (And.intro (And.intro @Zl17 (And.intro @Zl18 @Zl2)) (And.intro @Zl48 (And.intro @Zl47 @Zl19)))) (And.intro (And.intro (And.intro @Zl20 (And.intro @qqm @qoJ)) (And.intro @qo6 (And.intro @qux @Zl21))) (And.intro (And.intro @Zl49 (And.intro @Zl50 @Zl22)) (And.intro @Zl23 (And.intro @Zl24 @Zl25)))))))) (And.intro (And.intro (And.intro (And.intro (And.intro (And.intro (And.intro @qyP (And.intro @qwW @Za.eq_1)) (And.intro (And.intro @Za.eq_2 @Za.eq_3) (And.intro @Zb.eq_1 @Zb.eq_2))) (And.intro (And.intro (And.intro @Zc.eq_1 @Zc.eq_2) (And.intro @Ze.eq_1 @Ze.eq_2)) (And.intro (And.intro @Ze.eq_3 @Ze.eq_4) (And.intro @Ze.eq_5 @Ze.eq_6)))) (And.intro (And.intro (And.intro (And.intro @Ze.eq_7 @Ze.eq_8) (And.intro @Ze.eq_9 @Ze.eq_10)) (And.intro (And.intro @Ze.eq_11 @Ze.eq_12) (And.intro @Ze.eq_13 @Ze.eq_14))) (And.intro (And.intro (And.intro @Ze.eq_15 @Ze.eq_16) (And.intro @Ze.eq_17 @Ze.eq_18)) (And.intro (And.intro @Ze.eq_19 @Ze.eq_20) (And.intro @Ze.eq_21 @Ze.eq_22))))) (And.intro (And.intro (And.intro (And.intro (And.intro @Ze.eq_23 @Ze.eq_24) (And.intro @Ze.eq_25 @Ze.eq_26)) (And.intro (And.intro @Ze.eq_27 @Ze.eq_28) (And.intro @Ze.eq_29 @Zf.eq_1))) (And.intro (And.intro (And.intro @Zf.eq_2 @Zg.eq_1) (And.intro @Zh.eq_1 @Zh.eq_2)) (And.intro (And.intro @Zh.eq_3 @Zi.eq_1) (And.intro @rd.eq_1 @rd.eq_2)))) (And.intro (And.intro (And.intro (And.intro @rd.eq_3 @rd.eq_4) (And.intro @AV.un.eq_1 @AV.un.eq_2)) (And.intro (And.intro @AV.unA.eq_1 @AV.ad.eq_1) (And.intro @AV.ad.eq_2 @Zj.eq_1))) (And.intro (And.intro (And.intro @Zj.eq_2 @Zk.eq_1) (And.intro @Zk.eq_2 @Zk.eq_3)) (And.intro (And.intro @Zl.eq_1 @Zl.eq_2) (And.intro @Zm.eq_1 @Zn.eq_1)))))) (And.intro (And.intro (And.intro (And.intro (And.intro (And.intro @Zn.eq_2 @Zn.eq_3) (And.intro @Zn.eq_4 @Zn.eq_5)) (And.intro (And.intro @Zo.eq_1 @Zo.eq_2) (And.intro @Zo.eq_3 @Zo.eq_4))) (And.intro (And.intro (And.intro @Zo.eq_5 @Zo.eq_6) (And.intro @Zo.eq_7 @Zo.eq_8)) (And.intro (And.intro @Zo.eq_9 @Zo.eq_10) (And.intro @Zo.eq_11 @Zo.eq_12)))) (And.intro (And.intro (And.intro (And.intro @Zo.eq_13 @Zo.eq_14) (And.intro @Zp.eq_1 @Zp.eq_2)) (And.intro (And.intro @Zp.eq_3 @Zq.eq_1) (And.intro @Zq.eq_2 @Zq.eq_3))) (And.intro (And.intro (And.intro @Zq.eq_4 @Zq.eq_5) (And.intro @Zq.eq_6 @Zq.eq_7)) (And.intro (And.intro @Zq.eq_8 @Zr.eq_1) (And.intro @Zr.eq_2 @Zr.eq_3))))) (And.intro (And.intro (And.intro (And.intro (And.intro @Zs.eq_1 @Zt.eq_1) (And.intro @Zt.eq_2 @Zt.eq_3)) (And.intro (And.intro @Zt.eq_4 @Zt.eq_5) (And.intro @Zu.eq_1 @Zu.eq_2))) (And.intro (And.intro (And.intro @Zv.eq_1 @Zv.eq_2) (And.intro @Zv.eq_3 @Zv.eq_4)) (And.intro (And.intro @Zw.eq_1 @Zw.eq_2) (And.intro @Zw.eq_3 @Zx.eq_1)))) (And.intro (And.intro (And.intro (And.intro @Zx.eq_2 @Zx.eq_3) (And.intro @Zy.eq_1 @Zy.eq_2)) (And.intro (And.intro @Zz.eq_1 @Zaa.eq_1) (And.intro @Zaa.eq_2 @Zab.eq_1))) (And.intro (And.intro (And.intro @Zab.eq_2 @Zac.eq_1) (And.intro @Zac.eq_2 @Zad.eq_1)) (And.intro (And.intro @Zad.eq_2 @Zae.eq_1) (And.intro @Zae.eq_2 @Zaf.eq_1))))))) (And.intro (And.intro (And.intro (And.intro (And.intro (And.intro (And.intro @Zaf.eq_2 @Zaf.eq_3) (And.intro @Zaf.eq_4 @Zaf.eq_5)) (And.intro (And.intro @Zag.eq_1 @Zag.eq_2) (And.intro @Zag.eq_3 @Zah.eq_1))) (And.intro (And.intro (And.intro @Zah.eq_2 @Zai.eq_1) (And.intro @Zai.eq_2 @Zai.eq_3)) (And.intro (And.intro @Zaj.eq_1 @Zaj.eq_2) (And.intro @Zaj.eq_3 @Zak.eq_1)))) (And.intro (And.intro (And.intro (And.intro @Zak.eq_2 @Zak.eq_3) (And.intro @Zak.eq_4 @Zal.eq_1)) (And.intro (And.intro @Zam.eq_1 @Zan.eq_1) (And.intro @Zan.eq_2 @Zao.eq_1))) (And.intro (And.intro (And.intro @Zao.eq_2 @Zao.eq_3) (And.intro @wk1.eq_1 @wk1.eq_2)) (And.intro (And.intro @wk.eq_1 @wk.eq_2) (And.intro @wk.eq_3 @Zap.eq_1))))) (And.intro (And.intro (And.intro (And.intro (And.intro @Zaq.eq_1 @Zar.eq_1) (And.intro @Zar.eq_2 @Zas.eq_1)) (And.intro (And.intro @Zas.eq_2 @Zat.eq_1) (And.intro @Zat.eq_2 @Zau.eq_1))) (And.intro (And.intro (And.intro @Zav.eq_1 @Zav.eq_2) (And.intro @Zaw.eq_1 @Zaw.eq_2)) (And.intro (And.intro @AV.kill.eq_1 @AV.kill.eq_2) (And.intro @AV.kill.eq_3 @AV.kill.eq_4)))) (And.intro (And.intro (And.intro (And.intro @AV.kill.eq_5 @AV.kill.eq_6) (And.intro @AV.kill.eq_7 @AV.kill.eq_8)) (And.intro (And.intro @AV.kill.eq_9 @AV.kill.eq_10) (And.intro @AV.kill.eq_11 @AO.kill.eq_1))) (And.intro (And.intro (And.intro @AO.kill.eq_2 @AO.kill.eq_3) (And.intro @AO.kill.eq_4 @AO.kill.eq_5)) (And.intro (And.intro @AV.thaw.eq_1 @AV.thaw.eq_2) (And.intro @AV.thaw.eq_3 @AV.thaw.eq_4)))))) (And.intro (And.intro (And.intro (And.intro (And.intro (And.intro @AV.thaw.eq_5 @AV.thaw.eq_6) (And.intro @AV.thaw.eq_7 @AV.thaw.eq_8)) (And.intro (And.intro @AV.thaw.eq_9 @AV.thaw.eq_10) (And.intro @AV.thaw.eq_11 @Zax.eq_1))) (And.intro (And.intro (And.intro @Zax.eq_2 @Zax.eq_3) (And.intro @Zax.eq_4 @AO.thaw.eq_1)) (And.intro (And.intro @AO.thaw.eq_2 @AO.thaw.eq_3) (And.intro @AO.thaw.eq_4 @AO.thaw.eq_5)))) (And.intro (And.intro (And.intro (And.intro @Zay.eq_1 @Zay.eq_2) (And.intro @Zaz.eq_1 @Zaz.eq_2)) (And.intro (And.intro @Zba.eq_1 @Zba.eq_2) (And.intro @Zbb.eq_1 @Zbb.eq_2))) (And.intro (And.intro (And.intro @Zbc.eq_1 @Zbc.eq_2) (And.intro @Zbd.eq_1 @Zbd.eq_2)) (And.intro (And.intro @Zbe.eq_1 @Zbe.eq_2) (And.intro @Zbe.eq_3 @Zbe.eq_4))))) (And.intro (And.intro (And.intro (And.intro (And.intro @Zbf.eq_1 @Zbf.eq_2) (And.intro @Zbg.eq_1 @Zbg.eq_2)) (And.intro (And.intro @Zbh.eq_1 @Zbh.eq_2) (And.intro @Zbh.eq_3 @Zbh.eq_4))) (And.intro (And.intro (And.intro @Zbh.eq_5 @Zbh.eq_6) (And.intro @Zbi.eq_1 @Zbi.eq_2)) (And.intro (And.intro @Zbi.eq_3 @Zbi.eq_4) (And.intro @Zbi.eq_5 @Zbi.eq_6)))) (And.intro (And.intro (And.intro (And.intro @Zbj.eq_1 @Zbj.eq_2) (And.intro @Zbj.eq_3 @Zbj.eq_4)) (And.intro (And.intro @Zbj.eq_5 @Zbj.eq_6) (And.intro @Zbk.eq_1 @Zbk.eq_2))) (And.intro (And.intro (And.intro @qwZ @qwM) (And.intro @qBg @thaw_P.eq_1)) (And.intro (And.intro @thaw_P.eq_2 @caps_P.eq_1) (And.intro @caps_P.eq_2 @caps_P.eq_3))))))))
theorem zE_ {p:Prop} (h:p:=by simp only [ZZ,WW,Zd,reduceCtorEq,Nat.reduceAdd,Nat.reduceMul,Nat.reduceLeDiff,Nat.reduceLT,Nat.reduceEqDiff]):p:=h
theorem zF_ {p:Prop} (h:p:=by (simp only [ZZ,WW,Zd,reduceCtorEq,Nat.reduceAdd,Nat.reduceMul,Nat.reduceLeDiff,Nat.reduceLT,Nat.reduceEqDiff];try trivial)):p:=h
theorem zG_ {p:Prop} (h:p:=by (simp only [ZZ,WW,Zd,reduceCtorEq,Nat.reduceAdd,Nat.reduceMul,Nat.reduceLeDiff,Nat.reduceLT,Nat.reduceEqDiff];trivial)):p:=h
theorem sc_ {p:Prop} (h:p:=by first|first|assumption|trivial|exact (fun hq=>by rw [hq];rfl)|exact qan (by omega) (by omega)|omega|(simp;done)|(simp;omega)|(intro hsc;have hs0:=hsc;(try have hsd:=of_decide_eq_true hsc);(try simp only [Bool.not_eq_true',Bool.or_eq_false_iff,Bool.and_eq_true,Bool.or_eq_true,decide_eq_true_eq,decide_eq_false_iff_not] at hsc);(repeat' (with_reducible apply And.intro))<;>(first|assumption|trivial|exact (fun hq=>by rw [hq];rfl)|exact qan (by omega) (by omega)|omega|(simp;done)|(simp;omega)|(intro hse;simp [hse,hs0];done)|(intro hse;simp only [hse,hs0,Bool.true_and,Bool.and_true,Bool.not_false,Bool.not_true,Bool.and_self];done)))):p:=h
theorem zS {p q:Prop} (h:q) (e:p=q:=by conv=>lhs;simp only [ZZ,WW,Zd,reduceCtorEq,Nat.reduceAdd,Nat.reduceMul,Nat.reduceLeDiff,Nat.reduceLT,Nat.reduceEqDiff]):p:=e ▸ h
def qpb:IC:=(sR [qO 6 (.mov (.c (.bool false)))] (sR [qM 7 0,qM 8 1,qT 9 .geq 7 8,qM 10 9,⟨some 11,.mov (.t 0),(some (10,true))⟩,⟨some 12,.mov (.t 2),(some (10,true))⟩,⟨some 13,.bin .leq (.t 11) (.t 12),(some (10,true))⟩,qO 14 (.pick (.t 10) (.t 13) (.c (.bool false))),qM 6 14] .ret))
def qoW:List IRes:=[.t 6]
theorem quF:chkF Tryz.prog Tryz.f51 qpb qoW 15=true:=by kernel_rfl
def qm2:IC:=(sR [qO 4 (.mov (cI 0))] (.seq (sR [qM 5 0] (.cond (.t 5) (sR [qM 6 1,qM 4 6] .ret) .skip)) (sR [qO 4 (.mov (cI 0))] .ret)))
def qmY:List IRes:=[.t 4]
theorem qrE:chkF Tryz.prog Tryz.f50 qm2 qmY 7=true:=by kernel_rfl
def qjH:IC:=(sR [qT 8 .lss 7 6] (.seq (.cond (.t 8) .skip (.exit 0)) (.seq (.block 1 (sR [qX 9 1 5 7,qL 10 9,qM 4 10] (sR [qM 11 4,qB 12 .neq 11 (cI 0)] (.cond (.t 12) (sR [qM 13 4,qM 2 13] .ret) .skip)))) (.reg [qB 14 .add 7 (cI 1),qM 7 14]))))
def ql0:IC:=(sR [qO 2 (.mov (cI 0))] (.seq (sR [qM 5 0,qN 6 5,qO 7 (.mov (cI 0))] (.block 0 (.loop qjH))) (sR [qO 2 (.mov (cI 0))] .ret)))
def qlM:List IRes:=[.t 2]
theorem qqg:chkF Tryz.prog Tryz.f49 ql0 qlM 15=true:=by kernel_rfl
def qim:IC:=(sR [qO 4 (.mov (cI 0))] (.seq (sR [qM 5 1,qB 6 .lss 5 (cI 1)] (.cond (.t 6) (sR [qO 4 (.mov (cI 0))] .ret) .skip)) (sR [qM 7 0,qM 8 1,qT 9 .rem 7 8,qM 0 9] (.seq (sR [qM 10 0,qB 11 .lss 10 (cI 0)] (.cond (.t 11) (.reg [qM 12 0,qM 13 1,qT 14 .add 12 13,qM 0 14]) .skip)) (.cut (sR [qM 15 0,qM 4 15] .ret))))))
def qhX:List IRes:=[.t 4]
theorem qmk:chkF Tryz.prog Tryz.f45 qim qhX 16=true:=by kernel_rfl
def qcz:IC:=(sR [qO 4 (.mov (cI 0))] (sR [qM 7 0,qO 8 (.nck (.t 7)),qF 9 1 8,qL 10 9,qB 11 .add 10 (cI 1),qO 12 (.nck (.t 7)),qF 13 1 12,qS 1 13 11] (.seq (sR [qM 14 0,qO 15 (.nck (.t 14)),qF 16 0 15,qL 17 16,qN 18 17,qB 19 .eql 18 (cI 0)] (.cond (.t 19) (sR [qM 20 0,qO 21 (.nck (.t 20)),qF 22 1 21,qL 23 22,qB 24 .mul 23 (cI 7919),qM 25 1,qO 26 (.call 45 [.t 24,.t 25]),qM 4 26] .ret) .skip)) (.seq (.drg [qM 27 0,qO 28 (.nck (.t 27)),qF 29 1 28,qL 30 29,qB 31 .sub 30 (cI 1),qM 32 0,qO 33 (.nck (.t 32)),qF 34 0 33,qL 35 34,qN 36 35,qT 37 .rem 31 36,qM 5 37]) (.seq (.drg [qM 38 0,qO 39 (.nck (.t 38)),qF 40 1 39,qL 41 40,qB 42 .sub 41 (cI 1),qM 43 0,qO 44 (.nck (.t 43)),qF 45 0 44,qL 46 45,qN 47 46,qT 48 .quo 42 47,qM 6 48]) (sR [qM 49 0,qO 50 (.nck (.t 49)),qF 51 0 50,qL 52 51,qM 53 5,qX 54 1 52 53,qL 55 54,qO 56 (.call 45 [.t 55,.c (.int .i64 1073741824)]),qM 57 6,qM 58 5,qO 59 (.bin .add (cI 7919) (.t 58)),qT 60 .mul 57 59,qT 61 .add 56 60,qM 62 1,qO 63 (.call 45 [.t 61,.t 62]),qM 4 63] .ret))))))
def qcp:List IRes:=[.t 4]
theorem qev:chkF Tryz.prog Tryz.f10 qcz qcp 64=true:=by kernel_rfl
def qet:IC:=(sR [qO 4 (.mov (.c (.bool false)))] (sR [qM 5 0,qM 6 1,qO 7 (.call 10 [.t 5,.t 6]),qB 8 .eql 7 (cI 0),qM 4 8] .ret))
def qeo:List IRes:=[.t 4]
theorem qi2:chkF Tryz.prog Tryz.f9 qet qeo 9=true:=by kernel_rfl
def qea:IC:=(sR [qO 6 (.mov (cI 0))] (.seq (sR [qM 7 2,qM 8 1,qT 9 .lss 7 8] (.cond (.t 9) (sR [qM 10 1,qM 6 10] .ret) .skip)) (sR [qM 11 1,qM 12 0,qM 13 2,qM 14 1,qT 15 .sub 13 14,qB 16 .add 15 (cI 1),qO 17 (.call 10 [.t 12,.t 16]),qT 18 .add 11 17,qM 6 18] .ret)))
def qdW:List IRes:=[.t 6]
theorem qiA:chkF Tryz.prog Tryz.f19 qea qdW 19=true:=by kernel_rfl
def qcy:IC:=(sR [qO 4 (.mov (cI 0))] (sR [qM 5 1,qM 6 0,qM 7 1,qN 8 7,qO 9 (.call 10 [.t 6,.t 8]),qX 10 1 5 9,qL 11 10,qM 4 11] .ret))
def qco:List IRes:=[.t 4]
theorem qeu:chkF Tryz.prog Tryz.f43 qcy qco 12=true:=by kernel_rfl
def qdI:IC:=(sR [qO 4 (.mov (.c (.str [])))] (sR [qM 5 1,qM 6 0,qM 7 1,qN 8 7,qO 9 (.call 10 [.t 6,.t 8]),qX 10 1 5 9,qL 11 10,qM 4 11] .ret))
def qdu:List IRes:=[.t 4]
theorem qhG:chkF Tryz.prog Tryz.f42 qdI qdu 12=true:=by kernel_rfl
section
variable {E:Envt}
def inE (n lo hi:Int):Bool:=decide (lo≤n) && decide (n≤hi)
theorem qmS (n lo hi:Int):PCall Tryz.prog E 51 [int n,int lo,int hi] (·=.bool (inE n lo hi)):=by
 refine qae mixed Tryz.func51 quF ?_
 simp only [a0,l0,OS.ao,zk,zr,zi,zo,zl,zm,zu,zd,zh,zj,qpb,qoW,ZZ,WW,Zd,reduceCtorEq,zd,ze,zb,zf,za]
 rfl
def qah (b:Bool) (e:Int):Int:=if b=true then e else 0
theorem qav (b:Bool) (e:Int):PCall Tryz.prog E 50 [.bool b,int e] (·=int (qah b e)):=by
 refine qae mixed Tryz.func50 qrE ?_
 simp only [a0,l0,OS.ao,zk,zr,zi,zo,zl,zm,zu,zd,zh,zj,qm2,qmY,ZZ,WW,Zd,reduceCtorEq,zd,ze,zb,zf,za]
 refine br ?_ ?_
 all_goals
  rintro rfl
  refine zS ?_
  rfl
def qaf:List Int→Int
 |[]=>0
 |e :: r=>if e=0 then qaf r else e
theorem qa3 (l:List Int) (k:Nat) (x:Int) (h:l[k]?=some x):qaf (l.drop k)=if x=0 then qaf (l.drop (k+1)) else x:=by
 have hk:=(zt.1 h).1
 rw [List.drop_eq_getElem_cons hk,(zt.1 h).2]
 rfl
theorem qbK (l:List Int) (hl:l.length≤1000000):PCall Tryz.prog E 49 [ints l] (·=int (qaf l)):=by
 refine qae mixed Tryz.func49 qqg ?_
 simp only [a0,l0,OS.ao,zk,zr,zi,zo,zl,zm,zu,zd,zh,zj,ql0,qlM,ZZ,WW,Zd,reduceCtorEq,zd,ze,zb,zf,za]
 simp only [ints,ZZ,WW,Zd,reduceCtorEq,zd,ze,zb,zf,za]
 generalize hes:l.map (fun x=>[PV.int IntKind.i64 x])=es
 have hln:es.length=l.length:=by rw [← hes];simp
 refine qad (fun n fr L=>∃ k:Nat,k≤l.length∧n=l.length - k∧qaf l=qaf (l.drop k)∧fr=(.p (.sl 1 es)::oo::oo::oo::oo::.p (.sl 1 es)::.p (int (es.length:Nat))::.p (int (k:Nat))::oC (oB (oo::[])))∧L=[]) l.length _ [] ?_ ?_ ⟨0,by omega,by omega,rfl,rfl,rfl⟩ ?_
 ·(simp only [ZZ,WW,Zd,reduceCtorEq,zd,ze,zb,zf,za];try trivial)
 ·simp only [ZZ,WW,Zd,reduceCtorEq,zd,ze,zb,zf,za]
 rintro n fr L ⟨k,hk,rfl,hf,rfl,rfl⟩
 simp only [qjH,ZZ,WW,Zd,reduceCtorEq,zd,ze,zb,zf,za]
 refine br ?_ ?_
 ·intro h
  have hlt:k < l.length:=by have:=of_decide_eq_true h;omega
  obtain ⟨x,hx⟩:∃ x,l[k]?=some x:=⟨_,zg hlt⟩
  have hg:es.getD k []=[PV.int .i64 x]:=by rw [← hes];exact qas hx
  have hd:=qa3 l k x hx
  simp only [ZZ,WW,Zd,reduceCtorEq,zd,ze,zb,zf,za,hg]
  refine ⟨by omega,by omega,?_⟩
  refine br ?_ ?_
  ·intro h2
   refine zS ?_
   rw [hf,hd,if_neg (by simpa using h2)]
  ·intro h2
   refine zS ?_
   refine ⟨qan (by omega) (by omega),?_⟩
   refine qac (l.length - (k+1)) _ [] (by omega) ?_ ?_ ⟨k+1,by omega,rfl,by rw [hf,hd,if_pos (by simpa using h2)],rfl,rfl⟩
   ·(simp only [ZZ,WW,Zd,reduceCtorEq,zd,ze,zb,zf,za];try trivial)
   ·simp only [ZZ,WW,Zd,reduceCtorEq,zd,ze,zb,zf,za]
 ·intro h
  have hge:l.length≤k:=by have:=of_decide_eq_false h;omega
  refine zS ?_
  rw [hf,List.drop_eq_nil_of_le hge]
  rfl
def qef (x n:Int):Int:=if n < 1 then 0 else x % n
theorem qe6 (x n:Int):0≤qef x n:=by
 unfold qef
 split
 ·omega
 ·exact Int.emod_nonneg x (by omega)
theorem qe7 (x n:Int) (h:1≤n):qef x n < n:=by
 unfold qef
 rw [if_neg (by omega)]
 exact Int.emod_lt_of_pos x (by omega)
theorem qug (x n:Int) (hn:1≤n):x % n=if x.tmod n < 0 then x.tmod n+n else x.tmod n:=by
 have h2:=Int.emod_nonneg x (show n≠0 by omega)
 have h3:=Int.emod_lt_of_pos x (show 0 < n by omega)
 rw [Int.tmod_eq_emod]
 split<;>split at *<;>omega
theorem qzq (x n:Int) (hn:1≤n):-n < x.tmod n∧x.tmod n < n:=by
 have h2:=Int.emod_nonneg x (show n≠0 by omega)
 have h3:=Int.emod_lt_of_pos x (show 0 < n by omega)
 rw [Int.tmod_eq_emod]
 split<;>omega
theorem qkJ (x n:Int) (h2:n≤9223372036854775807):PCall Tryz.prog E 45 [int x,int n] (·=int (qef x n)):=by
 refine qae mixed Tryz.func45 qmk ?_
 simp only [a0,l0,OS.ao,zk,zr,zi,zo,zl,zm,zu,zd,zh,zj,qim,qhX,ZZ,WW,Zd,reduceCtorEq,zd,ze,zb,zf,za]
 refine br ?_ ?_
 ·intro h
  refine zS ?_
  have:n < 1:=of_decide_eq_true h
  simp [qef,this]
 ·intro h
  have hn:¬ n < 1:=of_decide_eq_false h
  have hb:=qzq x n (by omega)
  have hc:=qug x n (by omega)
  refine zS ?_
  refine ⟨by omega,?_⟩
  refine qoo (fun fr L=>∃ y,y=x % n∧fr=(.p (int y)::oD (oC (oB (oo::[]))))∧L=[]) ?_ ?_ ?_
  ·intro h1
   have h1:=of_decide_eq_true h1
   refine zS ?_
   refine ⟨qan (by omega) (by omega),qkX (.p (int (x.tmod n+n))::oD (oC (oB (oo::[])))) [] ?_ ?_ ⟨_,by rw [hc,if_pos h1],rfl,rfl⟩⟩
   ·(simp only [ZZ,WW,Zd,reduceCtorEq,zd,ze,zb,zf,za];try trivial)
   ·simp only [ZZ,WW,Zd,reduceCtorEq,zd,ze,zb,zf,za]
  ·intro h1
   have h1:=of_decide_eq_false h1
   refine zS ?_
   refine qkX (.p (int (x.tmod n))::oD (oC (oB (oo::[])))) [] ?_ ?_ ⟨_,by rw [hc,if_neg h1],rfl,rfl⟩
   ·(simp only [ZZ,WW,Zd,reduceCtorEq,zd,ze,zb,zf,za];try trivial)
   ·simp only [ZZ,WW,Zd,reduceCtorEq,zd,ze,zb,zf,za]
  ·rintro fr L ⟨y,rfl,rfl,rfl⟩
   refine zS ?_
   simp [qef,hn]
def stm (l:List Int) (k:Nat):List PV:=[ints l,int k]
abbrev T:TypeId:=25
theorem qcX (l:List Int) (k:Nat) (n:Int) (hk:k≤1000000) (hl:l.length≤9223372036854775807) (h2:n≤9223372036854775807) :
  qhI Tryz.prog E 10 T (stm l k) [int n] (fun x cs'=>∃ y,x=int (qef y n)∧cs'=stm l (k+1)):=by
 unfold qhI
 refine qge mixed Tryz.func10 qev ?_
 simp only [a0,l0,OS.ao,zk,zr,zi,zo,zl,zm,zu,zd,zh,zj,stm,qcz,qcp,ZZ,WW,Zd,reduceCtorEq,zd,ze,zb,zf,za]
 refine ⟨qan (by omega) (by omega),?_⟩
 simp only [ints,ZZ,WW,Zd,reduceCtorEq,zd,ze,zb,zf,za]
 generalize hes:l.map (fun x=>[PV.int IntKind.i64 x])=es
 have hln:es.length=l.length:=by rw [← hes];simp
 have hc:[PV.sl 1 es,int ((k:Int)+1)]=[PV.sl 1 es,int ((k+1:Nat):Int)]:=by simp
 refine br ?_ ?_
 ·intro h
  refine zS ?_
  refine ⟨qan (by omega) (by omega),?_⟩
  refine use1 (qkJ _ _ h2) rfl (.inl rfl) ?_
  refine zS ?_
  exact qec [PV.sl 1 es,int ((k:Int)+1)] rfl ⟨_,rfl,hc⟩
 ·intro h
  have hne:¬ ((es.length:Int)=0):=of_decide_eq_false h
  refine zS ?_
  refine drg0 ?_
  refine zS ?_
  refine ⟨qan (by omega) (by omega),⟨by omega,?_⟩⟩
  refine drg0 ?_
  have hkk:(k:Int)+1 - 1=k:=by omega
  have hrem:(k:Int).tmod (es.length:Int)=((k % es.length:Nat):Int):=by rw [Int.tmod_eq_emod_of_nonneg (by omega)];rfl
  have hquo:(k:Int).tdiv (es.length:Int)=((k / es.length:Nat):Int):=by rw [Int.tdiv_eq_ediv_of_nonneg (by omega)];rfl
  have hq1:k / es.length≤k:=Nat.div_le_self _ _
  have hr1:k % es.length≤k:=Nat.mod_le _ _
  have hr2:k % es.length < es.length:=Nat.mod_lt _ (by omega)
  obtain ⟨x,hx⟩:∃ x,l[k % es.length]?=some x:=⟨_,zg (by omega)⟩
  have hg:es.getD (k % es.length) []=[PV.int .i64 x]:=by rw [← hes];exact qas (by rw [hes];exact hx)
  simp only [ZZ,WW,Zd,reduceCtorEq,zd,ze,zb,zf,za,hkk,hrem,hquo,hg]
  generalize k / es.length=q at *
  generalize k % es.length=r at *
  refine ⟨qan (by omega) (by omega),⟨hne,qan (by omega) (by omega)⟩,⟨by omega,by omega⟩,by omega,?_⟩
  refine use1 (qkJ _ _ (by decide)) rfl (.inl rfl) ?_
  have hb1:=qe6 x 1073741824
  have hb2:=qe7 x 1073741824 (by omega)
  have hm:(q:Int) * (7919+(r:Int))≤1000000 * 1007919:=Int.mul_le_mul (by omega) (by omega) (by omega) (by omega)
  have hm0:0≤(q:Int) * (7919+(r:Int)):=Int.mul_nonneg (by omega) (by omega)
  refine zS ?_
  refine ⟨qan (by omega) (by omega),qan (by omega) (by omega),qan (by omega) (by omega),?_⟩
  refine use1 (qkJ _ _ h2) rfl (.inl rfl) ?_
  refine zS ?_
  exact qec [PV.sl 1 es,int ((k:Int)+1)] rfl ⟨_,rfl,hc⟩
theorem qkt (x:Int) (n:Nat) (hn:0 < n):∃ i:Nat,i < n∧qef x n=i:=by
 have h0:=qe6 x n
 have h1:=qe7 x n (by omega)
 exact ⟨(qef x n).toNat,by omega,by omega⟩
theorem qgp (l:List Int) (k:Nat) (n:Int) (hk:k≤1000000) (hl:l.length≤9223372036854775807) (h2:n≤9223372036854775807) :
  qhI Tryz.prog E 9 T (stm l k) [int n] (fun x cs'=>∃ b,x=.bool b∧cs'=stm l (k+1)):=by
 unfold qhI
 refine qge mixed Tryz.func9 qi2 ?_
 simp only [a0,l0,OS.ao,zk,zr,zi,zo,zl,zm,zu,zd,zh,zj,qet,qeo,ZZ,WW,Zd,reduceCtorEq,zd,ze,zb,zf,za]
 refine useS (qcX l k n hk hl h2) rfl rfl rfl zE_ ?_
 rintro x cs' ⟨y,rfl,rfl⟩
 refine zS ?_
 exact qec (stm l (k+1)) rfl ⟨_,rfl,rfl⟩
theorem qnN (l:List Int) (k:Nat) (lo hi:Int) (hk:k≤1000000) (hl:l.length≤9223372036854775807) (h1:-1000000000≤lo) (h2:lo≤hi) (h3:hi≤1000000000) :
  qhI Tryz.prog E 19 T (stm l k) [int lo,int hi] (fun x cs'=>∃ y,x=int y∧lo≤y∧y≤hi∧cs'=stm l (k+1)):=by
 unfold qhI
 refine qge mixed Tryz.func19 qiA ?_
 simp only [a0,l0,OS.ao,zk,zr,zi,zo,zl,zm,zu,zd,zh,zj,qea,qdW,ZZ,WW,Zd,reduceCtorEq,zd,ze,zb,zf,za]
 refine br (fun h=>absurd (of_decide_eq_true h) (by omega)) ?_
 intro _
 refine zS ?_
 refine ⟨qan (by omega) (by omega),qan (by omega) (by omega),?_⟩
 refine useS (qcX l k _ hk hl (by omega)) rfl rfl rfl zE_ ?_
 rintro x cs' ⟨y,rfl,rfl⟩
 have b1:=qe6 y (hi - lo+1)
 have b2:=qe7 y (hi - lo+1) (by omega)
 refine zS ?_
 exact ⟨qan (by omega) (by omega),qec (stm l (k+1)) rfl ⟨_,rfl,by omega,by omega,rfl⟩⟩
theorem qb8 (l:List Int) (k:Nat) (c:List Int) (hk:k≤1000000) (hl:l.length≤9223372036854775807) (h0:0 < c.length) (h1:c.length≤1000000) :
  qhI Tryz.prog E 43 T (stm l k) [ints c] (fun x cs'=>∃ y,x=int y∧y∈c∧cs'=stm l (k+1)):=by
 unfold qhI
 refine qge mixed Tryz.func43 qeu ?_
 simp only [a0,l0,OS.ao,zk,zr,zi,zo,zl,zm,zu,zd,zh,zj,qcy,qco,ZZ,WW,Zd,reduceCtorEq,zd,ze,zb,zf,za]
 simp only [ints,ZZ,WW,Zd,reduceCtorEq,zd,ze,zb,zf,za]
 generalize hes:c.map (fun x=>[PV.int IntKind.i64 x])=es
 have hln:es.length=c.length:=by rw [← hes];simp
 refine useS (qcX l k _ hk hl (by omega)) rfl rfl rfl zE_ ?_
 rintro x cs' ⟨y,rfl,rfl⟩
 obtain ⟨i,hi,hy⟩:=qkt y es.length (by omega)
 rw [hy]
 obtain ⟨z,hz⟩:∃ z,c[i]?=some z:=⟨_,zg (by omega)⟩
 have hg:es.getD i []=[PV.int .i64 z]:=by rw [← hes];exact qas hz
 simp only [ZZ,WW,Zd,reduceCtorEq,zd,ze,zb,zf,za,hg]
 exact ⟨⟨by omega,by omega⟩,by omega,qec (stm l (k+1)) rfl ⟨_,rfl,zx hz,rfl⟩⟩
theorem qhY (l:List Int) (k:Nat) (c:List (List UInt8)) (hk:k≤1000000) (hl:l.length≤9223372036854775807) (h0:0 < c.length) (h1:c.length≤1000000) :
  qhI Tryz.prog E 42 T (stm l k) [strs c] (fun x cs'=>∃ y,x=.str y∧y∈c∧cs'=stm l (k+1)):=by
 unfold qhI
 refine qge mixed Tryz.func42 qhG ?_
 simp only [a0,l0,OS.ao,zk,zr,zi,zo,zl,zm,zu,zd,zh,zj,qdI,qdu,ZZ,WW,Zd,reduceCtorEq,zd,ze,zb,zf,za]
 simp only [strs,ZZ,WW,Zd,reduceCtorEq,zd,ze,zb,zf,za]
 generalize hes:c.map (fun x=>[PV.str x])=es
 have hln:es.length=c.length:=by rw [← hes];simp
 refine useS (qcX l k _ hk hl (by omega)) rfl rfl rfl zE_ ?_
 rintro x cs' ⟨y,rfl,rfl⟩
 obtain ⟨i,hi,hy⟩:=qkt y es.length (by omega)
 rw [hy]
 obtain ⟨z,hz⟩:∃ z,c[i]?=some z:=⟨_,zg (by omega)⟩
 have hg:es.getD i []=[PV.str z]:=by rw [← hes];exact qas hz
 simp only [ZZ,WW,Zd,reduceCtorEq,zd,ze,zb,zf,za,hg]
 exact ⟨⟨by omega,by omega⟩,by omega,qec (stm l (k+1)) rfl ⟨_,rfl,zx hz,rfl⟩⟩
end
end Go.Proofs.YtehfjlpenlffmaaGreatDoor
