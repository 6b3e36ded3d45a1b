import Derived.Test.YtmpdnpljdcincaaGreatDoorZ4
import Derived.Test.YtmpdnpljdcincaaGreatDoorProg
import Derived.KernelRfl
set_option linter.unusedVariables false
set_option linter.unusedSimpArgs false
set_option linter.defProp false
namespace Go.Proofs.YtmpdnpljdcincaaGreatDoor
open Nat renaming reduceAdd→zd,reduceEqDiff→za,reduceLT→zf,reduceLeDiff→zb,reduceMul→ze
open List renaming getElem?_eq_getElem→zg,getElem?_eq_some_iff→zk,mem_of_getElem?→zm,replicate→zM
theorem mixed:Tryz.prog.follows .mixedOrders=true:=by kernel_rfl
abbrev int (n:Int):PV:=.int .i64 n
def ints (l:List Int):PV:=.sl 1 (l.map fun x=>[.int .i64 x])
def strs (l:List (List UInt8)):PV:=.sl 1 (l.map fun x=>[.str x])
theorem qao {α β:Type} {f:α→β} {l:List α} {k:Nat} {x:α} {d:β} (h:l[k]?=some x):(l.map f).getD k d=f x:=by
 simp [List.getD,h]
theorem qal {n:Int} (h1:-9223372036854775808≤n) (h2:n≤9223372036854775807):I64 n:=⟨h1,h2⟩
theorem Zl0 {α:Type} {n:Nat}:([]:List α).take n=[]:=by simp
theorem Zl1 {α:Type} {n:Nat}:([]:List α).drop n=[]:=by simp
theorem Zl2 {α:Type} {l:List α}:l++[]=l:=by simp
theorem Zl3 {p:Prop}:(True∧p)=p:=by simp
theorem Zl4 {p:Prop}:(p∧True)=p:=by simp
theorem Zl5 {α:Type} {h:Decidable True} {a b:α}:(if True then a else b)=a:=by simp
theorem Zl6 {α:Type} {h:Decidable False} {a b:α}:(if False then a else b)=b:=by simp
theorem Zl7 {b:Bool}:(b && true)=b:=by simp
theorem Zl8 {b:Bool}:(true && b)=b:=rfl
theorem Zl9:(!true)=false:=rfl
theorem Zl10:(!false)=true:=rfl
theorem Zl11 {α:Type} {a b:α}:(bif true then a else b)=a:=rfl
theorem Zl12 {α:Type} {a b:α}:(bif false then a else b)=b:=rfl
theorem Zl13 {p:Prop}:(p→p)=True:=by simp
theorem Zl14 {p:Prop}:(p∧p)=p:=by simp
theorem Zl15 {p:Prop}:(True→p)=p:=by simp
theorem Zl16 {p:Prop}:(p→True)=True:=by simp
theorem Zl17 {n:Nat}:0+n=n:=by simp
theorem Zl18 {n:Nat}:n+0=n:=rfl
theorem Zl19 {b c:Bool}:(bif b then c else false)=(b && c):=by simp
theorem Zl20 {b c:Bool}:(bif b then true else c)=(b || c):=by simp
theorem Zl21 {n:Nat}:((n:Int)).toNat=n:=rfl
theorem Zl22:(false=true)=False:=by simp
theorem Zl23 {α:Type} {a b:α}:(a≠b)=¬ (a=b):=by simp
theorem Zl24:(¬ False)=True:=by simp
theorem Zl25:(¬ True)=False:=by simp
theorem Zl26 {a b:Nat}:(Key.l a=Key.l b)=(a=b):=by simp
theorem Zl27 {a b:Nat}:(Key.b a=Key.b b)=(a=b):=by simp
theorem Zl28 {α:Type} {a:α} {l:List α} {d:α}:(a :: l).getD 0 d=a:=rfl
theorem Zl29 {α:Type} {a:α} {l:List α} {d:α} {n:Nat}:(a :: l).getD (n+1) d=l.getD n d:=rfl
theorem Zl30 {α:Type} {d:α} {n:Nat}:([]:List α).getD n d=d:=rfl
theorem Zl31 {α:Type} {a:α} {l:List α}:(a :: l)[0]?=some a:=rfl
theorem Zl32 {α:Type} {a:α} {l:List α} {n:Nat}:(a :: l)[n+1]?=l[n]?:=rfl
theorem Zl33 {α:Type} {a b:α} {l:List α}:(a :: l).set 0 b=b :: l:=rfl
theorem Zl34 {α:Type} {a b:α} {l:List α} {n:Nat}:(a :: l).set (n+1) b=a :: l.set n b:=rfl
theorem Zl35 {α β:Type} {f:α→β} {a:α} {l:List α}:(a :: l).map f=f a :: l.map f:=rfl
theorem Zl36 {α β:Type} {f:α→β}:[].map f=[]:=rfl
theorem Zl37 {α:Type} {a:α} {l:List α}:(a :: l).length=l.length+1:=rfl
theorem Zl38 {α:Type}:([]:List α).length=0:=rfl
theorem Zl39 {α:Type} {p:α→Bool} {a:α} {l:List α}:(a :: l).all p=(p a && l.all p):=rfl
theorem Zl40 {α:Type} {p:α→Bool}:[].all p=true:=rfl
theorem Zl41 {α:Type} {a:α} {l:List α} {n:Nat}:(a :: l).take (n+1)=a :: l.take n:=rfl
theorem Zl42 {α:Type} {l:List α}:l.take 0=[]:=rfl
theorem Zl43 {α:Type} {a:α} {l:List α} {n:Nat}:(a :: l).drop (n+1)=l.drop n:=rfl
theorem Zl44 {α:Type} {l:List α}:l.drop 0=l:=rfl
theorem Zl45 {α β:Type} {f:α→β} {a:α}:(some a).map f=some (f a):=rfl
theorem Zl46 {α β:Type} {f:α→β}:(none:Option α).map f=none:=rfl
theorem Zl47 {α:Type} {a:α} {l m:List α}:(a :: l)++m=a :: (l++m):=rfl
theorem Zl48 {α:Type} {l:List α}:[]++l=l:=rfl
theorem Zl49 {α:Type} {a:α} {l:List α}:(a :: l).isEmpty=false:=rfl
theorem Zl50 {α:Type}:([]:List α).isEmpty=true:=rfl
abbrev qO (d:Nat) (o:IOp):IOper:=⟨some d,o,none⟩
abbrev qM (d s:Nat):IOper:=⟨some d,.mov (.t s),none⟩
abbrev oo:AV:=.any
abbrev oB (l:List AV):List AV:=oo::oo::l
abbrev oC (l:List AV):List AV:=oB (oB l)
abbrev oD (l:List AV):List AV:=oC (oC l)
abbrev oE (l:List AV):List AV:=oD (oD l)
abbrev oF (l:List AV):List AV:=oE (oE l)
abbrev oG (l:List AV):List AV:=oF (oF l)
abbrev cI (n:Int):Opd:=.c (.int .i64 n)
abbrev qL (d x:Nat):IOper:=qO d (.ld 1 false (.t x))
abbrev qF (d o x:Nat):IOper:=qO d (.fla o (.t x))
abbrev qS (s a b:Nat):IOper:=⟨none,.st s (.t a) (.t b),none⟩
abbrev qN (d x:Nat):IOper:=qO d (.len (.t x))
abbrev qT (d:Nat) (o:BinOp) (x y:Nat):IOper:=qO d (.bin o (.t x) (.t y))
abbrev qB (d:Nat) (o:BinOp) (x:Nat) (y:Opd):IOper:=qO d (.bin o (.t x) y)
abbrev qX (d z x y:Nat):IOper:=qO d (.ixa z (.t x) (.t y))
abbrev sR (l:List IOper) (b:IC):IC:=.seq (.reg l) b
theorem WW.{u}:(∀ {α:Sort u} (a b:α),(if True then a else b)=a)∧(∀ {α:Sort u} (a b:α),(if False then a else b)=b)∧(∀ {α:Sort u} [Nonempty α] (b:Prop),(α→b)↔b):=⟨fun _ _=>rfl,fun _ _=>rfl,fun _=>by simp⟩
def ZZ:=And.intro (And.intro (And.intro (And.intro (And.intro (And.intro (And.intro (And.intro @qxd @qxf) (And.intro @qz1 (And.intro @qz0 @qvd))) (And.intro (And.intro @qz2 (And.intro @qz4 @qz3)) (And.intro @qxe (And.intro @qxg @qz5)))) (And.intro (And.intro (And.intro @qyg (And.intro @qyf @qyh)) (And.intro @qw6 (And.intro @qw5 @qw7))) (And.intro (And.intro @qv6 (And.intro @qv5 @qv7)) (And.intro @qA3 (And.intro @qA2 @qA4))))) (And.intro (And.intro (And.intro (And.intro @qAB (And.intro @qAC @qAD)) (And.intro @qAE (And.intro @qAz @qAA))) (And.intro (And.intro @qvj (And.intro @qA1 @qA0)) (And.intro @qAZ (And.intro @qxD @qvB)))) (And.intro (And.intro (And.intro @qvo (And.intro @qxx @qxy)) (And.intro @qsN (And.intro @qzc @qB5))) (And.intro (And.intro @qAR (And.intro @qCp @qCn)) (And.intro @qCh (And.intro @qB0 @qB9)))))) (And.intro (And.intro (And.intro (And.intro (And.intro @qBY @o_mx) (And.intro @qCd (And.intro @qBX @qBT))) (And.intro (And.intro @qCc (And.intro @qCf @qCe)) (And.intro @o_ld (And.intro @qCb @qCa)))) (And.intro (And.intro (And.intro @qCg (And.intro @qCo @qCj)) (And.intro @qCi (And.intro @qCq @qCl))) (And.intro (And.intro @qB1 (And.intro @qB8 @qAT)) (And.intro @qBS (And.intro @qB3 @qAV))))) (And.intro (And.intro (And.intro (And.intro @qAS (And.intro @qCt @qCm)) (And.intro @o_st (And.intro @qBV @qB4))) (And.intro (And.intro @qCs (And.intro @qCk @qBZ)) (And.intro @qB6 (And.intro @qCr @qBU)))) (And.intro (And.intro (And.intro @qB7 (And.intro @qB2 @qBW)) (And.intro @qAW (And.intro @qAU @qCE))) (And.intro (And.intro @qBf (And.intro @qCU @qCS)) (And.intro @qCO (And.intro @qCB @qCG))))))) (And.intro (And.intro (And.intro (And.intro (And.intro (And.intro @qCA @g_mx) (And.intro @qCK (And.intro @qCz @qCy))) (And.intro (And.intro @qCJ (And.intro @qCM @qCL)) (And.intro @g_ld (And.intro @qCI @qCH)))) (And.intro (And.intro (And.intro @qCN (And.intro @qCT @qCQ)) (And.intro @qCP (And.intro @qCV @qCR))) (And.intro (And.intro @qCC (And.intro @qCF @qBg)) (And.intro @qCx (And.intro @qCD @qBh))))) (And.intro (And.intro (And.intro (And.intro @qwl (And.intro @qtY @qtX)) (And.intro @qze (And.intro @qss @qt0))) (And.intro (And.intro @qtZ (And.intro @qst @qxB)) (And.intro @qzb (And.intro @qwj @qAQ)))) (And.intro (And.intro (And.intro @qwk (And.intro @qzd @qxz)) (And.intro @qxA (And.intro @Zl13 @Zl28))) (And.intro (And.intro @Zl29 (And.intro @Zl30 @Zl31)) (And.intro @Zl32 (And.intro @Zl33 @Zl34)))))) (And.intro (And.intro (And.intro (And.intro (And.intro @Zl35 @Zl36) (And.intro @Zl37 (And.intro @Zl38 @Zl39))) (And.intro (And.intro @Zl40 (And.intro @Zl41 @Zl42)) (And.intro @Zl43 (And.intro @Zl44 @Zl0)))) (And.intro (And.intro (And.intro @Zl1 (And.intro @Zl45 @Zl46)) (And.intro @Zl3 (And.intro @Zl4 @Zl5))) (And.intro (And.intro @Zl6 (And.intro @Zl7 @Zl8)) (And.intro @Zl9 (And.intro @Zl10 @Zl11))))) (And.intro (And.intro (And.intro (And.intro @Zl12 (And.intro @Zl26 @Zl27)) (And.intro @Zl14 (And.intro @Zl15 @Zl16))) (And.intro (And.intro @Zl17 (And.intro @Zl18 @Zl2)) (And.intro @Zl48 (And.intro @Zl47 @Zl19)))) (And.intro (And.intro (And.intro @Zl20 (And.intro @qnS @qlW)) (And.intro @qmj (And.intro @qsv @Zl21))) (And.intro (And.intro @Zl49 (And.intro @Zl50 @Zl22)) (And.intro @Zl23 (And.intro @Zl24 @Zl25)))))))) (And.intro (And.intro (And.intro (And.intro (And.intro (And.intro (And.intro (And.intro @qxC @qvq) (And.intro @Za.eq_1 @Za.eq_2)) (And.intro (And.intro @Za.eq_3 @Zb.eq_1) (And.intro @Zb.eq_2 @Zc.eq_1))) (And.intro (And.intro (And.intro @Zc.eq_2 @Ze.eq_1) (And.intro @Ze.eq_2 @Ze.eq_3)) (And.intro (And.intro @Ze.eq_4 @Ze.eq_5) (And.intro @Ze.eq_6 @Ze.eq_7)))) (And.intro (And.intro (And.intro (And.intro @Ze.eq_8 @Ze.eq_9) (And.intro @Ze.eq_10 @Ze.eq_11)) (And.intro (And.intro @Ze.eq_12 @Ze.eq_13) (And.intro @Ze.eq_14 @Ze.eq_15))) (And.intro (And.intro (And.intro @Ze.eq_16 @Ze.eq_17) (And.intro @Ze.eq_18 @Ze.eq_19)) (And.intro (And.intro @Ze.eq_20 @Ze.eq_21) (And.intro @Ze.eq_22 @Ze.eq_23))))) (And.intro (And.intro (And.intro (And.intro (And.intro @Ze.eq_24 @Ze.eq_25) (And.intro @Ze.eq_26 @Ze.eq_27)) (And.intro (And.intro @Ze.eq_28 @Ze.eq_29) (And.intro @Ze.eq_30 @Ze.eq_31))) (And.intro (And.intro (And.intro @Zf.eq_1 @Zf.eq_2) (And.intro @Zg.eq_1 @Zh.eq_1)) (And.intro (And.intro @Zh.eq_2 @Zh.eq_3) (And.intro @Zi.eq_1 @rd.eq_1)))) (And.intro (And.intro (And.intro (And.intro @rd.eq_2 @rd.eq_3) (And.intro @rd.eq_4 @AV.un.eq_1)) (And.intro (And.intro @AV.un.eq_2 @AV.unA.eq_1) (And.intro @AV.ad.eq_1 @AV.ad.eq_2))) (And.intro (And.intro (And.intro @Zj.eq_1 @Zj.eq_2) (And.intro @Zk.eq_1 @Zk.eq_2)) (And.intro (And.intro @Zk.eq_3 @Zl.eq_1) (And.intro @Zl.eq_2 @Zm.eq_1)))))) (And.intro (And.intro (And.intro (And.intro (And.intro (And.intro @Zn.eq_1 @Zn.eq_2) (And.intro @Zn.eq_3 @Zn.eq_4)) (And.intro (And.intro @Zn.eq_5 @Zo.eq_1) (And.intro @Zo.eq_2 @Zo.eq_3))) (And.intro (And.intro (And.intro @Zo.eq_4 @Zo.eq_5) (And.intro @Zo.eq_6 @Zo.eq_7)) (And.intro (And.intro @Zo.eq_8 @Zo.eq_9) (And.intro @Zo.eq_10 @Zo.eq_11)))) (And.intro (And.intro (And.intro (And.intro @Zo.eq_12 @Zo.eq_13) (And.intro @Zo.eq_14 @Zp.eq_1)) (And.intro (And.intro @Zp.eq_2 @Zp.eq_3) (And.intro @Zq.eq_1 @Zq.eq_2))) (And.intro (And.intro (And.intro @Zq.eq_3 @Zq.eq_4) (And.intro @Zq.eq_5 @Zq.eq_6)) (And.intro (And.intro @Zq.eq_7 @Zq.eq_8) (And.intro @Zr.eq_1 @Zr.eq_2))))) (And.intro (And.intro (And.intro (And.intro (And.intro @Zr.eq_3 @Zs.eq_1) (And.intro @Zt.eq_1 @Zt.eq_2)) (And.intro (And.intro @Zt.eq_3 @Zt.eq_4) (And.intro @Zt.eq_5 @Zu.eq_1))) (And.intro (And.intro (And.intro @Zu.eq_2 @Zv.eq_1) (And.intro @Zv.eq_2 @Zv.eq_3)) (And.intro (And.intro @Zv.eq_4 @Zw.eq_1) (And.intro @Zw.eq_2 @Zw.eq_3)))) (And.intro (And.intro (And.intro (And.intro @Zx.eq_1 @Zx.eq_2) (And.intro @Zx.eq_3 @Zy.eq_1)) (And.intro (And.intro @Zy.eq_2 @Zz.eq_1) (And.intro @Zaa.eq_1 @Zaa.eq_2))) (And.intro (And.intro (And.intro @Zab.eq_1 @Zab.eq_2) (And.intro @Zac.eq_1 @Zac.eq_2)) (And.intro (And.intro @Zad.eq_1 @Zad.eq_2) (And.intro @Zae.eq_1 @Zae.eq_2))))))) (And.intro (And.intro (And.intro (And.intro (And.intro (And.intro (And.intro @Zaf.eq_1 @Zaf.eq_2) (And.intro @Zaf.eq_3 @Zaf.eq_4)) (And.intro (And.intro @Zaf.eq_5 @Zag.eq_1) (And.intro @Zag.eq_2 @Zag.eq_3))) (And.intro (And.intro (And.intro @Zah.eq_1 @Zah.eq_2) (And.intro @Zai.eq_1 @Zai.eq_2)) (And.intro (And.intro @Zai.eq_3 @Zaj.eq_1) (And.intro @Zaj.eq_2 @Zaj.eq_3)))) (And.intro (And.intro (And.intro (And.intro @Zak.eq_1 @Zak.eq_2) (And.intro @Zak.eq_3 @Zak.eq_4)) (And.intro (And.intro @Zal.eq_1 @Zam.eq_1) (And.intro @Zan.eq_1 @Zan.eq_2))) (And.intro (And.intro (And.intro @Zao.eq_1 @Zao.eq_2) (And.intro @Zao.eq_3 @wk1.eq_1)) (And.intro (And.intro @wk1.eq_2 @wk.eq_1) (And.intro @wk.eq_2 @wk.eq_3))))) (And.intro (And.intro (And.intro (And.intro (And.intro @Zap.eq_1 @Zaq.eq_1) (And.intro @Zar.eq_1 @Zar.eq_2)) (And.intro (And.intro @Zas.eq_1 @Zas.eq_2) (And.intro @Zat.eq_1 @Zat.eq_2))) (And.intro (And.intro (And.intro @Zau.eq_1 @Zav.eq_1) (And.intro @Zav.eq_2 @Zaw.eq_1)) (And.intro (And.intro @Zaw.eq_2 @AV.kill.eq_1) (And.intro @AV.kill.eq_2 @AV.kill.eq_3)))) (And.intro (And.intro (And.intro (And.intro @AV.kill.eq_4 @AV.kill.eq_5) (And.intro @AV.kill.eq_6 @AV.kill.eq_7)) (And.intro (And.intro @AV.kill.eq_8 @AV.kill.eq_9) (And.intro @AV.kill.eq_10 @AV.kill.eq_11))) (And.intro (And.intro (And.intro @AO.kill.eq_1 @AO.kill.eq_2) (And.intro @AO.kill.eq_3 @AO.kill.eq_4)) (And.intro (And.intro @AO.kill.eq_5 @AV.thaw.eq_1) (And.intro @AV.thaw.eq_2 @AV.thaw.eq_3)))))) (And.intro (And.intro (And.intro (And.intro (And.intro (And.intro @AV.thaw.eq_4 @AV.thaw.eq_5) (And.intro @AV.thaw.eq_6 @AV.thaw.eq_7)) (And.intro (And.intro @AV.thaw.eq_8 @AV.thaw.eq_9) (And.intro @AV.thaw.eq_10 @AV.thaw.eq_11))) (And.intro (And.intro (And.intro @Zax.eq_1 @Zax.eq_2) (And.intro @Zax.eq_3 @Zax.eq_4)) (And.intro (And.intro @AO.thaw.eq_1 @AO.thaw.eq_2) (And.intro @AO.thaw.eq_3 @AO.thaw.eq_4)))) (And.intro (And.intro (And.intro (And.intro @AO.thaw.eq_5 @Zay.eq_1) (And.intro @Zay.eq_2 @Zaz.eq_1)) (And.intro (And.intro @Zaz.eq_2 @Zba.eq_1) (And.intro @Zba.eq_2 @Zbb.eq_1))) (And.intro (And.intro (And.intro @Zbb.eq_2 @Zbc.eq_1) (And.intro @Zbc.eq_2 @Zbd.eq_1)) (And.intro (And.intro @Zbd.eq_2 @Zbe.eq_1) (And.intro @Zbe.eq_2 @Zbe.eq_3))))) (And.intro (And.intro (And.intro (And.intro (And.intro @Zbe.eq_4 @Zbf.eq_1) (And.intro @Zbf.eq_2 @Zbg.eq_1)) (And.intro (And.intro @Zbg.eq_2 @Zbh.eq_1) (And.intro @Zbh.eq_2 @Zbh.eq_3))) (And.intro (And.intro (And.intro @Zbh.eq_4 @Zbh.eq_5) (And.intro @Zbh.eq_6 @Zbi.eq_1)) (And.intro (And.intro @Zbi.eq_2 @Zbi.eq_3) (And.intro @Zbi.eq_4 @Zbi.eq_5)))) (And.intro (And.intro (And.intro (And.intro @Zbi.eq_6 @Zbj.eq_1) (And.intro @Zbj.eq_2 @Zbj.eq_3)) (And.intro (And.intro @Zbj.eq_4 @Zbj.eq_5) (And.intro @Zbj.eq_6 @Zbk.eq_1))) (And.intro (And.intro (And.intro @Zbk.eq_2 @qvv) (And.intro @qvf @qz6)) (And.intro (And.intro @thaw_P.eq_1 @thaw_P.eq_2) (And.intro @caps_P.eq_1 (And.intro @caps_P.eq_2 @caps_P.eq_3)))))))))
theorem zE_ {p:Prop} (h:p:=by simp only [ZZ,WW,Zd,reduceCtorEq,Nat.reduceAdd,Nat.reduceMul,Nat.reduceLeDiff,Nat.reduceLT,Nat.reduceEqDiff]):p:=h
theorem zF_ {p:Prop} (h:p:=by (simp only [ZZ,WW,Zd,reduceCtorEq,Nat.reduceAdd,Nat.reduceMul,Nat.reduceLeDiff,Nat.reduceLT,Nat.reduceEqDiff];try trivial)):p:=h
theorem zG_ {p:Prop} (h:p:=by (simp only [ZZ,WW,Zd,reduceCtorEq,Nat.reduceAdd,Nat.reduceMul,Nat.reduceLeDiff,Nat.reduceLT,Nat.reduceEqDiff];trivial)):p:=h
theorem sc_ {p:Prop} (h:p:=by first|first|assumption|trivial|exact (fun hq=>by rw [hq];rfl)|exact qal (by omega) (by omega)|omega|(simp;done)|(simp;omega)|(intro hsc;have hs0:=hsc;(try have hsd:=of_decide_eq_true hsc);(try simp only [Bool.not_eq_true',Bool.or_eq_false_iff,Bool.and_eq_true,Bool.or_eq_true,decide_eq_true_eq,decide_eq_false_iff_not] at hsc);(repeat' (with_reducible apply And.intro))<;>(first|assumption|trivial|exact (fun hq=>by rw [hq];rfl)|exact qal (by omega) (by omega)|omega|(simp;done)|(simp;omega)|(intro hse;simp [hse,hs0];done)|(intro hse;simp only [hse,hs0,Bool.true_and,Bool.and_true,Bool.not_false,Bool.not_true,Bool.and_self];done)))):p:=h
theorem zS {p q:Prop} (h:q) (e:p=q:=by conv=>lhs;simp only [ZZ,WW,Zd,reduceCtorEq,Nat.reduceAdd,Nat.reduceMul,Nat.reduceLeDiff,Nat.reduceLT,Nat.reduceEqDiff]):p:=e ▸ h
theorem XX.{u}:(∀ {α:Type u} {β:Type u} (f:α→β) (a:α) (l:List α),(a::l).map f=f a::l.map f)∧(∀ {α:Type u} {β:Type u} (f:α→β),([]:List α).map f=[])∧(∀ {α:Type u} (a:α) (l:List α),(a::l).length=l.length+1)∧(∀ {α:Type u},([]:List α).length=0)∧(∀ {α:Type u} (a:α) (l m:List α),a::l++m=a::(l++m))∧(∀ {α:Type u} (l:List α),[]++l=l)∧(∀ {α:Type u} (n:Nat) (a:α),zM (n+1) a=a::zM n a)∧(∀ {α:Type u} (a:α),zM 0 a=[]):=⟨fun _ _ _=>rfl,fun _=>rfl,fun _ _=>rfl,rfl,fun _ _ _=>rfl,fun _=>rfl,fun _ _=>rfl,fun _=>rfl⟩
theorem zV {p q:Prop} (h:q) (e:p=q:=by conv=>lhs;simp only [a0,l0,OS.ao,XX,Nat.reduceSub,ZZ,WW,Zd,reduceCtorEq,Nat.reduceAdd,Nat.reduceMul,Nat.reduceLeDiff,Nat.reduceLT,Nat.reduceEqDiff]):p:=e ▸ h
abbrev jE (x:Nat):IC:=.cond (.t x) .skip (.exit 0)
abbrev jW (x:Nat) (a:IC):IC:=.cond (.t x) a .skip
abbrev jI (d:Nat) (n:Int):IOper:=qO d (.mov (cI n))
abbrev jC (d f:Nat) (l:List Opd):IOper:=qO d (.call f l)
abbrev qsz:IC:=(sR [qO 6 (.mov (.c (.bool false)))] (sR [qM 7 0,qM 8 1,qT 9 .geq 7 8,qM 10 9,⟨some 11,.mov (.t 0),(some (10,true))⟩,⟨some 12,.mov (.t 2),(some (10,true))⟩,⟨some 13,.bin .leq (.t 11) (.t 12),(some (10,true))⟩,qO 14 (.pick (.t 10) (.t 13) (.c (.bool false))),qM 6 14] .ret))
theorem qsJ:chkF Tryz.prog Tryz.f71 qsz [.t 6] 15=true:=by kernel_rfl
abbrev qo1:IC:=(sR [jI 4 0] (.seq (sR [qM 5 0] (jW 5 (sR [qM 6 1,qM 4 6] .ret))) (sR [jI 4 0] .ret)))
theorem qpn:chkF Tryz.prog Tryz.f51 qo1 [.t 4] 7=true:=by kernel_rfl
def qgu:IC:=(sR [qT 8 .lss 7 6] (.seq (jE 8) (.seq (.block 1 (sR [qX 9 1 5 7,qL 10 9,qM 4 10] (sR [qM 11 4,qB 12 .neq 11 (cI 0)] (jW 12 (sR [qM 13 4,qM 2 13] .ret))))) (.reg [qB 14 .add 7 (cI 1),qM 7 14]))))
abbrev qnu:IC:=(sR [jI 2 0] (.seq (sR [qM 5 0,qN 6 5,jI 7 0] (.block 0 (.loop qgu))) (sR [jI 2 0] .ret)))
theorem qnN:chkF Tryz.prog Tryz.f49 qnu [.t 2] 15=true:=by kernel_rfl
abbrev qi7:IC:=(sR [jI 4 0] (.seq (sR [qM 5 1,qB 6 .lss 5 (cI 1)] (jW 6 (sR [jI 4 0] .ret))) (sR [qM 7 0,qM 8 1,qT 9 .rem 7 8,qM 0 9] (.seq (sR [qM 10 0,qB 11 .lss 10 (cI 0)] (jW 11 (.reg [qM 12 0,qM 13 1,qT 14 .add 12 13,qM 0 14]))) (.cut (sR [qM 15 0,qM 4 15] .ret))))))
theorem qjp:chkF Tryz.prog Tryz.f88 qi7 [.t 4] 16=true:=by kernel_rfl
def qbD:IC:=(sR [jI 4 0] (sR [qM 7 0,qO 8 (.nck (.t 7)),qF 9 1 8,qL 10 9,qB 11 .add 10 (cI 1),qO 12 (.nck (.t 7)),qF 13 1 12,qS 1 13 11] (.seq (sR [qM 14 0,qO 15 (.nck (.t 14)),qF 16 0 15,qL 17 16,qN 18 17,qB 19 .eql 18 (cI 0)] (jW 19 (sR [qM 20 0,qO 21 (.nck (.t 20)),qF 22 1 21,qL 23 22,qB 24 .mul 23 (cI 7919),qM 25 1,jC 26 88 [.t 24,.t 25],qM 4 26] .ret))) (.seq (.drg [qM 27 0,qO 28 (.nck (.t 27)),qF 29 1 28,qL 30 29,qB 31 .sub 30 (cI 1),qM 32 0,qO 33 (.nck (.t 32)),qF 34 0 33,qL 35 34,qN 36 35,qT 37 .rem 31 36,qM 5 37]) (.seq (.drg [qM 38 0,qO 39 (.nck (.t 38)),qF 40 1 39,qL 41 40,qB 42 .sub 41 (cI 1),qM 43 0,qO 44 (.nck (.t 43)),qF 45 0 44,qL 46 45,qN 47 46,qT 48 .quo 42 47,qM 6 48]) (sR [qM 49 0,qO 50 (.nck (.t 49)),qF 51 0 50,qL 52 51,qM 53 5,qX 54 1 52 53,qL 55 54,jC 56 88 [.t 55,.c (.int .i64 1073741824)],qM 57 6,qM 58 5,qO 59 (.bin .add (cI 7919) (.t 58)),qT 60 .mul 57 59,qT 61 .add 56 60,qM 62 1,jC 63 88 [.t 61,.t 62],qM 4 63] .ret))))))
theorem qcY:chkF Tryz.prog Tryz.f29 qbD [.t 4] 64=true:=by kernel_rfl
abbrev qfy:IC:=(sR [qO 4 (.mov (.c (.bool false)))] (sR [qM 5 0,qM 6 1,jC 7 29 [.t 5,.t 6],qB 8 .eql 7 (cI 0),qM 4 8] .ret))
theorem qfK:chkF Tryz.prog Tryz.f43 qfy [.t 4] 9=true:=by kernel_rfl
abbrev qfe:IC:=(sR [jI 6 0] (.seq (sR [qM 7 2,qM 8 1,qT 9 .lss 7 8] (jW 9 (sR [qM 10 1,qM 6 10] .ret))) (sR [qM 11 1,qM 12 0,qM 13 2,qM 14 1,qT 15 .sub 13 14,qB 16 .add 15 (cI 1),jC 17 29 [.t 12,.t 16],qT 18 .add 11 17,qM 6 18] .ret)))
theorem qfl:chkF Tryz.prog Tryz.f97 qfe [.t 6] 19=true:=by kernel_rfl
abbrev qfx:IC:=(sR [jI 4 0] (sR [qM 5 1,qM 6 0,qM 7 1,qN 8 7,jC 9 29 [.t 6,.t 8],qX 10 1 5 9,qL 11 10,qM 4 11] .ret))
theorem qcX:chkF Tryz.prog Tryz.f19 qfx [.t 4] 12=true:=by kernel_rfl
abbrev qeO:IC:=(sR [qO 4 (.mov (.c (.str [])))] (sR [qM 5 1,qM 6 0,qM 7 1,qN 8 7,jC 9 29 [.t 6,.t 8],qX 10 1 5 9,qL 11 10,qM 4 11] .ret))
theorem qeS:chkF Tryz.prog Tryz.f45 qeO [.t 4] 12=true:=by kernel_rfl
section
variable {E:Envt}
def inE (n lo hi:Int):Bool:=decide (lo≤n) && decide (n≤hi)
theorem qqV (n lo hi:Int):PCall Tryz.prog E 71 [int n,int lo,int hi] (·=.bool (inE n lo hi)):=by
 refine qag mixed Tryz.func71 qsJ ?_
 refine zV ?_
 rfl
def qak (b:Bool) (e:Int):Int:=if b=true then e else 0
theorem qcL (b:Bool) (e:Int):PCall Tryz.prog E 51 [.bool b,int e] (·=int (qak b e)):=by
 refine qag mixed Tryz.func51 qpn ?_
 refine zV ?_
 refine br ?_ ?_
 all_goals
  rintro rfl
  refine zS ?_
  rfl
def qai:List Int→Int
 |[]=>0
 |e :: r=>if e=0 then qai r else e
theorem qba (l:List Int) (k:Nat) (x:Int) (h:l[k]?=some x):qai (l.drop k)=if x=0 then qai (l.drop (k+1)) else x:=by
 have hk:=(zk.1 h).1
 rw [List.drop_eq_getElem_cons hk,(zk.1 h).2]
 rfl
theorem qeA (l:List Int) (hl:l.length≤1000000):PCall Tryz.prog E 49 [ints l] (·=int (qai l)):=by
 refine qag mixed Tryz.func49 qnN ?_
 refine zV ?_
 simp only [ints,ZZ,WW,Zd,reduceCtorEq,zd,ze,zb,zf,za]
 generalize hes:l.map (fun x=>[PV.int IntKind.i64 x])=es
 have hln:es.length=l.length:=by rw [← hes];simp
 refine qac (fun n fr L=>∃ k:Nat,k≤l.length∧n=l.length - k∧qai l=qai (l.drop k)∧fr=(.p (.sl 1 es)::oo::oo::oo::oo::.p (.sl 1 es)::.p (int (es.length:Nat))::.p (int (k:Nat))::oC (oB (oo::[])))∧L=[]) l.length _ [] ?_ ?_ ⟨0,by omega,by omega,rfl,rfl,rfl⟩ ?_
 ·(simp only [ZZ,WW,Zd,reduceCtorEq,zd,ze,zb,zf,za];try trivial)
 ·simp only [ZZ,WW,Zd,reduceCtorEq,zd,ze,zb,zf,za]
 rintro n fr L ⟨k,hk,rfl,hf,rfl,rfl⟩
 simp only [qgu,ZZ,WW,Zd,reduceCtorEq,zd,ze,zb,zf,za]
 refine br ?_ ?_
 ·intro h
  have hlt:k < l.length:=by have:=of_decide_eq_true h;omega
  obtain ⟨x,hx⟩:∃ x,l[k]?=some x:=⟨_,zg hlt⟩
  have hg:es.getD k []=[PV.int .i64 x]:=by rw [← hes];exact qao hx
  have hd:=qba l k x hx
  simp only [ZZ,WW,Zd,reduceCtorEq,zd,ze,zb,zf,za,hg]
  refine ⟨by omega,by omega,?_⟩
  refine br ?_ ?_
  ·intro h2
   refine zS ?_
   rw [hf,hd,if_neg (by simpa using h2)]
  ·intro h2
   refine zS ?_
   refine ⟨qal (by omega) (by omega),?_⟩
   refine qab (l.length - (k+1)) _ [] (by omega) ?_ ?_ ⟨k+1,by omega,rfl,by rw [hf,hd,if_pos (by simpa using h2)],rfl,rfl⟩
   ·(simp only [ZZ,WW,Zd,reduceCtorEq,zd,ze,zb,zf,za];try trivial)
   ·simp only [ZZ,WW,Zd,reduceCtorEq,zd,ze,zb,zf,za]
 ·intro h
  have hge:l.length≤k:=by have:=of_decide_eq_false h;omega
  refine zS ?_
  rw [hf,List.drop_eq_nil_of_le hge]
  rfl
def qc2 (x n:Int):Int:=if n < 1 then 0 else x % n
theorem qdd (x n:Int):0≤qc2 x n:=by
 unfold qc2
 split
 ·omega
 ·exact Int.emod_nonneg x (by omega)
theorem qde (x n:Int) (h:1≤n):qc2 x n < n:=by
 unfold qc2
 rw [if_neg (by omega)]
 exact Int.emod_lt_of_pos x (by omega)
theorem qsf (x n:Int) (hn:1≤n):x % n=if x.tmod n < 0 then x.tmod n+n else x.tmod n:=by
 have h2:=Int.emod_nonneg x (show n≠0 by omega)
 have h3:=Int.emod_lt_of_pos x (show 0 < n by omega)
 rw [Int.tmod_eq_emod]
 split<;>split at *<;>omega
theorem qye (x n:Int) (hn:1≤n):-n < x.tmod n∧x.tmod n < n:=by
 have h2:=Int.emod_nonneg x (show n≠0 by omega)
 have h3:=Int.emod_lt_of_pos x (show 0 < n by omega)
 rw [Int.tmod_eq_emod]
 split<;>omega
theorem qhH (x n:Int) (h2:n≤9223372036854775807):PCall Tryz.prog E 88 [int x,int n] (·=int (qc2 x n)):=by
 refine qag mixed Tryz.func88 qjp ?_
 refine zV ?_
 refine br ?_ ?_
 ·intro h
  refine zS ?_
  have:n < 1:=of_decide_eq_true h
  simp [qc2,this]
 ·intro h
  have hn:¬ n < 1:=of_decide_eq_false h
  have hb:=qye x n (by omega)
  have hc:=qsf x n (by omega)
  refine zS ?_
  refine ⟨by omega,?_⟩
  refine qgj (fun fr L=>∃ y,y=x % n∧fr=(.p (int y)::oD (oC (oB (oo::[]))))∧L=[]) ?_ ?_ ?_
  ·intro h1
   have h1:=of_decide_eq_true h1
   refine zS ?_
   refine ⟨qal (by omega) (by omega),qdP (.p (int (x.tmod n+n))::oD (oC (oB (oo::[])))) [] ?_ ?_ ⟨_,by rw [hc,if_pos h1],rfl,rfl⟩⟩
   ·(simp only [ZZ,WW,Zd,reduceCtorEq,zd,ze,zb,zf,za];try trivial)
   ·simp only [ZZ,WW,Zd,reduceCtorEq,zd,ze,zb,zf,za]
  ·intro h1
   have h1:=of_decide_eq_false h1
   refine zS ?_
   refine qdP (.p (int (x.tmod n))::oD (oC (oB (oo::[])))) [] ?_ ?_ ⟨_,by rw [hc,if_neg h1],rfl,rfl⟩
   ·(simp only [ZZ,WW,Zd,reduceCtorEq,zd,ze,zb,zf,za];try trivial)
   ·simp only [ZZ,WW,Zd,reduceCtorEq,zd,ze,zb,zf,za]
  ·rintro fr L ⟨y,rfl,rfl,rfl⟩
   refine zS ?_
   simp [qc2,hn]
def stm (l:List Int) (k:Nat):List PV:=[ints l,int k]
abbrev T:TypeId:=25
theorem qco (l:List Int) (k:Nat) (n:Int) (hk:k≤1000000) (hl:l.length≤9223372036854775807) (h2:n≤9223372036854775807) :
  qeV Tryz.prog E 29 T (stm l k) [int n] (fun x cs'=>∃ y,x=int (qc2 y n)∧cs'=stm l (k+1)):=by
 unfold qeV
 refine qep mixed Tryz.func29 qcY ?_
 simp only [a0,l0,OS.ao,XX,Nat.reduceSub,stm,qbD,ZZ,WW,Zd,reduceCtorEq,zd,ze,zb,zf,za]
 refine ⟨qal (by omega) (by omega),?_⟩
 simp only [ints,ZZ,WW,Zd,reduceCtorEq,zd,ze,zb,zf,za]
 generalize hes:l.map (fun x=>[PV.int IntKind.i64 x])=es
 have hln:es.length=l.length:=by rw [← hes];simp
 have hc:[PV.sl 1 es,int ((k:Int)+1)]=[PV.sl 1 es,int ((k+1:Nat):Int)]:=by simp
 refine br ?_ ?_
 ·intro h
  refine zS ?_
  refine ⟨qal (by omega) (by omega),?_⟩
  refine use1 (qhH _ _ h2) rfl (.inl rfl) ?_
  refine zS ?_
  exact qdH [PV.sl 1 es,int ((k:Int)+1)] rfl ⟨_,rfl,hc⟩
 ·intro h
  have hne:¬ ((es.length:Int)=0):=of_decide_eq_false h
  refine zS ?_
  refine drg0 ?_
  refine zS ?_
  refine ⟨qal (by omega) (by omega),⟨by omega,?_⟩⟩
  refine drg0 ?_
  have hkk:(k:Int)+1 - 1=k:=by omega
  have hrem:(k:Int).tmod (es.length:Int)=((k % es.length:Nat):Int):=by rw [Int.tmod_eq_emod_of_nonneg (by omega)];rfl
  have hquo:(k:Int).tdiv (es.length:Int)=((k / es.length:Nat):Int):=by rw [Int.tdiv_eq_ediv_of_nonneg (by omega)];rfl
  have hq1:k / es.length≤k:=Nat.div_le_self _ _
  have hr1:k % es.length≤k:=Nat.mod_le _ _
  have hr2:k % es.length < es.length:=Nat.mod_lt _ (by omega)
  obtain ⟨x,hx⟩:∃ x,l[k % es.length]?=some x:=⟨_,zg (by omega)⟩
  have hg:es.getD (k % es.length) []=[PV.int .i64 x]:=by rw [← hes];exact qao (by rw [hes];exact hx)
  simp only [ZZ,WW,Zd,reduceCtorEq,zd,ze,zb,zf,za,hkk,hrem,hquo,hg]
  generalize k / es.length=q at *
  generalize k % es.length=r at *
  refine ⟨qal (by omega) (by omega),⟨hne,qal (by omega) (by omega)⟩,⟨by omega,by omega⟩,by omega,?_⟩
  refine use1 (qhH _ _ (by decide)) rfl (.inl rfl) ?_
  have hb1:=qdd x 1073741824
  have hb2:=qde x 1073741824 (by omega)
  have hm:(q:Int) * (7919+(r:Int))≤1000000 * 1007919:=Int.mul_le_mul (by omega) (by omega) (by omega) (by omega)
  have hm0:0≤(q:Int) * (7919+(r:Int)):=Int.mul_nonneg (by omega) (by omega)
  refine zS ?_
  refine ⟨qal (by omega) (by omega),qal (by omega) (by omega),qal (by omega) (by omega),?_⟩
  refine use1 (qhH _ _ h2) rfl (.inl rfl) ?_
  refine zS ?_
  exact qdH [PV.sl 1 es,int ((k:Int)+1)] rfl ⟨_,rfl,hc⟩
theorem qhq (x:Int) (n:Nat) (hn:0 < n):∃ i:Nat,i < n∧qc2 x n=i:=by
 have h0:=qdd x n
 have h1:=qde x n (by omega)
 exact ⟨(qc2 x n).toNat,by omega,by omega⟩
theorem qgo (l:List Int) (k:Nat) (n:Int) (hk:k≤1000000) (hl:l.length≤9223372036854775807) (h2:n≤9223372036854775807) :
  qeV Tryz.prog E 43 T (stm l k) [int n] (fun x cs'=>∃ b,x=.bool b∧cs'=stm l (k+1)):=by
 unfold qeV
 refine qep mixed Tryz.func43 qfK ?_
 refine zV ?_
 refine useS (qco l k n hk hl h2) rfl rfl rfl zE_ ?_
 rintro x cs' ⟨y,rfl,rfl⟩
 refine zS ?_
 exact qdH (stm l (k+1)) rfl ⟨_,rfl,rfl⟩
theorem qr7 (l:List Int) (k:Nat) (lo hi:Int) (hk:k≤1000000) (hl:l.length≤9223372036854775807) (h1:-1000000000≤lo) (h2:lo≤hi) (h3:hi≤1000000000) :
  qeV Tryz.prog E 97 T (stm l k) [int lo,int hi] (fun x cs'=>∃ y,x=int y∧lo≤y∧y≤hi∧cs'=stm l (k+1)):=by
 unfold qeV
 refine qep mixed Tryz.func97 qfl ?_
 refine zV ?_
 refine br (fun h=>absurd (of_decide_eq_true h) (by omega)) ?_
 intro _
 refine zS ?_
 refine ⟨qal (by omega) (by omega),qal (by omega) (by omega),?_⟩
 refine useS (qco l k _ hk hl (by omega)) rfl rfl rfl zE_ ?_
 rintro x cs' ⟨y,rfl,rfl⟩
 have b1:=qdd y (hi - lo+1)
 have b2:=qde y (hi - lo+1) (by omega)
 refine zS ?_
 exact ⟨qal (by omega) (by omega),qdH (stm l (k+1)) rfl ⟨_,rfl,by omega,by omega,rfl⟩⟩
theorem qcM (l:List Int) (k:Nat) (c:List Int) (hk:k≤1000000) (hl:l.length≤9223372036854775807) (h0:0 < c.length) (h1:c.length≤1000000) :
  qeV Tryz.prog E 19 T (stm l k) [ints c] (fun x cs'=>∃ y,x=int y∧y∈c∧cs'=stm l (k+1)):=by
 unfold qeV
 refine qep mixed Tryz.func19 qcX ?_
 refine zV ?_
 simp only [ints,ZZ,WW,Zd,reduceCtorEq,zd,ze,zb,zf,za]
 generalize hes:c.map (fun x=>[PV.int IntKind.i64 x])=es
 have hln:es.length=c.length:=by rw [← hes];simp
 refine useS (qco l k _ hk hl (by omega)) rfl rfl rfl zE_ ?_
 rintro x cs' ⟨y,rfl,rfl⟩
 obtain ⟨i,hi,hy⟩:=qhq y es.length (by omega)
 rw [hy]
 obtain ⟨z,hz⟩:∃ z,c[i]?=some z:=⟨_,zg (by omega)⟩
 have hg:es.getD i []=[PV.int .i64 z]:=by rw [← hes];exact qao hz
 simp only [ZZ,WW,Zd,reduceCtorEq,zd,ze,zb,zf,za,hg]
 exact ⟨⟨by omega,by omega⟩,by omega,qdH (stm l (k+1)) rfl ⟨_,rfl,zm hz,rfl⟩⟩
theorem qgX (l:List Int) (k:Nat) (c:List (List UInt8)) (hk:k≤1000000) (hl:l.length≤9223372036854775807) (h0:0 < c.length) (h1:c.length≤1000000) :
  qeV Tryz.prog E 45 T (stm l k) [strs c] (fun x cs'=>∃ y,x=.str y∧y∈c∧cs'=stm l (k+1)):=by
 unfold qeV
 refine qep mixed Tryz.func45 qeS ?_
 refine zV ?_
 simp only [strs,ZZ,WW,Zd,reduceCtorEq,zd,ze,zb,zf,za]
 generalize hes:c.map (fun x=>[PV.str x])=es
 have hln:es.length=c.length:=by rw [← hes];simp
 refine useS (qco l k _ hk hl (by omega)) rfl rfl rfl zE_ ?_
 rintro x cs' ⟨y,rfl,rfl⟩
 obtain ⟨i,hi,hy⟩:=qhq y es.length (by omega)
 rw [hy]
 obtain ⟨z,hz⟩:∃ z,c[i]?=some z:=⟨_,zg (by omega)⟩
 have hg:es.getD i []=[PV.str z]:=by rw [← hes];exact qao hz
 simp only [ZZ,WW,Zd,reduceCtorEq,zd,ze,zb,zf,za,hg]
 exact ⟨⟨by omega,by omega⟩,by omega,qdH (stm l (k+1)) rfl ⟨_,rfl,zm hz,rfl⟩⟩
end
end Go.Proofs.YtmpdnpljdcincaaGreatDoor
