import Derived.Test.YtehfjlpenlffmaaGreatDoorZ9
import Derived.Lib.ValidLaws
import Derived.Test.YtehfjlpenlffmaaGreatDoorZ8
import Derived.Test.YtehfjlpenlffmaaGreatDoorZ5
set_option linter.unusedVariables false
set_option linter.unusedSimpArgs false
set_option linter.defProp false
namespace Go.Proofs.YtehfjlpenlffmaaGreatDoor
open Go.RowKit
def itF (a1 a2:List UInt8) (a3:Int) (a4:List UInt8) (a5:Int) (a6 a7:List UInt8):Int:=
 if (!keyB a1 || !keyB a2)=true then 5 else if (!inE a3 1 4)=true then 4 else if decide (120 < (a4.length:Int))=true then 2 else
 if (!plainB a4)=true then 3 else if (!inE a5 0 5761439)=true then 1 else if (!decide (a6=[]) && !keyB a6)=true then 5 else
 if decide (a6=a1)=true then 14 else if decide (20000 < (a7.length:Int))=true then 2 else if (!textE a7)=true then 3 else 0
def ItS (x:Itm):Prop:=x.1.length≤1000000∧x.2.1.length≤1000000∧x.2.2.2.1.length≤1000000∧x.2.2.2.2.2.1.length≤1000000∧x.2.2.2.2.2.2.length≤1000000
def itFx (x:Itm):Int:=itF x.1 x.2.1 x.2.2.1 x.2.2.2.1 x.2.2.2.2.1 x.2.2.2.2.2.1 x.2.2.2.2.2.2
theorem CheckItem_ok (x:Itm) (hx:ItS x):PCall Tryz.prog E0 157 [.agg (itC x)] (·=int (itFx x)):=by
 obtain ⟨c1,c2,c4,c6,c7⟩:=hx
 obtain ⟨a1,a2,a3,a4,a5,a6,a7⟩:=x
 unfold itFx
 simp only at *
 refine pcallF mixed Tryz.func157 ck_intake_CheckItem ?_
 simp only [a0,l0,OS.ao,List.map_cons,List.map_nil,List.length_cons,List.length_nil,List.cons_append,List.nil_append,Nat.reduceSub,Nat.reduceAdd,List.replicate_succ,List.replicate_zero,ir_intake_CheckItem,rs_intake_CheckItem,ZZ,WW,Ze,reduceCtorEq,Nat.reduceAdd,Nat.reduceMul,Nat.reduceLeDiff,Nat.reduceLT,Nat.reduceEqDiff]
 simp only [itC,ZZ,WW,Ze,reduceCtorEq,Nat.reduceAdd,Nat.reduceMul,Nat.reduceLeDiff,Nat.reduceLT,Nat.reduceEqDiff]
 refine use1 (Key_ok a1 (by omega)) rfl (.inl rfl) ?_
 simp only [ZZ,WW,Ze,reduceCtorEq,Nat.reduceAdd,Nat.reduceMul,Nat.reduceLeDiff,Nat.reduceLT,Nat.reduceEqDiff]
 refine useG (fun _=>Key_ok a2 (by omega)) rfl (.inl rfl) ?_
 simp only [ZZ,WW,Ze,reduceCtorEq,Nat.reduceAdd,Nat.reduceMul,Nat.reduceLeDiff,Nat.reduceLT,Nat.reduceEqDiff]
 refine ⟨fun h=>by rw [h];rfl,?_⟩
 refine br ?_ ?_
 ·intro h
  simp only [ZZ,WW,Ze,reduceCtorEq,Nat.reduceAdd,Nat.reduceMul,Nat.reduceLeDiff,Nat.reduceLT,Nat.reduceEqDiff]
  rw [itF,if_pos h]
 intro h
 rw [itF,if_neg (by rw [h];decide)]
 clear h
 simp only [ZZ,WW,Ze,reduceCtorEq,Nat.reduceAdd,Nat.reduceMul,Nat.reduceLeDiff,Nat.reduceLT,Nat.reduceEqDiff]
 refine use1 (kindWord_ok a3) rfl (.inl rfl) ?_
 simp only [ZZ,WW,Ze,reduceCtorEq,Nat.reduceAdd,Nat.reduceMul,Nat.reduceLeDiff,Nat.reduceLT,Nat.reduceEqDiff]
 rw [kw_nil]
 refine br ?_ ?_
 ·intro h
  simp only [ZZ,WW,Ze,reduceCtorEq,Nat.reduceAdd,Nat.reduceMul,Nat.reduceLeDiff,Nat.reduceLT,Nat.reduceEqDiff]
  rw [if_pos h]
 intro h
 rw [if_neg (by rw [h];decide)]
 clear h
 simp only [ZZ,WW,Ze,reduceCtorEq,Nat.reduceAdd,Nat.reduceMul,Nat.reduceLeDiff,Nat.reduceLT,Nat.reduceEqDiff]
 refine br ?_ ?_
 ·intro h
  simp only [ZZ,WW,Ze,reduceCtorEq,Nat.reduceAdd,Nat.reduceMul,Nat.reduceLeDiff,Nat.reduceLT,Nat.reduceEqDiff]
  rw [if_pos h]
 intro h
 rw [if_neg (by rw [h];decide)]
 clear h
 simp only [ZZ,WW,Ze,reduceCtorEq,Nat.reduceAdd,Nat.reduceMul,Nat.reduceLeDiff,Nat.reduceLT,Nat.reduceEqDiff]
 refine use1 (Plain_ok a4 (by omega)) rfl (.inl rfl) ?_
 simp only [ZZ,WW,Ze,reduceCtorEq,Nat.reduceAdd,Nat.reduceMul,Nat.reduceLeDiff,Nat.reduceLT,Nat.reduceEqDiff]
 refine br ?_ ?_
 ·intro h
  simp only [ZZ,WW,Ze,reduceCtorEq,Nat.reduceAdd,Nat.reduceMul,Nat.reduceLeDiff,Nat.reduceLT,Nat.reduceEqDiff]
  rw [if_pos h]
 intro h
 rw [if_neg (by rw [h];decide)]
 clear h
 simp only [ZZ,WW,Ze,reduceCtorEq,Nat.reduceAdd,Nat.reduceMul,Nat.reduceLeDiff,Nat.reduceLT,Nat.reduceEqDiff]
 refine use1 (Moment_ok a5) rfl (.inl rfl) ?_
 simp only [ZZ,WW,Ze,reduceCtorEq,Nat.reduceAdd,Nat.reduceMul,Nat.reduceLeDiff,Nat.reduceLT,Nat.reduceEqDiff]
 refine br ?_ ?_
 ·intro h
  simp only [ZZ,WW,Ze,reduceCtorEq,Nat.reduceAdd,Nat.reduceMul,Nat.reduceLeDiff,Nat.reduceLT,Nat.reduceEqDiff]
  rw [if_pos h]
 intro h
 rw [if_neg (by rw [h];decide)]
 clear h
 simp only [ZZ,WW,Ze,reduceCtorEq,Nat.reduceAdd,Nat.reduceMul,Nat.reduceLeDiff,Nat.reduceLT,Nat.reduceEqDiff]
 refine useG (fun _=>Key_ok a6 (by omega)) rfl (.inl rfl) ?_
 simp only [ZZ,WW,Ze,reduceCtorEq,Nat.reduceAdd,Nat.reduceMul,Nat.reduceLeDiff,Nat.reduceLT,Nat.reduceEqDiff]
 refine br ?_ ?_
 ·intro h
  simp only [ZZ,WW,Ze,reduceCtorEq,Nat.reduceAdd,Nat.reduceMul,Nat.reduceLeDiff,Nat.reduceLT,Nat.reduceEqDiff]
  rw [if_pos h]
 intro h
 rw [if_neg (by rw [h];decide)]
 clear h
 simp only [ZZ,WW,Ze,reduceCtorEq,Nat.reduceAdd,Nat.reduceMul,Nat.reduceLeDiff,Nat.reduceLT,Nat.reduceEqDiff]
 refine br ?_ ?_
 ·intro h
  simp only [ZZ,WW,Ze,reduceCtorEq,Nat.reduceAdd,Nat.reduceMul,Nat.reduceLeDiff,Nat.reduceLT,Nat.reduceEqDiff]
  rw [if_pos h]
 intro h
 rw [if_neg (by rw [h];decide)]
 clear h
 simp only [ZZ,WW,Ze,reduceCtorEq,Nat.reduceAdd,Nat.reduceMul,Nat.reduceLeDiff,Nat.reduceLT,Nat.reduceEqDiff]
 refine br ?_ ?_
 ·intro h
  simp only [ZZ,WW,Ze,reduceCtorEq,Nat.reduceAdd,Nat.reduceMul,Nat.reduceLeDiff,Nat.reduceLT,Nat.reduceEqDiff]
  rw [if_pos h]
 intro h
 rw [if_neg (by rw [h];decide)]
 clear h
 simp only [ZZ,WW,Ze,reduceCtorEq,Nat.reduceAdd,Nat.reduceMul,Nat.reduceLeDiff,Nat.reduceLT,Nat.reduceEqDiff]
 refine use1 (Text_ok a7 (by omega)) rfl (.inl rfl) ?_
 simp only [ZZ,WW,Ze,reduceCtorEq,Nat.reduceAdd,Nat.reduceMul,Nat.reduceLeDiff,Nat.reduceLT,Nat.reduceEqDiff]
 refine br ?_ ?_
 ·intro h
  simp only [ZZ,WW,Ze,reduceCtorEq,Nat.reduceAdd,Nat.reduceMul,Nat.reduceLeDiff,Nat.reduceLT,Nat.reduceEqDiff]
  rw [if_pos h]
 intro h
 rw [if_neg (by rw [h];decide)]
 simp only [ZZ,WW,Ze,reduceCtorEq,Nat.reduceAdd,Nat.reduceMul,Nat.reduceLeDiff,Nat.reduceLT,Nat.reduceEqDiff]
theorem ItemFault_ok (x:Itm) (hx:ItS x):PCall Tryz.prog E0 150 [.agg (itC x)] (·=int (itFx x)):=by
 obtain ⟨c1,c2,c4,c6,c7⟩:=hx
 obtain ⟨a1,a2,a3,a4,a5,a6,a7⟩:=x
 unfold itFx
 simp only at *
 refine pcallF mixed Tryz.func150 ck_chaseref2_ItemFault ?_
 simp only [a0,l0,OS.ao,List.map_cons,List.map_nil,List.length_cons,List.length_nil,List.cons_append,List.nil_append,Nat.reduceSub,Nat.reduceAdd,List.replicate_succ,List.replicate_zero,ir_chaseref2_ItemFault,rs_chaseref2_ItemFault,ZZ,WW,Ze,reduceCtorEq,Nat.reduceAdd,Nat.reduceMul,Nat.reduceLeDiff,Nat.reduceLT,Nat.reduceEqDiff]
 simp only [itC,ZZ,WW,Ze,reduceCtorEq,Nat.reduceAdd,Nat.reduceMul,Nat.reduceLeDiff,Nat.reduceLT,Nat.reduceEqDiff]
 refine use1 (Key2_ok a1 (by omega)) rfl (.inl rfl) ?_
 simp only [ZZ,WW,Ze,reduceCtorEq,Nat.reduceAdd,Nat.reduceMul,Nat.reduceLeDiff,Nat.reduceLT,Nat.reduceEqDiff]
 refine useG (fun _=>Key2_ok a2 (by omega)) rfl (.inl rfl) ?_
 simp only [ZZ,WW,Ze,reduceCtorEq,Nat.reduceAdd,Nat.reduceMul,Nat.reduceLeDiff,Nat.reduceLT,Nat.reduceEqDiff]
 refine ⟨fun h=>by rw [h];rfl,?_⟩
 refine br ?_ ?_
 ·intro h
  simp only [ZZ,WW,Ze,reduceCtorEq,Nat.reduceAdd,Nat.reduceMul,Nat.reduceLeDiff,Nat.reduceLT,Nat.reduceEqDiff]
  rw [itF,if_pos h]
 intro h
 rw [itF,if_neg (by rw [h];decide)]
 clear h
 simp only [ZZ,WW,Ze,reduceCtorEq,Nat.reduceAdd,Nat.reduceMul,Nat.reduceLeDiff,Nat.reduceLT,Nat.reduceEqDiff]
 refine use1 (in2_ok a3 1 4) rfl (.inl rfl) ?_
 simp only [ZZ,WW,Ze,reduceCtorEq,Nat.reduceAdd,Nat.reduceMul,Nat.reduceLeDiff,Nat.reduceLT,Nat.reduceEqDiff]
 refine br ?_ ?_
 ·intro h
  simp only [ZZ,WW,Ze,reduceCtorEq,Nat.reduceAdd,Nat.reduceMul,Nat.reduceLeDiff,Nat.reduceLT,Nat.reduceEqDiff]
  rw [if_pos h]
 intro h
 rw [if_neg (by rw [h];decide)]
 clear h
 simp only [ZZ,WW,Ze,reduceCtorEq,Nat.reduceAdd,Nat.reduceMul,Nat.reduceLeDiff,Nat.reduceLT,Nat.reduceEqDiff]
 refine br ?_ ?_
 ·intro h
  simp only [ZZ,WW,Ze,reduceCtorEq,Nat.reduceAdd,Nat.reduceMul,Nat.reduceLeDiff,Nat.reduceLT,Nat.reduceEqDiff]
  rw [if_pos h]
 intro h
 rw [if_neg (by rw [h];decide)]
 clear h
 simp only [ZZ,WW,Ze,reduceCtorEq,Nat.reduceAdd,Nat.reduceMul,Nat.reduceLeDiff,Nat.reduceLT,Nat.reduceEqDiff]
 refine use1 (Plain2_ok a4 (by omega)) rfl (.inl rfl) ?_
 simp only [ZZ,WW,Ze,reduceCtorEq,Nat.reduceAdd,Nat.reduceMul,Nat.reduceLeDiff,Nat.reduceLT,Nat.reduceEqDiff]
 refine br ?_ ?_
 ·intro h
  simp only [ZZ,WW,Ze,reduceCtorEq,Nat.reduceAdd,Nat.reduceMul,Nat.reduceLeDiff,Nat.reduceLT,Nat.reduceEqDiff]
  rw [if_pos h]
 intro h
 rw [if_neg (by rw [h];decide)]
 clear h
 simp only [ZZ,WW,Ze,reduceCtorEq,Nat.reduceAdd,Nat.reduceMul,Nat.reduceLeDiff,Nat.reduceLT,Nat.reduceEqDiff]
 refine use1 (in2_ok a5 0 5761439) rfl (.inl rfl) ?_
 simp only [ZZ,WW,Ze,reduceCtorEq,Nat.reduceAdd,Nat.reduceMul,Nat.reduceLeDiff,Nat.reduceLT,Nat.reduceEqDiff]
 refine br ?_ ?_
 ·intro h
  simp only [ZZ,WW,Ze,reduceCtorEq,Nat.reduceAdd,Nat.reduceMul,Nat.reduceLeDiff,Nat.reduceLT,Nat.reduceEqDiff]
  rw [if_pos h]
 intro h
 rw [if_neg (by rw [h];decide)]
 clear h
 simp only [ZZ,WW,Ze,reduceCtorEq,Nat.reduceAdd,Nat.reduceMul,Nat.reduceLeDiff,Nat.reduceLT,Nat.reduceEqDiff]
 refine useG (fun _=>Key2_ok a6 (by omega)) rfl (.inl rfl) ?_
 simp only [ZZ,WW,Ze,reduceCtorEq,Nat.reduceAdd,Nat.reduceMul,Nat.reduceLeDiff,Nat.reduceLT,Nat.reduceEqDiff]
 refine br ?_ ?_
 ·intro h
  simp only [ZZ,WW,Ze,reduceCtorEq,Nat.reduceAdd,Nat.reduceMul,Nat.reduceLeDiff,Nat.reduceLT,Nat.reduceEqDiff]
  rw [if_pos h]
 intro h
 rw [if_neg (by rw [h];decide)]
 clear h
 simp only [ZZ,WW,Ze,reduceCtorEq,Nat.reduceAdd,Nat.reduceMul,Nat.reduceLeDiff,Nat.reduceLT,Nat.reduceEqDiff]
 refine br ?_ ?_
 ·intro h
  simp only [ZZ,WW,Ze,reduceCtorEq,Nat.reduceAdd,Nat.reduceMul,Nat.reduceLeDiff,Nat.reduceLT,Nat.reduceEqDiff]
  rw [if_pos h]
 intro h
 rw [if_neg (by rw [h];decide)]
 clear h
 simp only [ZZ,WW,Ze,reduceCtorEq,Nat.reduceAdd,Nat.reduceMul,Nat.reduceLeDiff,Nat.reduceLT,Nat.reduceEqDiff]
 refine br ?_ ?_
 ·intro h
  simp only [ZZ,WW,Ze,reduceCtorEq,Nat.reduceAdd,Nat.reduceMul,Nat.reduceLeDiff,Nat.reduceLT,Nat.reduceEqDiff]
  rw [if_pos h]
 intro h
 rw [if_neg (by rw [h];decide)]
 clear h
 simp only [ZZ,WW,Ze,reduceCtorEq,Nat.reduceAdd,Nat.reduceMul,Nat.reduceLeDiff,Nat.reduceLT,Nat.reduceEqDiff]
 refine use1 (IsText2_ok a7 (by omega)) rfl (.inl rfl) ?_
 simp only [ZZ,WW,Ze,reduceCtorEq,Nat.reduceAdd,Nat.reduceMul,Nat.reduceLeDiff,Nat.reduceLT,Nat.reduceEqDiff]
 refine br ?_ ?_
 ·intro h
  simp only [ZZ,WW,Ze,reduceCtorEq,Nat.reduceAdd,Nat.reduceMul,Nat.reduceLeDiff,Nat.reduceLT,Nat.reduceEqDiff]
  rw [if_pos h]
 intro h
 rw [if_neg (by rw [h];decide)]
 simp only [ZZ,WW,Ze,reduceCtorEq,Nat.reduceAdd,Nat.reduceMul,Nat.reduceLeDiff,Nat.reduceLT,Nat.reduceEqDiff]
def okTx:List UInt8→Bool
 |[]=>true
 |[c]=>decide (c.toNat < 128) && !badB true c
 |c :: d :: r=>if c=195∧d=169 then okTx r else (decide (c.toNat < 128) && !badB true c) && okTx (d :: r)
theorem okTx_e (r:List UInt8):okTx (195 :: 169 :: r)=okTx r:=by rw [okTx];simp
theorem okTx_c (c:UInt8) (r:List UInt8) (h:c.toNat < 128):okTx (c :: r)=(!badB true c && okTx r):=by
 have h1:decide (c.toNat < 128)=true:=by simpa using h
 cases r with
 |nil=>rw [okTx,okTx,h1,Bool.true_and,Bool.and_true]
 |cons d r=>
  rw [okTx,if_neg (by rintro ⟨rfl,_⟩;exact absurd h (by decide)),h1,Bool.true_and]
theorem okTx_cases {s:List UInt8} (h:okTx s=true):s=[]∨(∃ r,s=195 :: 169 :: r∧okTx r=true)∨∃ c r,s=c :: r∧c.toNat < 128∧badB true c=false∧okTx r=true:=by
 match s,h with
 |[],_=>exact .inl rfl
 |[c],h=>
  rw [okTx,Bool.and_eq_true,decide_eq_true_eq] at h
  exact .inr (.inr ⟨c,[],rfl,h.1,by simpa using h.2,rfl⟩)
 |c :: d :: r,h=>
  rw [okTx] at h
  split at h
  ·rename_i e
   obtain ⟨rfl,rfl⟩:=e
   exact .inr (.inl ⟨r,rfl,h⟩)
  ·rw [Bool.and_eq_true,Bool.and_eq_true,decide_eq_true_eq] at h
   exact .inr (.inr ⟨c,d :: r,rfl,h.1.1,by simpa using h.1.2,h.2⟩)
theorem okTx_app:∀ (n:Nat) (a b:List UInt8),a.length≤n→okTx a=true→okTx (a++b)=okTx b:=by
 intro n
 induction n with
 |zero=>
  intro a b hn _
  have:a=[]:=List.eq_nil_of_length_eq_zero (by omega)
  subst this
  rfl
 |succ n ih=>
  intro a b hn h
  rcases okTx_cases h with rfl|⟨r,rfl,hr⟩|⟨c,r,rfl,hc,hb,hr⟩
  ·rfl
  ·show okTx (195 :: 169 :: (r++b))=okTx b
   rw [okTx_e]
   exact ih r b (by simp only [List.length_cons] at hn;omega) hr
  ·show okTx (c :: (r++b))=okTx b
   rw [okTx_c c _ hc,hb,ih r b (by simp only [List.length_cons] at hn;omega) hr]
   rfl
theorem okTx_two {a b:List UInt8} (ha:okTx a=true) (hb:okTx b=true):okTx (a++b)=true:=by rw [okTx_app _ a b (Nat.le_refl _) ha,hb]
theorem okTx_rep {s:List UInt8} (h:okTx s=true):∀ n,okTx (Lib.repeatL s n)=true
 |0=>rfl
 |n+1=>okTx_two h (okTx_rep h n)
theorem dec_e (r:List UInt8):Lib.decodeL (195 :: 169 :: r)=(233,2):=by
 rw [Lib.decodeL_N]
 simp only [List.length_cons,List.getD_cons_zero,List.getD_cons_succ]
 unfold Lib.decodeN
 rw [if_neg (by decide),if_pos ⟨by decide,by omega,by decide⟩,if_pos (by decide)]
 rfl
theorem okTx_vis:∀ (n:Nat) (s:List UInt8),s.length≤n→okTx s=true→visE s true=true:=by
 intro n
 induction n with
 |zero=>
  intro s hn _
  have:s=[]:=List.eq_nil_of_length_eq_zero (by omega)
  subst this
  rfl
 |succ n ih=>
  intro s hn h
  rcases okTx_cases h with rfl|⟨r,rfl,hr⟩|⟨c,r,rfl,hc,hb,hr⟩
  ·rfl
  ·have:=ih r (by simp only [List.length_cons] at hn;omega) hr
   unfold visE at *
   rw [Bool.and_eq_true] at *
   refine ⟨?_,?_⟩
   ·rw [List.all_cons,List.all_cons,this.1]
    decide +kernel
   ·rw [Lib.validD_step _ (by simp),dec_e]
    simpa using this.2
  ·have:=ih r (by simp only [List.length_cons] at hn;omega) hr
   unfold visE at *
   rw [Bool.and_eq_true] at *
   refine ⟨?_,?_⟩
   ·rw [List.all_cons,this.1,hb]
    rfl
   ·rw [Lib.validD_cons c r hc]
    exact this.2
def pid (i:Nat):List UInt8:=[105,UInt8.ofNat (97+i)]
theorem pid_enc:∀ i:Fin 26,105 :: (Utf8.encode (IntKind.i32.wrap (97+((i.val:Nat):Int)))).data.toList=pid i.val:=by decide +kernel
theorem pid_key:∀ i:Fin 26,keyB (pid i.val)=true:=by decide +kernel
theorem pid_inj {i j:Nat} (hi:i < 26) (hj:j < 26) (h:pid i=pid j):i=j:=by
 have:∀ (i j:Fin 26),pid i.val=pid j.val→i=j:=by decide +kernel
 exact congrArg Fin.val (this ⟨i,hi⟩ ⟨j,hj⟩ h)
structure Pap (il:List Itm) (i:Nat) (x:Itm):Prop where
 b1:x.1=pid i
 b2:x.2.1=[97,110,110]∨x.2.1=[98,111]
 b3:1≤x.2.2.1∧x.2.2.1≤4
 b4:x.2.2.2.1=[]∨x.2.2.2.1=[120]
 b5:0≤x.2.2.2.2.1∧x.2.2.2.2.1≤1440
 b6:x.2.2.2.2.2.1=[]∨∃ j y,j < i∧il[j]?=some y∧y.2.2.2.2.2.1=[]∧(y.2.2.1=1∨y.2.2.1=3)∧x.2.2.2.2.2.1=pid j
 b7:x.2.2.2.2.2.2.length≤600∧okTx x.2.2.2.2.2.2=true∧(x.2.2.2.2.2.2=[]∨sufE x.2.2.2.2.2.2 [10]=true)
def PapOk (il:List Itm):Prop:=il.length≤20∧∀ i x,il[i]?=some x→Pap il i x
theorem Pap.right {il:List Itm} {i:Nat} {x:Itm} (h:Pap il i x) (hi:i < 20):itFx x=0∧ItS x:=by
 obtain ⟨a1,a2,a3,a4,a5,a6,a7⟩:=x
 obtain ⟨b1,b2,b3,b4,b5,b6,b7⟩:=h
 simp only at b1 b2 b3 b4 b5 b6 b7
 have k1:keyB a1=true:=by rw [b1];exact pid_key ⟨i,by omega⟩
 have k2:keyB a2=true:=by rcases b2 with rfl|rfl<;>decide +kernel
 have k3:inE a3 1 4=true:=by simp [inE];omega
 have k4:plainB a4=true∧a4.length≤1:=by rcases b4 with rfl|rfl<;>exact ⟨by decide +kernel,by decide⟩
 have k5:inE a5 0 5761439=true:=by simp [inE];omega
 have k6:(!decide (a6=[]) && !keyB a6)=false∧¬ a6=a1∧a6.length≤2:=by
  rcases b6 with rfl|⟨j,y,hj,_,_,_,rfl⟩
  ·exact ⟨rfl,by rw [b1];simp [pid],by simp⟩
  ·refine ⟨by rw [pid_key ⟨j,by omega⟩];simp,?_,by simp [pid]⟩
   rw [b1]
   intro e
   have:=pid_inj (by omega) (by omega) e
   omega
 have k7:textE a7=true:=by
  rw [textE,okTx_vis _ _ (Nat.le_refl _) b7.2.1]
  rcases b7.2.2 with h|h
  ·rw [h];rfl
  ·rw [h];simp
 refine ⟨?_,?_⟩
 ·simp only [itFx]
  rw [itF,k1,k2,k3,k4.1,k5,k6.1,k7,if_neg (by decide),if_neg (by decide),if_neg (by simp;omega),if_neg (by decide),if_neg (by decide),if_neg (by decide),if_neg (by simpa using k6.2.1),if_neg (by simp;omega),if_neg (by decide)]
 ·refine ⟨?_,?_,?_,?_,?_⟩
  ·simp only;rw [b1];simp [pid]
  ·simp only;rcases b2 with rfl|rfl<;>simp
  ·simp only;omega
  ·simp only;omega
  ·simp only;omega
theorem suf10_end (a:List UInt8):sufE (a++[10]) [10]=true:=by
 unfold sufE
 have e3:(a++[10]).drop ((a++[10]).length - ([10]:List UInt8).length)=[10]:=by simp
 rw [e3]
 simp
 omega
theorem suf10_ex {b:List UInt8} (h:sufE b [10]=true):∃ t,b=t++[10]:=by
 unfold sufE at h
 rw [Bool.and_eq_true,decide_eq_true_eq,decide_eq_true_eq] at h
 exact ⟨b.take (b.length - ([10]:List UInt8).length),by conv=>lhs;rw [← List.take_append_drop (b.length - ([10]:List UInt8).length) b,h.2]⟩
theorem rep_suf (s:List UInt8):∀ n,Lib.repeatL (s++[10]) n=[]∨sufE (Lib.repeatL (s++[10]) n) [10]=true
 |0=>.inl rfl
 |n+1=>by
  rcases rep_suf s n with h|h
  ·refine .inr ?_
   show sufE ((s++[10])++Lib.repeatL (s++[10]) n) [10]=true
   rw [h,List.append_nil]
   exact suf10_end s
  ·obtain ⟨t,ht⟩:=suf10_ex h
   refine .inr ?_
   show sufE ((s++[10])++Lib.repeatL (s++[10]) n) [10]=true
   rw [ht,← List.append_assoc]
   exact suf10_end _
theorem Pap.more {il:List Itm} {i:Nat} {x z:Itm} (h:Pap il i x):Pap (il++[z]) i x:=by
 obtain ⟨b1,b2,b3,b4,b5,b6,b7⟩:=h
 refine ⟨b1,b2,b3,b4,b5,?_,b7⟩
 rcases b6 with h|⟨j,y,hj,hy,h1,h2,h3⟩
 ·exact .inl h
 ·exact .inr ⟨j,y,hj,by rw [List.getElem?_append_left (List.getElem?_eq_some_iff.1 hy).1];exact hy,h1,h2,h3⟩
theorem papAll {il:List Itm} {z:Itm} (h:∀ j x,il[j]?=some x→Pap il j x) (hz:Pap il il.length z):∀ j x,(il++[z])[j]?=some x→Pap (il++[z]) j x:=by
 intro j x hx
 by_cases hj:j < il.length
 ·rw [List.getElem?_append_left hj] at hx
  exact (h j x hx).more
 ·rw [List.getElem?_append_right (by omega)] at hx
  have h0:j - il.length=0:=by
   cases hq:j - il.length with
   |zero=>rfl
   |succ q=>rw [hq] at hx;simp at hx
  rw [h0] at hx
  have hj2:j=il.length:=by omega
  subst hj2
  simp only [List.getElem?_cons_zero,Option.some.injEq] at hx
  subst hx
  exact hz.more
section
variable {E:Envt}
set_option maxHeartbeats 8000000 in
set_option maxRecDepth 100000 in
theorem PapersX_ok (l:List Int) (k:Nat) (n:Nat) (hk:k≤900000) (hl:l.length≤9223372036854775807) (hn:n≤20) :
  SCall Tryz.prog E 8 T (stm l k) [int (n:Nat)] (fun x cs'=>∃ il k',x=.sl 7 (itE il)∧il.length≤n∧PapOk il∧cs'=stm l k'∧k'≤k+1+20 * n):=by
 unfold SCall
 refine gcallP mixed Tryz.func8 ck_chasemake_Stream_Papers ?_
 simp only [a0,l0,OS.ao,List.map_cons,List.map_nil,List.length_cons,List.length_nil,List.cons_append,List.nil_append,Nat.reduceSub,Nat.reduceAdd,List.replicate_succ,List.replicate_zero,ir_chasemake_Stream_Papers,rs_chasemake_Stream_Papers,ZZ,WW,Ze,reduceCtorEq,Nat.reduceAdd,Nat.reduceMul,Nat.reduceLeDiff,Nat.reduceLT,Nat.reduceEqDiff]
 ((repeat' (with_reducible apply And.intro))<;>try ((exact sc_)))
 refine useS (Next_ok l k _ (by omega) hl (by omega)) rfl rfl rfl zE_ ?_
 rintro x cs' ⟨y,rfl,rfl⟩
 have b1:=below_lo y ((n:Nat)+1)
 have b2:=below_hi y ((n:Nat)+1) (by omega)
 obtain ⟨m,hm⟩:∃ m:Nat,below y ((n:Nat)+1)=(m:Nat):=⟨(below y ((n:Nat)+1)).toNat,by omega⟩
 rw [hm] at b1 b2 ⊢
 clear hm
 simp only [ZZ,WW,Ze,reduceCtorEq,Nat.reduceAdd,Nat.reduceMul,Nat.reduceLeDiff,Nat.reduceLT,Nat.reduceEqDiff]
 have hR0:([]:List (List PV))=itE []:=rfl
 rw [hR0]
 refine loop_intro (fun n fr L=>∃ (i:Nat) (k':Nat) (il:List Itm),i≤m∧n=m - i∧(k'≤k+1+20 * i)∧(il.length=i)∧(∀ j x,il[j]?=some x→Pap il j x)∧fr=[.adr (.b 0) 0,oo,oo,oo,oo,.row (.l 5),oo,oo,oo,oo,oo,oo,.p (int (m:Nat)),.p (int (i:Nat)),oo,oo,oo,oo,oo,oo,oo,oo,oo,oo,oo,oo,oo,oo,oo,oo,oo,oo,oo,oo,oo,oo,oo,oo,oo,oo,oo,oo,oo,oo,oo,oo,oo,oo,oo,oo,oo,oo,oo,oo,oo,oo,oo,oo,oo,oo,oo,oo,oo,oo,oo,oo,oo,oo,oo,oo,oo,oo,oo,oo,oo,oo,oo,oo,oo,oo,oo,oo,oo,oo,oo,oo,oo,oo,oo,oo,oo,oo,oo,oo]∧L=[(.b 0,.box ((stm l k').map .p) T),(.l 5,.row (itE il) tItem 7 true)]) (m) [.adr (.b 0) 0,oo,oo,oo,oo,.row (.l 5),oo,oo,oo,oo,oo,oo,.p (int (m:Nat)),.p (int (0:Nat)),oo,oo,oo,oo,oo,oo,oo,oo,oo,oo,oo,oo,oo,oo,oo,oo,oo,oo,oo,oo,oo,oo,oo,oo,oo,oo,oo,oo,oo,oo,oo,oo,oo,oo,oo,oo,oo,oo,oo,oo,oo,oo,oo,oo,oo,oo,oo,oo,oo,oo,oo,oo,oo,oo,oo,oo,oo,oo,oo,oo,oo,oo,oo,oo,oo,oo,oo,oo,oo,oo,oo,oo,oo,oo,oo,oo,oo,oo,oo,oo] [(.b 0,.box ((stm l (k+1)).map .p) T),(.l 5,.row (itE []) tItem 7 true)] (by (simp only [ZZ,WW,Ze,reduceCtorEq,Nat.reduceAdd,Nat.reduceMul,Nat.reduceLeDiff,Nat.reduceLT,Nat.reduceEqDiff];try trivial)) (by (simp only [ZZ,WW,Ze,reduceCtorEq,Nat.reduceAdd,Nat.reduceMul,Nat.reduceLeDiff,Nat.reduceLT,Nat.reduceEqDiff];try trivial)) ⟨0,k+1,[],by omega,by omega,by omega,rfl,(fun j x h=>by simp at h),rfl,rfl⟩ ?_
 rintro n fr L ⟨i,k',il,hi,rfl,hk',hil,hib,rfl,rfl⟩
 simp only [ir_chasemake_Stream_Papers_L0,ZZ,WW,Ze,reduceCtorEq,Nat.reduceAdd,Nat.reduceMul,Nat.reduceLeDiff,Nat.reduceLT,Nat.reduceEqDiff]
 refine br ?_ ?_
 ·intro h
  have hlt:i < m:=by have:=of_decide_eq_true h;omega
  have hE4:=encT_le (IntKind.i32.wrap (97+((i:Nat):Int)))
  have hEp:=pid_enc ⟨i,by omega⟩
  simp only at hEp
  obtain ⟨id,hid,hidl⟩:∃ id,id=105 :: (Utf8.encode (IntKind.i32.wrap (97+((i:Nat):Int)))).data.toList∧id=pid i:=⟨_,rfl,hEp⟩
  simp only [ZZ,WW,Ze,reduceCtorEq,Nat.reduceAdd,Nat.reduceMul,Nat.reduceLeDiff,Nat.reduceLT,Nat.reduceEqDiff]
  ((repeat' (with_reducible apply And.intro))<;>try ((exact sc_)))
  rw [← hid]
  clear hid hE4 hEp
  refine useS (one_ok l k' [[97,110,110],[98,111]] (by omega) hl (by simp) (by simp)) rfl rfl rfl zE_ ?_
  rintro x cs' ⟨cu,rfl,hcu,rfl⟩
  have hcu2:cu=[97,110,110]∨cu=[98,111]:=by simpa using hcu
  simp only [ZZ,WW,Ze,reduceCtorEq,Nat.reduceAdd,Nat.reduceMul,Nat.reduceLeDiff,Nat.reduceLT,Nat.reduceEqDiff]
  refine useS (Pick_ok l (k'+1) [1,3,2,4] (by omega) hl (by simp) (by simp)) rfl rfl rfl zE_ ?_
  rintro x cs' ⟨kd,rfl,hkd,rfl⟩
  have hkd2:1≤kd∧kd≤4:=by simp at hkd;omega
  simp only [ZZ,WW,Ze,reduceCtorEq,Nat.reduceAdd,Nat.reduceMul,Nat.reduceLeDiff,Nat.reduceLT,Nat.reduceEqDiff]
  refine useS (Pick_ok l (k'+1+1) [0,5,5,40,1440] (by omega) hl (by simp) (by simp)) rfl rfl rfl zE_ ?_
  rintro x cs' ⟨at_,rfl,hat,rfl⟩
  have hat2:0≤at_∧at_≤1440:=by simp at hat;omega
  simp only [ZZ,WW,Ze,reduceCtorEq,Nat.reduceAdd,Nat.reduceMul,Nat.reduceLeDiff,Nat.reduceLT,Nat.reduceEqDiff]
  refine useS (one_ok l (k'+1+1+1) [[],[120]] (by omega) hl (by simp) (by simp)) rfl rfl rfl zE_ ?_
  rintro x cs' ⟨nm,rfl,hnm,rfl⟩
  have hnm2:nm=[]∨nm=[120]:=by simpa using hnm
  clear hcu hkd hat hnm
  simp only [ZZ,WW,Ze,reduceCtorEq,Nat.reduceAdd,Nat.reduceMul,Nat.reduceLeDiff,Nat.reduceLT,Nat.reduceEqDiff]
  refine useS (Next_ok l (k'+1+1+1+1) 6 (by omega) hl (by omega)) rfl rfl rfl zE_ ?_
  rintro x cs' ⟨y,rfl,rfl⟩
  obtain ⟨c,hc,hcy⟩:=below_idx y 6 (by omega)
  have hcy:below y 6=(c:Nat):=hcy
  rw [hcy]
  clear hcy
  simp only [ZZ,WW,Ze,reduceCtorEq,Nat.reduceAdd,Nat.reduceMul,Nat.reduceLeDiff,Nat.reduceLT,Nat.reduceEqDiff]
  refine loop_intro (fun n fr L=>∃ (j:Nat) (k2:Nat) (t:List UInt8),j≤c∧n=c - j∧(k2≤k'+5+2 * j)∧(t.length≤100 * j)∧(okTx t=true)∧(t=[]∨sufE t [10]=true)∧fr=[.adr (.b 0) 0,oo,oo,oo,oo,.row (.l 5),.p (int (i:Nat)),.adr (.l 7) 0,oo,oo,oo,oo,.p (int (m:Nat)),.p (int (i:Nat)),oo,oo,oo,oo,oo,oo,oo,oo,oo,oo,oo,oo,oo,oo,oo,oo,oo,oo,oo,oo,oo,.p (int (c:Nat)),.p (int (j:Nat)),oo,oo,oo,oo,oo,oo,oo,oo,oo,oo,oo,oo,oo,oo,oo,oo,oo,oo,oo,oo,oo,oo,oo,oo,oo,oo,oo,oo,oo,oo,oo,oo,oo,oo,oo,oo,oo,oo,oo,oo,oo,oo,oo,oo,oo,oo,oo,oo,oo,oo,oo,oo,oo,oo,oo,oo,oo]∧L=[(.b 0,.box ((stm l k2).map .p) T),(.l 5,.row (itE il) tItem 7 true),(.l 7,.box [.p (.str id),.p (.str cu),.p (int kd),.p (.str nm),.p (int at_),.p (.str []),.p (.str t)] tItem)]) (c) [.adr (.b 0) 0,oo,oo,oo,oo,.row (.l 5),.p (int (i:Nat)),.adr (.l 7) 0,oo,oo,oo,oo,.p (int (m:Nat)),.p (int (i:Nat)),oo,oo,oo,oo,oo,oo,oo,oo,oo,oo,oo,oo,oo,oo,oo,oo,oo,oo,oo,oo,oo,.p (int (c:Nat)),.p (int (0:Nat)),oo,oo,oo,oo,oo,oo,oo,oo,oo,oo,oo,oo,oo,oo,oo,oo,oo,oo,oo,oo,oo,oo,oo,oo,oo,oo,oo,oo,oo,oo,oo,oo,oo,oo,oo,oo,oo,oo,oo,oo,oo,oo,oo,oo,oo,oo,oo,oo,oo,oo,oo,oo,oo,oo,oo,oo,oo] [(.b 0,.box ((stm l (k'+1+1+1+1+1)).map .p) T),(.l 5,.row (itE il) tItem 7 true),(.l 7,.box [.p (.str id),.p (.str cu),.p (int kd),.p (.str nm),.p (int at_),.p (.str []),.p (.str [])] tItem)] (by (simp only [ZZ,WW,Ze,reduceCtorEq,Nat.reduceAdd,Nat.reduceMul,Nat.reduceLeDiff,Nat.reduceLT,Nat.reduceEqDiff];try trivial)) (by (simp only [ZZ,WW,Ze,reduceCtorEq,Nat.reduceAdd,Nat.reduceMul,Nat.reduceLeDiff,Nat.reduceLT,Nat.reduceEqDiff];try trivial)) ⟨0,k'+1+1+1+1+1,[],by omega,by omega,by omega,by simp,rfl,.inl rfl,rfl,rfl⟩ ?_
  rintro n fr L ⟨j,k2,t,hj,rfl,hk2,ht,hto,hts,rfl,rfl⟩
  simp only [ir_chasemake_Stream_Papers_L1,ZZ,WW,Ze,reduceCtorEq,Nat.reduceAdd,Nat.reduceMul,Nat.reduceLeDiff,Nat.reduceLT,Nat.reduceEqDiff]
  refine br ?_ ?_
  ·intro h
   have hjt:j < c:=by have:=of_decide_eq_true h;omega
   obtain ⟨p0,hp,hpick⟩:=Pick_det (E:=E) l k2 [79,80,81] (by omega) hl (by simp) (by simp)
   obtain ⟨p,rfl,hp2⟩:∃ p:Nat,p0=(p:Nat)∧p≤81:=by
    simp at hp
    exact ⟨p0.toNat,by omega,by omega⟩
   simp only [ZZ,WW,Ze,reduceCtorEq,Nat.reduceAdd,Nat.reduceMul,Nat.reduceLeDiff,Nat.reduceLT,Nat.reduceEqDiff]
   refine drg2 (x1:=.str (Lib.repeatL [119] p)) (x2:=.str (Lib.repeatL [97,98,32] 30)) ?_
   simp only [ZZ,WW,Ze,reduceCtorEq,Nat.reduceAdd,Nat.reduceMul,Nat.reduceLeDiff,Nat.reduceLT,Nat.reduceEqDiff]
   refine useD hpick ⟨_,_,rfl,rfl⟩ rfl rfl rfl zE_ (fun _=>⟨0,rfl⟩) ?_
   rintro x cs' ⟨rfl,rfl⟩
   simp only [ZZ,WW,Ze,reduceCtorEq,Nat.reduceAdd,Nat.reduceMul,Nat.reduceLeDiff,Nat.reduceLT,Nat.reduceEqDiff]
   refine ⟨usep (RepeatG_ok [119] p (by omega) (by simp)) rfl (.inl rfl),usep (RepeatG_ok [97,98,32] 30 (by omega) (by simp)) rfl (.inl rfl),?_⟩
   have h1:(Lib.repeatL [119] p).length≤90:=by rw [Lib.repeatL_length];simp;omega
   have h2:(Lib.repeatL [97,98,32] 30).length≤90:=Nat.le_of_eq (Lib.repeatL_length _ _)
   have o1:okTx (Lib.repeatL [119] p)=true:=okTx_rep (by decide) p
   have o2:okTx (Lib.repeatL [97,98,32] 30)=true:=okTx_rep (by decide) 30
   generalize Lib.repeatL [119] p=w1 at *
   generalize Lib.repeatL [97,98,32] 30=w2 at *
   refine useD (one_ok l (k2+1) [[111,110,101],[115,101,99,114,101,116,32,119,111,114,100,115],[],[195,169,116,195,169,32,120],w1,w2] (by omega) hl (by simp) (by simp)) ⟨_,_,[],rfl,by simp,rfl⟩ rfl rfl rfl zE_ (fun _=>⟨0,rfl⟩) ?_
   rintro x cs' ⟨u,rfl,hu,rfl⟩
   have hu2:u.length≤90:=by
    simp only [List.mem_cons,List.not_mem_nil,or_false] at hu
    rcases hu with rfl|rfl|rfl|rfl|rfl|rfl
    all_goals first|exact h1|exact h2|decide
   have hu3:okTx u=true:=by
    simp only [List.mem_cons,List.not_mem_nil,or_false] at hu
    rcases hu with rfl|rfl|rfl|rfl|rfl|rfl
    all_goals first|exact o1|exact o2|decide
   clear hu
   simp only [ZZ,WW,Ze,reduceCtorEq,Nat.reduceAdd,Nat.reduceMul,Nat.reduceLeDiff,Nat.reduceLT,Nat.reduceEqDiff,List.length_append,List.length_cons,List.length_nil]
   refine ⟨by omega,by omega,i64_of (by omega) (by omega),?_⟩
   refine end_round (c - (j+1)) [.adr (.b 0) 0,oo,oo,oo,oo,.row (.l 5),.p (int (i:Nat)),.adr (.l 7) 0,oo,oo,oo,oo,.p (int (m:Nat)),.p (int (i:Nat)),oo,oo,oo,oo,oo,oo,oo,oo,oo,oo,oo,oo,oo,oo,oo,oo,oo,oo,oo,oo,oo,.p (int (c:Nat)),.p (int ((j+1):Nat)),oo,oo,oo,oo,oo,oo,oo,oo,oo,oo,oo,oo,oo,oo,oo,oo,oo,oo,oo,oo,oo,oo,oo,oo,oo,oo,oo,oo,oo,oo,oo,oo,oo,oo,oo,oo,oo,oo,oo,oo,oo,oo,oo,oo,oo,oo,oo,oo,oo,oo,oo,oo,oo,oo,oo,oo,oo] [(.b 0,.box ((stm l (k2+1+1)).map .p) T),(.l 5,.row (itE il) tItem 7 true),(.l 7,.box [.p (.str id),.p (.str cu),.p (int kd),.p (.str nm),.p (int at_),.p (.str []),.p (.str (t++(u++[10])))] tItem)] (by omega) (by (simp only [ZZ,WW,Ze,reduceCtorEq,Nat.reduceAdd,Nat.reduceMul,Nat.reduceLeDiff,Nat.reduceLT,Nat.reduceEqDiff];try trivial)) (by (simp only [ZZ,WW,Ze,reduceCtorEq,Nat.reduceAdd,Nat.reduceMul,Nat.reduceLeDiff,Nat.reduceLT,Nat.reduceEqDiff];try trivial)) ⟨j+1,k2+1+1,t++(u++[10]),by omega,rfl,by omega,by simp only [List.length_append,List.length_cons,List.length_nil];omega,okTx_two hto (okTx_two hu3 (by decide)),.inr (by rw [← List.append_assoc];exact suf10_end _),rfl,rfl⟩
  intro h
  clear h
  simp only [ZZ,WW,Ze,reduceCtorEq,Nat.reduceAdd,Nat.reduceMul,Nat.reduceLeDiff,Nat.reduceLT,Nat.reduceEqDiff]
  refine useS (Flip_ok l k2 8 (by omega) hl (by omega)) rfl rfl rfl zE_ ?_
  rintro x cs' ⟨f,rfl,rfl⟩
  simp only [ZZ,WW,Ze,reduceCtorEq,Nat.reduceAdd,Nat.reduceMul,Nat.reduceLeDiff,Nat.reduceLT,Nat.reduceEqDiff]
  refine br_join (fun fr L=>∃ (t:List UInt8) (k3:Nat),(t.length≤600∧okTx t=true∧(t=[]∨sufE t [10]=true))∧k3≤k'+17∧fr=[.adr (.b 0) 0,oo,oo,oo,oo,.row (.l 5),.p (int (i:Nat)),.adr (.l 7) 0,oo,oo,oo,oo,.p (int (m:Nat)),.p (int (i:Nat)),oo,oo,oo,oo,oo,oo,oo,oo,oo,oo,oo,oo,oo,oo,oo,oo,oo,oo,oo,oo,oo,oo,oo,oo,oo,oo,oo,oo,oo,oo,oo,oo,oo,oo,oo,oo,oo,oo,oo,oo,oo,oo,oo,oo,oo,oo,oo,oo,oo,oo,oo,oo,oo,oo,oo,oo,oo,oo,oo,oo,oo,oo,oo,oo,oo,oo,oo,oo,oo,oo,oo,oo,oo,oo,oo,oo,oo,oo,oo,oo]∧L=[(.b 0,.box ((stm l (k3)).map .p) T),(.l 5,.row (itE il) tItem 7 true),(.l 7,.box [.p (.str id),.p (.str cu),.p (int kd),.p (.str nm),.p (int at_),.p (.str ([])),.p (.str (t))] tItem)]) ?_ ?_ ?_
  ·intro _
   simp only [ZZ,WW,Ze,reduceCtorEq,Nat.reduceAdd,Nat.reduceMul,Nat.reduceLeDiff,Nat.reduceLT,Nat.reduceEqDiff]
   refine useS (Pick_ok l (k2+1) [49,50,51,101] (by omega) hl (by simp) (by simp)) rfl rfl rfl zE_ ?_
   rintro x cs' ⟨q0,rfl,hq0,rfl⟩
   obtain ⟨q,rfl,hq⟩:∃ q:Nat,q0=(q:Nat)∧q≤101:=by
    simp at hq0
    exact ⟨q0.toNat,by omega,by omega⟩
   simp only [ZZ,WW,Ze,reduceCtorEq,Nat.reduceAdd,Nat.reduceMul,Nat.reduceLeDiff,Nat.reduceLT,Nat.reduceEqDiff]
   refine use1 (RepeatG_ok [108,105,110,101,10] q (by omega) (by simp)) rfl (.inl rfl) ?_
   have h1:(Lib.repeatL [108,105,110,101,10] q).length≤600:=by rw [Lib.repeatL_length];simp;omega
   have h2:okTx (Lib.repeatL [108,105,110,101,10] q)=true:=okTx_rep (by decide) q
   have h3:=rep_suf [108,105,110,101] q
   simp only [List.cons_append,List.nil_append] at h3
   generalize Lib.repeatL [108,105,110,101,10] q=w1 at *
   simp only [ZZ,WW,Ze,reduceCtorEq,Nat.reduceAdd,Nat.reduceMul,Nat.reduceLeDiff,Nat.reduceLT,Nat.reduceEqDiff]
   ((repeat' (with_reducible apply And.intro))<;>try ((exact sc_)))
   exact to_mid [.adr (.b 0) 0,oo,oo,oo,oo,.row (.l 5),.p (int (i:Nat)),.adr (.l 7) 0,oo,oo,oo,oo,.p (int (m:Nat)),.p (int (i:Nat)),oo,oo,oo,oo,oo,oo,oo,oo,oo,oo,oo,oo,oo,oo,oo,oo,oo,oo,oo,oo,oo,oo,oo,oo,oo,oo,oo,oo,oo,oo,oo,oo,oo,oo,oo,oo,oo,oo,oo,oo,oo,oo,oo,oo,oo,oo,oo,oo,oo,oo,oo,oo,oo,oo,oo,oo,oo,oo,oo,oo,oo,oo,oo,oo,oo,oo,oo,oo,oo,oo,oo,oo,oo,oo,oo,oo,oo,oo,oo,oo] [(.b 0,.box ((stm l (k2+1+1)).map .p) T),(.l 5,.row (itE il) tItem 7 true),(.l 7,.box [.p (.str id),.p (.str cu),.p (int kd),.p (.str nm),.p (int at_),.p (.str ([])),.p (.str (w1))] tItem)] (by (simp only [ZZ,WW,Ze,reduceCtorEq,Nat.reduceAdd,Nat.reduceMul,Nat.reduceLeDiff,Nat.reduceLT,Nat.reduceEqDiff];try trivial)) zE_ ⟨_,_,⟨h1,h2,h3⟩,by omega,rfl,rfl⟩
  ·intro _
   simp only [ZZ,WW,Ze,reduceCtorEq,Nat.reduceAdd,Nat.reduceMul,Nat.reduceLeDiff,Nat.reduceLT,Nat.reduceEqDiff]
   exact to_mid [.adr (.b 0) 0,oo,oo,oo,oo,.row (.l 5),.p (int (i:Nat)),.adr (.l 7) 0,oo,oo,oo,oo,.p (int (m:Nat)),.p (int (i:Nat)),oo,oo,oo,oo,oo,oo,oo,oo,oo,oo,oo,oo,oo,oo,oo,oo,oo,oo,oo,oo,oo,oo,oo,oo,oo,oo,oo,oo,oo,oo,oo,oo,oo,oo,oo,oo,oo,oo,oo,oo,oo,oo,oo,oo,oo,oo,oo,oo,oo,oo,oo,oo,oo,oo,oo,oo,oo,oo,oo,oo,oo,oo,oo,oo,oo,oo,oo,oo,oo,oo,oo,oo,oo,oo,oo,oo,oo,oo,oo,oo] [(.b 0,.box ((stm l (k2+1)).map .p) T),(.l 5,.row (itE il) tItem 7 true),(.l 7,.box [.p (.str id),.p (.str cu),.p (int kd),.p (.str nm),.p (int at_),.p (.str ([])),.p (.str (t))] tItem)] (by (simp only [ZZ,WW,Ze,reduceCtorEq,Nat.reduceAdd,Nat.reduceMul,Nat.reduceLeDiff,Nat.reduceLT,Nat.reduceEqDiff];try trivial)) zE_ ⟨_,_,⟨by omega,hto,hts⟩,by omega,rfl,rfl⟩
  clear ht hk2 hto hts
  rintro fr L ⟨t,k3,ht,hk3,rfl,rfl⟩
  simp only [ZZ,WW,Ze,reduceCtorEq,Nat.reduceAdd,Nat.reduceMul,Nat.reduceLeDiff,Nat.reduceLT,Nat.reduceEqDiff]
  refine useGC (fun hc=>?_) (fun hc=>?_)
  ·have hi0:0 < i:=by have:=of_decide_eq_true hc;omega
   refine useS (Flip_ok l k3 3 (by omega) hl (by omega)) rfl rfl rfl zE_ ?_
   rintro x cs' ⟨f2,rfl,rfl⟩
   simp only [ZZ,WW,Ze,reduceCtorEq,Nat.reduceAdd,Nat.reduceMul,Nat.reduceLeDiff,Nat.reduceLT,Nat.reduceEqDiff,hc]
   refine br_join (fun fr L=>∃ (p:List UInt8) (k4:Nat),(p=[]∨∃ j y,j < i∧il[j]?=some y∧y.2.2.2.2.2.1=[]∧(y.2.2.1=1∨y.2.2.1=3)∧p=pid j)∧k4≤k'+19∧fr=[.adr (.b 0) 0,oo,oo,oo,oo,.row (.l 5),.p (int (i:Nat)),.adr (.l 7) 0,oo,oo,oo,oo,.p (int (m:Nat)),.p (int (i:Nat)),oo,oo,oo,oo,oo,oo,oo,oo,oo,oo,oo,oo,oo,oo,oo,oo,oo,oo,oo,oo,oo,oo,oo,oo,oo,oo,oo,oo,oo,oo,oo,oo,oo,oo,oo,oo,oo,oo,oo,oo,oo,oo,oo,oo,oo,oo,oo,oo,oo,oo,oo,oo,oo,oo,oo,oo,oo,oo,oo,oo,oo,oo,oo,oo,oo,oo,oo,oo,oo,oo,oo,oo,oo,oo,oo,oo,oo,oo,oo,oo]∧L=[(.b 0,.box ((stm l (k4)).map .p) T),(.l 5,.row (itE il) tItem 7 true),(.l 7,.box [.p (.str id),.p (.str cu),.p (int kd),.p (.str nm),.p (int at_),.p (.str (p)),.p (.str (t))] tItem)]) ?_ ?_ ?_
   ·intro _
    simp only [ZZ,WW,Ze,reduceCtorEq,Nat.reduceAdd,Nat.reduceMul,Nat.reduceLeDiff,Nat.reduceLT,Nat.reduceEqDiff,itE_len]
    refine useS (Next_ok l (k3+1) il.length (by omega) hl (by omega)) rfl rfl rfl zE_ ?_
    rintro x cs' ⟨y,rfl,rfl⟩
    obtain ⟨q,hq,hy⟩:=below_idx y il.length (by omega)
    rw [hy]
    obtain ⟨b,hb⟩:∃ b,il[q]?=some b:=⟨_,List.getElem?_eq_getElem hq⟩
    have hg:=itE_get hb
    have hbp:=(hib q b hb).b1
    obtain ⟨a1,a2,a3,a4,a5,a6,a7⟩:=b
    simp only [itC] at hg
    simp only at hbp
    simp only [ZZ,WW,Ze,reduceCtorEq,Nat.reduceAdd,Nat.reduceMul,Nat.reduceLeDiff,Nat.reduceLT,Nat.reduceEqDiff,itE_len,hg]
    ((repeat' (with_reducible apply And.intro))<;>try ((exact sc_)))
    refine br ?_ ?_
    ·intro hcd
     have hpp:a6=[]∧(a3=1∨a3=3):=by simpa using hcd
     simp only [ZZ,WW,Ze,reduceCtorEq,Nat.reduceAdd,Nat.reduceMul,Nat.reduceLeDiff,Nat.reduceLT,Nat.reduceEqDiff]
     exact to_mid [.adr (.b 0) 0,oo,oo,oo,oo,.row (.l 5),.p (int (i:Nat)),.adr (.l 7) 0,oo,oo,oo,oo,.p (int (m:Nat)),.p (int (i:Nat)),oo,oo,oo,oo,oo,oo,oo,oo,oo,oo,oo,oo,oo,oo,oo,oo,oo,oo,oo,oo,oo,oo,oo,oo,oo,oo,oo,oo,oo,oo,oo,oo,oo,oo,oo,oo,oo,oo,oo,oo,oo,oo,oo,oo,oo,oo,oo,oo,oo,oo,oo,oo,oo,oo,oo,oo,oo,oo,oo,oo,oo,oo,oo,oo,oo,oo,oo,oo,oo,oo,oo,oo,oo,oo,oo,oo,oo,oo,oo,oo] [(.b 0,.box ((stm l (k3+1+1)).map .p) T),(.l 5,.row (itE il) tItem 7 true),(.l 7,.box [.p (.str id),.p (.str cu),.p (int kd),.p (.str nm),.p (int at_),.p (.str (a1)),.p (.str (t))] tItem)] (by (simp only [ZZ,WW,Ze,reduceCtorEq,Nat.reduceAdd,Nat.reduceMul,Nat.reduceLeDiff,Nat.reduceLT,Nat.reduceEqDiff];try trivial)) zE_ ⟨_,_,.inr ⟨q,_,by omega,hb,hpp.1,hpp.2,hbp⟩,by omega,rfl,rfl⟩
    ·intro _
     simp only [ZZ,WW,Ze,reduceCtorEq,Nat.reduceAdd,Nat.reduceMul,Nat.reduceLeDiff,Nat.reduceLT,Nat.reduceEqDiff]
     exact to_mid [.adr (.b 0) 0,oo,oo,oo,oo,.row (.l 5),.p (int (i:Nat)),.adr (.l 7) 0,oo,oo,oo,oo,.p (int (m:Nat)),.p (int (i:Nat)),oo,oo,oo,oo,oo,oo,oo,oo,oo,oo,oo,oo,oo,oo,oo,oo,oo,oo,oo,oo,oo,oo,oo,oo,oo,oo,oo,oo,oo,oo,oo,oo,oo,oo,oo,oo,oo,oo,oo,oo,oo,oo,oo,oo,oo,oo,oo,oo,oo,oo,oo,oo,oo,oo,oo,oo,oo,oo,oo,oo,oo,oo,oo,oo,oo,oo,oo,oo,oo,oo,oo,oo,oo,oo,oo,oo,oo,oo,oo,oo] [(.b 0,.box ((stm l (k3+1+1)).map .p) T),(.l 5,.row (itE il) tItem 7 true),(.l 7,.box [.p (.str id),.p (.str cu),.p (int kd),.p (.str nm),.p (int at_),.p (.str ([])),.p (.str (t))] tItem)] (by (simp only [ZZ,WW,Ze,reduceCtorEq,Nat.reduceAdd,Nat.reduceMul,Nat.reduceLeDiff,Nat.reduceLT,Nat.reduceEqDiff];try trivial)) zE_ ⟨_,_,.inl rfl,by omega,rfl,rfl⟩
   ·intro _
    simp only [ZZ,WW,Ze,reduceCtorEq,Nat.reduceAdd,Nat.reduceMul,Nat.reduceLeDiff,Nat.reduceLT,Nat.reduceEqDiff]
    exact to_mid [.adr (.b 0) 0,oo,oo,oo,oo,.row (.l 5),.p (int (i:Nat)),.adr (.l 7) 0,oo,oo,oo,oo,.p (int (m:Nat)),.p (int (i:Nat)),oo,oo,oo,oo,oo,oo,oo,oo,oo,oo,oo,oo,oo,oo,oo,oo,oo,oo,oo,oo,oo,oo,oo,oo,oo,oo,oo,oo,oo,oo,oo,oo,oo,oo,oo,oo,oo,oo,oo,oo,oo,oo,oo,oo,oo,oo,oo,oo,oo,oo,oo,oo,oo,oo,oo,oo,oo,oo,oo,oo,oo,oo,oo,oo,oo,oo,oo,oo,oo,oo,oo,oo,oo,oo,oo,oo,oo,oo,oo,oo] [(.b 0,.box ((stm l (k3+1)).map .p) T),(.l 5,.row (itE il) tItem 7 true),(.l 7,.box [.p (.str id),.p (.str cu),.p (int kd),.p (.str nm),.p (int at_),.p (.str ([])),.p (.str (t))] tItem)] (by (simp only [ZZ,WW,Ze,reduceCtorEq,Nat.reduceAdd,Nat.reduceMul,Nat.reduceLeDiff,Nat.reduceLT,Nat.reduceEqDiff];try trivial)) zE_ ⟨_,_,.inl rfl,by omega,rfl,rfl⟩
   rintro fr L ⟨p,k4,hp,hk4,rfl,rfl⟩
   have hx1:(il++[(id,cu,kd,nm,at_,p,t)]).length=i+1:=by rw [List.length_append,hil];rfl
   have hx2:∀ j x,(il++[(id,cu,kd,nm,at_,p,t)])[j]?=some x→Pap (il++[(id,cu,kd,nm,at_,p,t)]) j x:=papAll hib (by rw [hil];exact ⟨hidl,hcu2,hkd2,hnm2,hat2,hp,ht⟩)
   simp only [ZZ,WW,Ze,reduceCtorEq,Nat.reduceAdd,Nat.reduceMul,Nat.reduceLeDiff,Nat.reduceLT,Nat.reduceEqDiff,itE_len,itE_app]
   ((repeat' (with_reducible apply And.intro))<;>try ((exact sc_)))
   refine end_round (m - (i+1)) [.adr (.b 0) 0,oo,oo,oo,oo,.row (.l 5),oo,oo,oo,oo,oo,oo,.p (int (m:Nat)),.p (int ((i+1):Nat)),oo,oo,oo,oo,oo,oo,oo,oo,oo,oo,oo,oo,oo,oo,oo,oo,oo,oo,oo,oo,oo,oo,oo,oo,oo,oo,oo,oo,oo,oo,oo,oo,oo,oo,oo,oo,oo,oo,oo,oo,oo,oo,oo,oo,oo,oo,oo,oo,oo,oo,oo,oo,oo,oo,oo,oo,oo,oo,oo,oo,oo,oo,oo,oo,oo,oo,oo,oo,oo,oo,oo,oo,oo,oo,oo,oo,oo,oo,oo,oo] [(.b 0,.box ((stm l (k4)).map .p) T),(.l 5,.row (itE (il++[(id,cu,kd,nm,at_,p,t)])) tItem 7 true)] (by omega) (by (simp only [ZZ,WW,Ze,reduceCtorEq,Nat.reduceAdd,Nat.reduceMul,Nat.reduceLeDiff,Nat.reduceLT,Nat.reduceEqDiff];try trivial)) (by (simp only [ZZ,WW,Ze,reduceCtorEq,Nat.reduceAdd,Nat.reduceMul,Nat.reduceLeDiff,Nat.reduceLT,Nat.reduceEqDiff];try trivial)) ⟨i+1,k4,il++[(id,cu,kd,nm,at_,p,t)],by omega,rfl,by omega,hx1,hx2,rfl,rfl⟩
  ·simp only [ZZ,WW,Ze,reduceCtorEq,Nat.reduceAdd,Nat.reduceMul,Nat.reduceLeDiff,Nat.reduceLT,Nat.reduceEqDiff,hc]
   refine cut_same zE_ ?_
   have hx1:(il++[(id,cu,kd,nm,at_,[],t)]).length=i+1:=by rw [List.length_append,hil];rfl
   have hx2:∀ j x,(il++[(id,cu,kd,nm,at_,[],t)])[j]?=some x→Pap (il++[(id,cu,kd,nm,at_,[],t)]) j x:=papAll hib (by rw [hil];exact ⟨hidl,hcu2,hkd2,hnm2,hat2,.inl rfl,ht⟩)
   simp only [ZZ,WW,Ze,reduceCtorEq,Nat.reduceAdd,Nat.reduceMul,Nat.reduceLeDiff,Nat.reduceLT,Nat.reduceEqDiff,itE_len,itE_app]
   ((repeat' (with_reducible apply And.intro))<;>try ((exact sc_)))
   refine end_round (m - (i+1)) [.adr (.b 0) 0,oo,oo,oo,oo,.row (.l 5),oo,oo,oo,oo,oo,oo,.p (int (m:Nat)),.p (int ((i+1):Nat)),oo,oo,oo,oo,oo,oo,oo,oo,oo,oo,oo,oo,oo,oo,oo,oo,oo,oo,oo,oo,oo,oo,oo,oo,oo,oo,oo,oo,oo,oo,oo,oo,oo,oo,oo,oo,oo,oo,oo,oo,oo,oo,oo,oo,oo,oo,oo,oo,oo,oo,oo,oo,oo,oo,oo,oo,oo,oo,oo,oo,oo,oo,oo,oo,oo,oo,oo,oo,oo,oo,oo,oo,oo,oo,oo,oo,oo,oo,oo,oo] [(.b 0,.box ((stm l (k3)).map .p) T),(.l 5,.row (itE (il++[(id,cu,kd,nm,at_,[],t)])) tItem 7 true)] (by omega) (by (simp only [ZZ,WW,Ze,reduceCtorEq,Nat.reduceAdd,Nat.reduceMul,Nat.reduceLeDiff,Nat.reduceLT,Nat.reduceEqDiff];try trivial)) (by (simp only [ZZ,WW,Ze,reduceCtorEq,Nat.reduceAdd,Nat.reduceMul,Nat.reduceLeDiff,Nat.reduceLT,Nat.reduceEqDiff];try trivial)) ⟨i+1,k3,il++[(id,cu,kd,nm,at_,[],t)],by omega,rfl,by omega,hx1,hx2,rfl,rfl⟩
 intro h
 clear h
 simp only [ZZ,WW,Ze,reduceCtorEq,Nat.reduceAdd,Nat.reduceMul,Nat.reduceLeDiff,Nat.reduceLT,Nat.reduceEqDiff]
 exact fin_S (stm l k') rfl ⟨il,k',rfl,by omega,⟨by omega,hib⟩,rfl,by omega⟩
end
def ir_intake_byId_L0:IC:=(.seq (.reg [qO 10 (.bin .lss (.t 9) (.t 8))]) (.seq (.cond (.t 10) .skip (.exit 0)) (.seq (.block 1 (.seq (.reg [qO 11 (.ixa 7 (.t 7) (.t 9)),qO 12 (.ld 7 true (.t 11)),qO 5 (.alc 80 [.str [],.str [],.int .i64 0,.str [],.int .i64 0,.str [],.str []]),⟨none,.st 7 (.t 5) (.t 12),none⟩]) (.reg [qM 13 3,qO 14 (.fla 0 (.t 5)),qO 15 (.ld 1 false (.t 14)),qO 16 (.ld 7 true (.t 5)),⟨none,.mpu (.t 13) (.t 15) (.t 16),none⟩]))) (.reg [qO 17 (.bin .add (.t 9) (.c (.int .i64 1))),qM 9 17]))))
def ir_intake_byId:IC:=(.seq (.reg [qO 2 (.mov (.c (.raw (.map none))))]) (.seq (.reg [qO 6 (.mkm 9 80),qM 3 6]) (.seq (.seq (.reg [qM 7 0,qO 8 (.len (.t 7)),qO 9 (.mov (.c (.int .i64 0)))]) (.block 0 (.loop ir_intake_byId_L0))) (.seq (.reg [qM 18 3,qM 2 18]) .ret))))
def rs_intake_byId:List IRes:=[.t 2]
theorem ck_intake_byId:chkF Tryz.prog Tryz.f158 ir_intake_byId rs_intake_byId 19=true:=by kernel_rfl
def ir_intake_above_L0:IC:=(.seq (.reg [qO 13 (.bin .lss (.t 12) (.t 11))]) (.seq (.cond (.t 13) .skip (.exit 0)) (.seq (.block 1 (.seq (.reg [qM 15 0,qO 16 (.fla 5 (.t 6)),qO 17 (.ld 1 false (.t 16)),qO 18 (.mpl true (.agg [.str [],.str [],.int .i64 0,.str [],.int .i64 0,.str [],.str []]) (.t 15) (.t 17)),qM 14 18,qO 19 (.ext 0 (.t 14)),qO 20 (.ext 1 (.t 14)),qO 7 (.alc 80 [.str [],.str [],.int .i64 0,.str [],.int .i64 0,.str [],.str []]),⟨none,.st 7 (.t 7) (.t 19),none⟩,qM 8 20]) (.seq (.seq (.reg [qM 21 8,qO 22 (.not (.t 21)),qM 23 22,⟨some 24,.fla 5 (.t 6),(some (23,false))⟩,⟨some 25,.ld 1 false (.t 24),(some (23,false))⟩,⟨some 26,.bin .eql (.t 25) (.c (.str [])),(some (23,false))⟩,qO 27 (.pick (.t 23) (.c (.bool true)) (.t 26))]) (.cond (.t 27) (.seq (.reg [qM 28 4,qM 4 28,qO 5 (.mov (.c (.bool false)))]) .ret) .skip)) (.seq (.reg [qM 29 4,qO 30 (.bin .add (.t 29) (.c (.int .i64 1))),qM 4 30]) (.seq (.seq (.reg [qO 31 (.fla 0 (.t 7)),qO 32 (.ld 1 false (.t 31)),qO 33 (.fla 0 (.t 3)),qO 34 (.ld 1 false (.t 33)),qO 35 (.bin .eql (.t 32) (.t 34))]) (.cond (.t 35) (.seq (.reg [qM 36 4,qM 4 36,qO 5 (.mov (.c (.bool true)))]) .ret) .skip)) (.reg [qO 37 (.ld 7 true (.t 7)),⟨none,.st 7 (.t 6) (.t 37),none⟩])))))) (.reg [qO 38 (.bin .add (.t 12) (.c (.int .i64 1))),qM 12 38]))))
def ir_intake_above:IC:=(.seq (.reg [qO 3 (.box 80 (.t 1)),qO 4 (.mov (.c (.int .i64 0))),qO 5 (.mov (.c (.bool false)))]) (.seq (.reg [qO 9 (.ld 7 true (.t 3)),qO 6 (.alc 80 [.str [],.str [],.int .i64 0,.str [],.int .i64 0,.str [],.str []]),⟨none,.st 7 (.t 6) (.t 9),none⟩]) (.seq (.seq (.reg [qM 10 0,qO 11 (.mpn (.t 10)),qO 12 (.mov (.c (.int .i64 0)))]) (.block 0 (.loop ir_intake_above_L0))) (.seq (.reg [qM 39 4,qM 4 39,qO 5 (.mov (.c (.bool false)))]) .ret))))
def rs_intake_above:List IRes:=[.t 4,.t 5]
theorem ck_intake_above:chkF Tryz.prog Tryz.f159 ir_intake_above rs_intake_above 40=true:=by kernel_rfl
def ir_intake_placed:IC:=(.seq (.reg [qO 3 (.box 80 (.t 1)),qO 4 (.mov (.c (.int .i64 0)))]) (.seq (.reg [qM 10 0,qO 11 (.fla 5 (.t 3)),qO 12 (.ld 1 false (.t 11)),qO 13 (.mpl true (.agg [.str [],.str [],.int .i64 0,.str [],.int .i64 0,.str [],.str []]) (.t 10) (.t 12)),qM 9 13,qO 14 (.ext 0 (.t 9)),qO 15 (.ext 1 (.t 9)),qO 5 (.alc 80 [.str [],.str [],.int .i64 0,.str [],.int .i64 0,.str [],.str []]),⟨none,.st 7 (.t 5) (.t 14),none⟩,qM 6 15]) (.seq (.seq (.reg [qO 16 (.fla 5 (.t 3)),qO 17 (.ld 1 false (.t 16)),qO 18 (.bin .neq (.t 17) (.c (.str []))),qM 19 18,⟨some 20,.mov (.t 6),(some (19,true))⟩,qO 21 (.pick (.t 19) (.t 20) (.c (.bool false))),qM 22 21,⟨some 23,.fla 2 (.t 5),(some (22,true))⟩,⟨some 24,.ld 1 false (.t 23),(some (22,true))⟩,⟨some 25,.bin .neq (.t 24) (.c (.int .i64 1)),(some (22,true))⟩,qO 26 (.pick (.t 22) (.t 25) (.c (.bool false))),qM 27 26,⟨some 28,.fla 2 (.t 5),(some (27,true))⟩,⟨some 29,.ld 1 false (.t 28),(some (27,true))⟩,⟨some 30,.bin .neq (.t 29) (.c (.int .i64 3)),(some (27,true))⟩,qO 31 (.pick (.t 27) (.t 30) (.c (.bool false)))]) (.cond (.t 31) (.seq (.reg [qO 4 (.mov (.c (.int .i64 16)))]) .ret) .skip)) (.seq (.reg [qM 33 0,qO 34 (.ld 7 true (.t 3)),qO 35 (.call 159 [.t 33,.t 34]),qM 32 35,qO 36 (.ext 0 (.t 32)),qO 37 (.ext 1 (.t 32)),qM 7 36,qM 8 37]) (.seq (.reg [qM 38 7,qO 39 (.bin .gtr (.t 38) (.c (.int .i64 4))),qO 40 (.call 50 [.t 39,.c (.int .i64 2)]),qM 4 40]) .ret)))))
def rs_intake_placed:List IRes:=[.t 4]
theorem ck_intake_placed:chkF Tryz.prog Tryz.f160 ir_intake_placed rs_intake_placed 41=true:=by kernel_rfl
theorem zip_kvY {α β:Type}:∀ kv:List (α×β),(kv.map (·.1)).zip (kv.map (·.2))=kv
 |[]=>rfl
 |p :: r=>by simp only [List.map_cons,List.zip_cons_cons,zip_kvY r]
theorem mpS_le:∀ (kv:List (List UInt8×PV)) (s:List UInt8) (y:PV),(mpS kv s y).length≤kv.length+1:=by
 intro kv s y
 induction kv with
 |nil=>simp [mpS]
 |cons p r ih=>
  rw [mpS]
  split
  ·simp
  ·simp only [List.length_cons];omega
def MapIs (kv:List (List UInt8×PV)) (il:List Itm):Prop:=∀ s,mpF kv s=(il.reverse.find? (fun x=>decide (x.1=s))).map (fun x=>PV.agg (itC x))
theorem MapIs.nil:MapIs [] []:=fun s=>rfl
theorem MapIs.put {kv:List (List UInt8×PV)} {il:List Itm} (h:MapIs kv il) (x:Itm):MapIs (mpS kv x.1 (.agg (itC x))) (il++[x]):=fun s=>by
 rw [mpF_mpS,List.reverse_append,List.reverse_singleton,List.singleton_append,List.find?_cons]
 by_cases hs:x.1=s
 ·rw [if_pos hs]
  simp [hs]
 ·rw [if_neg hs,h s]
  simp [hs]
theorem pap_none {il:List Itm} (h:PapOk il):il.reverse.find? (fun x=>decide (x.1=[]))=none:=by
 rw [List.find?_eq_none]
 intro x hx
 obtain ⟨i,hi⟩:=List.getElem?_of_mem (List.mem_reverse.1 hx)
 rw [(h.2 i x hi).b1]
 simp [pid]
theorem pap_find {il:List Itm} (h:PapOk il) {j:Nat} {y:Itm} (hy:il[j]?=some y):il.reverse.find? (fun x=>decide (x.1=pid j))=some y:=by
 have hjl:=(List.getElem?_eq_some_iff.1 hy).1
 cases hf:il.reverse.find? (fun x=>decide (x.1=pid j)) with
 |none=>
  rw [List.find?_eq_none] at hf
  have:=hf y (List.mem_reverse.2 (List.mem_of_getElem? hy))
  rw [(h.2 j y hy).b1] at this
  simp at this
 |some z=>
  have hz:=List.find?_some hf
  have hm:=List.mem_reverse.1 (List.mem_of_find?_eq_some hf)
  obtain ⟨i,hi⟩:=List.getElem?_of_mem hm
  have hil:=(List.getElem?_eq_some_iff.1 hi).1
  simp only [decide_eq_true_eq] at hz
  rw [(h.2 i z hi).b1] at hz
  have h20:=h.1
  have:=pid_inj (by omega) (by omega) hz
  subst this
  rw [hi] at hy
  exact hy
section
variable {E:Envt}
theorem byId_ok (il:List Itm) (hl:il.length≤2000):PCall Tryz.prog E 158 [.sl 7 (itE il)] (fun x=>∃ kv:List (List UInt8×PV),x=.mpv (kv.map (·.1)) (kv.map (·.2))∧MapIs kv il∧kv.length≤il.length):=by
 refine pcallF mixed Tryz.func158 ck_intake_byId ?_
 simp only [a0,l0,OS.ao,List.map_cons,List.map_nil,List.length_cons,List.length_nil,List.cons_append,List.nil_append,Nat.reduceSub,Nat.reduceAdd,List.replicate_succ,List.replicate_zero,ir_intake_byId,rs_intake_byId,ZZ,WW,Ze,reduceCtorEq,Nat.reduceAdd,Nat.reduceMul,Nat.reduceLeDiff,Nat.reduceLT,Nat.reduceEqDiff]
 simp only [ZZ,WW,Ze,reduceCtorEq,Nat.reduceAdd,Nat.reduceMul,Nat.reduceLeDiff,Nat.reduceLT,Nat.reduceEqDiff,itE_len]
 refine loop_intro (fun n fr L=>∃ (k:Nat) (kv:List (List UInt8×PV)),k≤il.length∧n=il.length - k∧(MapIs kv (il.take k))∧(kv.length≤k)∧fr=[oo,oo,oo,.mp (.l 6),oo,oo,oo,.p (.sl 7 (itE il)),.p (int (il.length:Nat)),.p (int (k:Nat)),oo,oo,oo,oo,oo,oo,oo,oo,oo]∧L=[(.l 6,.map kv 9 80)]) (il.length) [oo,oo,oo,.mp (.l 6),oo,oo,oo,.p (.sl 7 (itE il)),.p (int (il.length:Nat)),.p (int (0:Nat)),oo,oo,oo,oo,oo,oo,oo,oo,oo] [(.l 6,.map [] 9 80)] (by simp only [ZZ,WW,Ze,reduceCtorEq,Nat.reduceAdd,Nat.reduceMul,Nat.reduceLeDiff,Nat.reduceLT,Nat.reduceEqDiff,itE_len];try trivial) (by (simp only [ZZ,WW,Ze,reduceCtorEq,Nat.reduceAdd,Nat.reduceMul,Nat.reduceLeDiff,Nat.reduceLT,Nat.reduceEqDiff];try trivial)) ⟨0,[],by omega,by omega,MapIs.nil,by simp,rfl,rfl⟩ ?_
 rintro n fr L ⟨k,kv,hk,rfl,hkv,hkn,rfl,rfl⟩
 simp only [ir_intake_byId_L0,ZZ,WW,Ze,reduceCtorEq,Nat.reduceAdd,Nat.reduceMul,Nat.reduceLeDiff,Nat.reduceLT,Nat.reduceEqDiff]
 refine br ?_ ?_
 ·intro h
  have hlt:k < il.length:=by have:=of_decide_eq_true h;omega
  obtain ⟨x,hx⟩:∃ x,il[k]?=some x:=⟨_,List.getElem?_eq_getElem hlt⟩
  have hg:=itE_get hx
  have hnx:il.take (k+1)=il.take k++[x]:=by rw [List.take_succ_eq_append_getElem hlt,(List.getElem?_eq_some_iff.1 hx).2]
  have hpt:=hkv.put x
  rw [← hnx] at hpt
  simp only [itC] at hg hpt
  simp only [ZZ,WW,Ze,reduceCtorEq,Nat.reduceAdd,Nat.reduceMul,Nat.reduceLeDiff,Nat.reduceLT,Nat.reduceEqDiff,hg,itE_len]
  ((repeat' (with_reducible apply And.intro))<;>try ((exact sc_)))
  refine end_round (il.length - (k+1)) [oo,oo,oo,.mp (.l 6),oo,oo,oo,.p (.sl 7 (itE il)),.p (int (il.length:Nat)),.p (int ((k+1):Nat)),oo,oo,oo,oo,oo,oo,oo,oo,oo] [(.l 6,.map (mpS kv x.1 (.agg [.str x.1,.str x.2.1,int x.2.2.1,.str x.2.2.2.1,int x.2.2.2.2.1,.str x.2.2.2.2.2.1,.str x.2.2.2.2.2.2])) 9 80)] (by omega) (by (simp only [ZZ,WW,Ze,reduceCtorEq,Nat.reduceAdd,Nat.reduceMul,Nat.reduceLeDiff,Nat.reduceLT,Nat.reduceEqDiff];try trivial)) (by (simp only [ZZ,WW,Ze,reduceCtorEq,Nat.reduceAdd,Nat.reduceMul,Nat.reduceLeDiff,Nat.reduceLT,Nat.reduceEqDiff];try trivial)) ⟨k+1,mpS kv x.1 (.agg [.str x.1,.str x.2.1,int x.2.2.1,.str x.2.2.2.1,int x.2.2.2.2.1,.str x.2.2.2.2.2.1,.str x.2.2.2.2.2.2]),by omega,rfl,hpt,Nat.le_trans (mpS_le _ _ _) (by omega),rfl,rfl⟩
 intro h
 have hge:il.length≤k:=by have:=of_decide_eq_false h;omega
 rw [List.take_of_length_le hge] at hkv
 simp only [ZZ,WW,Ze,reduceCtorEq,Nat.reduceAdd,Nat.reduceMul,Nat.reduceLeDiff,Nat.reduceLT,Nat.reduceEqDiff]
 exact ⟨kv,rfl,hkv,by omega⟩
theorem above_ok (il:List Itm) (hP:PapOk il) (kv:List (List UInt8×PV)) (hkv:MapIs kv il) (hkl:kv.length≤1000000) (i:Nat) (x:Itm) (hx:il[i]?=some x):PCall Tryz.prog E 159 [.mpv (kv.map (·.1)) (kv.map (·.2)),.agg (itC x)] (fun r=>∃ c:Nat,c≤1∧r=.tup [int (c:Nat),.bool false]):=by
 have hp:=hP.2 i x hx
 have h20:=hP.1
 have hil:=(List.getElem?_eq_some_iff.1 hx).1
 refine pcallF mixed Tryz.func159 ck_intake_above ?_
 simp only [a0,l0,OS.ao,List.map_cons,List.map_nil,List.length_cons,List.length_nil,List.cons_append,List.nil_append,Nat.reduceSub,Nat.reduceAdd,List.replicate_succ,List.replicate_zero,ir_intake_above,rs_intake_above,ZZ,WW,Ze,reduceCtorEq,Nat.reduceAdd,Nat.reduceMul,Nat.reduceLeDiff,Nat.reduceLT,Nat.reduceEqDiff]
 simp only [itC,ZZ,WW,Ze,reduceCtorEq,Nat.reduceAdd,Nat.reduceMul,Nat.reduceLeDiff,Nat.reduceLT,Nat.reduceEqDiff]
 simp only [List.length_map,ZZ,WW,Ze,reduceCtorEq,Nat.reduceAdd,Nat.reduceMul,Nat.reduceLeDiff,Nat.reduceLT,Nat.reduceEqDiff]
 refine loop_intro (fun n fr L=>∃ (k:Nat) (c:Nat) (u:Itm),k≤kv.length∧n=kv.length - k∧((c=0∧u=x)∨(c=1∧u.2.2.2.2.2.1=[]))∧fr=[.p (.mpv (kv.map (·.1)) (kv.map (·.2))),oo,oo,.adr (.l 3) 0,.p (int (c:Nat)),oo,.adr (.l 6) 0,oo,oo,oo,oo,.p (int (kv.length:Nat)),.p (int (k:Nat)),oo,oo,oo,oo,oo,oo,oo,oo,oo,oo,oo,oo,oo,oo,oo,oo,oo,oo,oo,oo,oo,oo,oo,oo,oo,oo,oo]∧L=[(.l 3,.box [.p (.str x.1),.p (.str x.2.1),.p (int x.2.2.1),.p (.str x.2.2.2.1),.p (int x.2.2.2.2.1),.p (.str x.2.2.2.2.2.1),.p (.str x.2.2.2.2.2.2)] tItem),(.l 6,.box [.p (.str u.1),.p (.str u.2.1),.p (int u.2.2.1),.p (.str u.2.2.2.1),.p (int u.2.2.2.2.1),.p (.str u.2.2.2.2.2.1),.p (.str u.2.2.2.2.2.2)] tItem)]) (kv.length) [.p (.mpv (kv.map (·.1)) (kv.map (·.2))),oo,oo,.adr (.l 3) 0,.p (int (0:Nat)),oo,.adr (.l 6) 0,oo,oo,oo,oo,.p (int (kv.length:Nat)),.p (int (0:Nat)),oo,oo,oo,oo,oo,oo,oo,oo,oo,oo,oo,oo,oo,oo,oo,oo,oo,oo,oo,oo,oo,oo,oo,oo,oo,oo,oo] [(.l 3,.box [.p (.str x.1),.p (.str x.2.1),.p (int x.2.2.1),.p (.str x.2.2.2.1),.p (int x.2.2.2.2.1),.p (.str x.2.2.2.2.2.1),.p (.str x.2.2.2.2.2.2)] tItem),(.l 6,.box [.p (.str x.1),.p (.str x.2.1),.p (int x.2.2.1),.p (.str x.2.2.2.1),.p (int x.2.2.2.2.1),.p (.str x.2.2.2.2.2.1),.p (.str x.2.2.2.2.2.2)] tItem)] (by (simp only [ZZ,WW,Ze,reduceCtorEq,Nat.reduceAdd,Nat.reduceMul,Nat.reduceLeDiff,Nat.reduceLT,Nat.reduceEqDiff];try trivial)) (by (simp only [ZZ,WW,Ze,reduceCtorEq,Nat.reduceAdd,Nat.reduceMul,Nat.reduceLeDiff,Nat.reduceLT,Nat.reduceEqDiff];try trivial)) ⟨0,0,x,by omega,by omega,.inl ⟨rfl,rfl⟩,rfl,rfl⟩ ?_
 rintro n fr L ⟨k,c,u,hk,rfl,hcu,rfl,rfl⟩
 simp only [ir_intake_above_L0,ZZ,WW,Ze,reduceCtorEq,Nat.reduceAdd,Nat.reduceMul,Nat.reduceLeDiff,Nat.reduceLT,Nat.reduceEqDiff]
 refine br ?_ ?_
 ·intro h
  have hlt:k < kv.length:=by have:=of_decide_eq_true h;omega
  have hno:mpF kv []=none:=by rw [hkv [],pap_none hP];rfl
  by_cases hq:u.2.2.2.2.2.1=[]
  ·have hno2:mpF kv u.2.2.2.2.2.1=none:=by rw [hq];exact hno
   simp only [ZZ,WW,Ze,reduceCtorEq,Nat.reduceAdd,Nat.reduceMul,Nat.reduceLeDiff,Nat.reduceLT,Nat.reduceEqDiff,zip_kvY,mpD,hno2,Option.getD_none,Option.isSome_none]
   exact ⟨c,by omega,rfl⟩
  ·obtain ⟨hc0,hux⟩:c=0∧u=x:=hcu.resolve_right (fun h=>hq h.2)
   have hux:=hux.symm
   subst hc0
   subst hux
   obtain ⟨j,y,hj,hy,hy1,hy2,hpj⟩:=hp.b6.resolve_left hq
   have hf:mpF kv x.2.2.2.2.2.1=some (.agg (itC y)):=by rw [hpj,hkv,pap_find hP hy];rfl
   have hyi:decide (y.1=x.1)=false:=by
    rw [decide_eq_false_iff_not,(hP.2 j y hy).b1,hp.b1]
    intro e
    have:=pid_inj (by omega) (by omega) e
    omega
   have hq2:decide (x.2.2.2.2.2.1=[])=false:=by simpa using hq
   simp only [itC] at hf
   simp only [ZZ,WW,Ze,reduceCtorEq,Nat.reduceAdd,Nat.reduceMul,Nat.reduceLeDiff,Nat.reduceLT,Nat.reduceEqDiff,zip_kvY,mpD,hf,Option.getD_some,Option.isSome_some,hq2,Bool.or_false,Bool.or_self]
   ((repeat' (with_reducible apply And.intro))<;>try ((exact sc_)))
   simp only [ZZ,WW,Ze,reduceCtorEq,Nat.reduceAdd,Nat.reduceMul,Nat.reduceLeDiff,Nat.reduceLT,Nat.reduceEqDiff,hyi]
   refine ⟨i64_of (by omega) (by omega),?_⟩
   refine end_round (kv.length - (k+1)) [.p (.mpv (kv.map (·.1)) (kv.map (·.2))),oo,oo,.adr (.l 3) 0,.p (int ((1):Nat)),oo,.adr (.l 6) 0,oo,oo,oo,oo,.p (int (kv.length:Nat)),.p (int ((k+1):Nat)),oo,oo,oo,oo,oo,oo,oo,oo,oo,oo,oo,oo,oo,oo,oo,oo,oo,oo,oo,oo,oo,oo,oo,oo,oo,oo,oo] [(.l 3,.box [.p (.str x.1),.p (.str x.2.1),.p (int x.2.2.1),.p (.str x.2.2.2.1),.p (int x.2.2.2.2.1),.p (.str x.2.2.2.2.2.1),.p (.str x.2.2.2.2.2.2)] tItem),(.l 6,.box [.p (.str (y).1),.p (.str (y).2.1),.p (int (y).2.2.1),.p (.str (y).2.2.2.1),.p (int (y).2.2.2.2.1),.p (.str (y).2.2.2.2.2.1),.p (.str (y).2.2.2.2.2.2)] tItem)] (by omega) (by (simp only [ZZ,WW,Ze,reduceCtorEq,Nat.reduceAdd,Nat.reduceMul,Nat.reduceLeDiff,Nat.reduceLT,Nat.reduceEqDiff];try trivial)) (by (simp only [ZZ,WW,Ze,reduceCtorEq,Nat.reduceAdd,Nat.reduceMul,Nat.reduceLeDiff,Nat.reduceLT,Nat.reduceEqDiff];try trivial)) ⟨k+1,1,y,by omega,rfl,.inr ⟨rfl,hy1⟩,rfl,rfl⟩
 intro h
 simp only [ZZ,WW,Ze,reduceCtorEq,Nat.reduceAdd,Nat.reduceMul,Nat.reduceLeDiff,Nat.reduceLT,Nat.reduceEqDiff]
 exact ⟨c,by omega,rfl⟩
theorem placed_ok (il:List Itm) (hP:PapOk il) (kv:List (List UInt8×PV)) (hkv:MapIs kv il) (hkl:kv.length≤1000000) (i:Nat) (x:Itm) (hx:il[i]?=some x):PCall Tryz.prog E 160 [.mpv (kv.map (·.1)) (kv.map (·.2)),.agg (itC x)] (·=int 0):=by
 have hp:=hP.2 i x hx
 have h20:=hP.1
 have hno:mpF kv []=none:=by rw [hkv [],pap_none hP];rfl
 have hab:=above_ok (E:=E) il hP kv hkv hkl i x hx
 simp only [itC] at hab
 refine pcallF mixed Tryz.func160 ck_intake_placed ?_
 simp only [a0,l0,OS.ao,List.map_cons,List.map_nil,List.length_cons,List.length_nil,List.cons_append,List.nil_append,Nat.reduceSub,Nat.reduceAdd,List.replicate_succ,List.replicate_zero,ir_intake_placed,rs_intake_placed,ZZ,WW,Ze,reduceCtorEq,Nat.reduceAdd,Nat.reduceMul,Nat.reduceLeDiff,Nat.reduceLT,Nat.reduceEqDiff]
 simp only [itC,ZZ,WW,Ze,reduceCtorEq,Nat.reduceAdd,Nat.reduceMul,Nat.reduceLeDiff,Nat.reduceLT,Nat.reduceEqDiff]
 by_cases hq:x.2.2.2.2.2.1=[]
 ·have hno2:mpF kv x.2.2.2.2.2.1=none:=by rw [hq];exact hno
  have hq2:decide (x.2.2.2.2.2.1=[])=true:=by simpa using hq
  simp only [ZZ,WW,Ze,reduceCtorEq,Nat.reduceAdd,Nat.reduceMul,Nat.reduceLeDiff,Nat.reduceLT,Nat.reduceEqDiff,zip_kvY,mpD,hno2,Option.getD_none,Option.isSome_none,hq2]
  refine use hab rfl (.inl rfl) ?_
  rintro _ ⟨c,hc,rfl⟩
  simp only [ZZ,WW,Ze,reduceCtorEq,Nat.reduceAdd,Nat.reduceMul,Nat.reduceLeDiff,Nat.reduceLT,Nat.reduceEqDiff]
  refine use1 (When_ok _ 2) rfl (.inl rfl) ?_
  have h4:decide (4 < (c:Int))=false:=by rw [decide_eq_false_iff_not];omega
  rw [h4]
  simp only [ZZ,WW,Ze,reduceCtorEq,Nat.reduceAdd,Nat.reduceMul,Nat.reduceLeDiff,Nat.reduceLT,Nat.reduceEqDiff]
  rfl
 ·obtain ⟨j,y,hj,hy,hy1,hy2,hpj⟩:=hp.b6.resolve_left hq
  have hf:mpF kv x.2.2.2.2.2.1=some (.agg (itC y)):=by rw [hpj,hkv,pap_find hP hy];rfl
  have hq2:decide (x.2.2.2.2.2.1=[])=false:=by simpa using hq
  simp only [itC] at hf
  have hkk:decide (y.2.2.1=1)=true∨(decide (y.2.2.1=1)=false∧decide (y.2.2.1=3)=true):=by
   rcases hy2 with h|h
   ·exact .inl (by simpa using h)
   ·exact .inr ⟨by rw [h];rfl,by simpa using h⟩
  rcases hkk with h1|⟨h1,h3⟩
  ·simp only [ZZ,WW,Ze,reduceCtorEq,Nat.reduceAdd,Nat.reduceMul,Nat.reduceLeDiff,Nat.reduceLT,Nat.reduceEqDiff,zip_kvY,mpD,hf,Option.getD_some,Option.isSome_some,hq2,h1]
   refine use hab rfl (.inl rfl) ?_
   rintro _ ⟨c,hc,rfl⟩
   simp only [ZZ,WW,Ze,reduceCtorEq,Nat.reduceAdd,Nat.reduceMul,Nat.reduceLeDiff,Nat.reduceLT,Nat.reduceEqDiff]
   refine use1 (When_ok _ 2) rfl (.inl rfl) ?_
   have h4:decide (4 < (c:Int))=false:=by rw [decide_eq_false_iff_not];omega
   rw [h4]
   simp only [ZZ,WW,Ze,reduceCtorEq,Nat.reduceAdd,Nat.reduceMul,Nat.reduceLeDiff,Nat.reduceLT,Nat.reduceEqDiff]
   rfl
  ·simp only [ZZ,WW,Ze,reduceCtorEq,Nat.reduceAdd,Nat.reduceMul,Nat.reduceLeDiff,Nat.reduceLT,Nat.reduceEqDiff,zip_kvY,mpD,hf,Option.getD_some,Option.isSome_some,hq2,h1,h3]
   refine use hab rfl (.inl rfl) ?_
   rintro _ ⟨c,hc,rfl⟩
   simp only [ZZ,WW,Ze,reduceCtorEq,Nat.reduceAdd,Nat.reduceMul,Nat.reduceLeDiff,Nat.reduceLT,Nat.reduceEqDiff]
   refine use1 (When_ok _ 2) rfl (.inl rfl) ?_
   have h4:decide (4 < (c:Int))=false:=by rw [decide_eq_false_iff_not];omega
   rw [h4]
   simp only [ZZ,WW,Ze,reduceCtorEq,Nat.reduceAdd,Nat.reduceMul,Nat.reduceLeDiff,Nat.reduceLT,Nat.reduceEqDiff]
   rfl
end
end Go.Proofs.YtehfjlpenlffmaaGreatDoor
namespace Go.Proofs.YtehfjlpenlffmaaGreatDoor
structure OrdP {α:Type} (lt:α→α→Bool):Prop where
 asym:∀ x y,lt x y=true→lt y x=false
 ntr:∀ x y z,lt x y=false→lt y z=false→lt x z=false
def SrtP {α:Type} (lt:α→α→Bool) (l:List α):Prop:=l.Pairwise fun u v=>lt v u=false
section
variable {α:Type} {lt:α→α→Bool}
theorem ins_stop {A B:List α} {x:α} (hO:OrdP lt) (h1:SrtP lt (A++B)) (h2:∀ b∈B,lt x b=true) (h3:A=[]∨∃ A' y,A=A'++[y]∧lt x y=false):SrtP lt (A++x :: B):=by
 unfold SrtP at *
 rw [List.pairwise_append] at h1 ⊢
 obtain ⟨hA,hB,hAB⟩:=h1
 refine ⟨hA,List.pairwise_cons.2 ⟨fun b hb=>hO.asym _ _ (h2 b hb),hB⟩,fun u hu v hv=>?_⟩
 rcases List.mem_cons.1 hv with rfl|hv
 ·rcases h3 with rfl|⟨A',y,rfl,hy⟩
  ·cases hu
  ·rcases List.mem_append.1 hu with hu|hu
   ·exact hO.ntr _ y _ hy ((List.pairwise_append.1 hA).2.2 u hu y (by simp))
   ·rw [List.mem_singleton] at hu
    subst hu
    exact hy
 ·exact hAB u hu v hv
theorem swap_set {β:Type} (f:α→β) (A R:List α) (x y:α):(((A++y :: x :: R).map f).set (A.length+1) (f y)).set A.length (f x)=(A++x :: y :: R).map f:=by
 simp [List.set_append]
theorem swap_get {β:Type} (f:α→β) (A R:List α) (x y:α) (d:β):((A++y :: x :: R).map f).getD (A.length+1) d=f x∧((A++y :: x :: R).map f).getD A.length d=f y:=by
 constructor<;>simp [List.getD]
theorem ins_step {A B:List α} {x y:α} (h1:SrtP lt ((A++[y])++B)) (h2:∀ b∈B,lt x b=true) (h:lt x y=true):SrtP lt (A++(y :: B))∧∀ b∈y :: B,lt x b=true:=by
 refine ⟨by simpa using h1,fun b hb=>?_⟩
 rcases List.mem_cons.1 hb with rfl|hb
 ·exact h
 ·exact h2 b hb
theorem srt_uniq (hT:∀ x y,lt x y=false→lt y x=false→x=y):∀ {a b:List α},a.Perm b→SrtP lt a→SrtP lt b→a=b
 |[],b,hp,_,_=>by rw [List.nil_perm.1 hp]
 |x :: r,b,hp,ha,hb=>by
  cases b with
  |nil=>exact absurd (hp.length_eq) (by simp)
  |cons y s=>
   unfold SrtP at ha hb
   rw [List.pairwise_cons] at ha hb
   have hxy:x=y:=by
    have h1:x∈y :: s:=hp.mem_iff.1 (by simp)
    have h2:y∈x :: r:=hp.mem_iff.2 (by simp)
    rcases List.mem_cons.1 h1 with h|h1
    ·exact h
    rcases List.mem_cons.1 h2 with h|h2
    ·exact h.symm
    exact hT _ _ (hb.1 x h1) (ha.1 y h2)
   subst hxy
   rw [srt_uniq hT hp.cons_inv ha.2 hb.2]
end
end Go.Proofs.YtehfjlpenlffmaaGreatDoor
namespace Go.Proofs.YtehfjlpenlffmaaGreatDoor
open Go.RowKit
abbrev Fam:=List UInt8×List (List UInt8)
def it0:Itm:=([],[],0,[],0,[],[])
def upOf (x:Itm):List UInt8:=x.2.2.2.2.2.1
def kidsF (il:List Itm) (s:List UInt8):List (List UInt8):=(il.filter fun z=>decide (upOf z=s)).map (·.1)
def topsF (il:List Itm):List (List UInt8):=(il.filter fun z=>decide (upOf z=[])).map (·.1)
def famF (il:List Itm):List Fam:=(topsF il).map fun s=>(s,s :: kidsF il s)
theorem kidsF_snoc (il:List Itm) (x:Itm) (s:List UInt8):kidsF (il++[x]) s=kidsF il s++if upOf x=s then [x.1] else []:=by
 unfold kidsF
 rw [List.filter_append,List.map_append]
 by_cases h:upOf x=s<;>simp [h]
theorem topsF_snoc (il:List Itm) (x:Itm):topsF (il++[x])=topsF il++if upOf x=[] then [x.1] else []:=kidsF_snoc il x []
theorem kidsF_len (il:List Itm) (s:List UInt8):(kidsF il s).length≤il.length:=by
 unfold kidsF
 rw [List.length_map]
 exact List.length_filter_le _ _
def atI (il:List Itm) (i:Nat):Itm:=il.getD i it0
theorem atI_eq {il:List Itm} {i:Nat} {x:Itm} (h:il[i]?=some x):atI il i=x:=by simp [atI,List.getD,h]
def kidI (il:List Itm) (t:Nat):List Nat:=(List.range il.length).filter fun i=>decide (upOf (atI il i)=pid t)
def topI (il:List Itm):List Nat:=(List.range il.length).filter fun i=>decide (upOf (atI il i)=[])
def ordX (il:List Itm):List Nat:=(topI il).flatMap fun t=>t :: kidI il t
def idN (s:List UInt8):Nat:=(s.getD 1 0).toNat - 97
theorem idN_pid:∀ j:Fin 26,idN (pid j.val)=j.val:=by decide +kernel
def kyF (il:List Itm) (i:Nat):Nat:=if upOf (atI il i)=[] then 100 * i else 100 * idN (upOf (atI il i))+(i+1)
theorem up_cases {il:List Itm} (h:PapOk il) {i:Nat} (hi:i < il.length):i < 20∧(upOf (atI il i)=[]∨∃ j,j < i∧upOf (atI il i)=pid j∧upOf (atI il j)=[]):=by
 have h20:=h.1
 obtain ⟨x,hx⟩:∃ x,il[i]?=some x:=⟨_,List.getElem?_eq_getElem hi⟩
 have hp:=(h.2 i x hx).b6
 rw [atI_eq hx]
 refine ⟨by omega,?_⟩
 rcases hp with hp|⟨j,y,hj,hy,h1,h2,h3⟩
 ·exact .inl hp
 ·exact .inr ⟨j,hj,h3,by rw [atI_eq hy];exact h1⟩
theorem pid_ne (j:Nat):pid j≠[]:=by simp [pid]
theorem ky_form {il:List Itm} (h:PapOk il) {i:Nat} (hi:i < il.length):i < 20∧∃ a,(kyF il i=100 * a∧a=i)∨kyF il i=100 * a+(i+1):=by
 obtain ⟨h20,h1|⟨j,hj,h1,h2⟩⟩:=up_cases h hi
 ·exact ⟨h20,i,.inl ⟨by rw [kyF,if_pos h1],rfl⟩⟩
 ·refine ⟨h20,j,.inr ?_⟩
  have:=idN_pid ⟨j,by omega⟩
  simp only at this
  rw [kyF,if_neg (by rw [h1];exact pid_ne j),h1,this]
theorem ky_inj {il:List Itm} (h:PapOk il) {i j:Nat} (hi:i < il.length) (hj:j < il.length) (e:kyF il i=kyF il j):i=j:=by
 obtain ⟨h1,a,h2⟩:=ky_form h hi
 obtain ⟨h3,b,h4⟩:=ky_form h hj
 omega
theorem ky_top {il:List Itm} {t:Nat} (h:t∈topI il):t < il.length∧kyF il t=100 * t∧upOf (atI il t)=[]:=by
 unfold topI at h
 rw [List.mem_filter,List.mem_range,decide_eq_true_eq] at h
 exact ⟨h.1,by rw [kyF,if_pos h.2],h.2⟩
theorem ky_kid {il:List Itm} (hP:PapOk il) {t i:Nat} (ht:t < 20) (h:i∈kidI il t):i < il.length∧i < 20∧kyF il i=100 * t+(i+1)∧upOf (atI il i)=pid t:=by
 have h20:=hP.1
 unfold kidI at h
 rw [List.mem_filter,List.mem_range,decide_eq_true_eq] at h
 have:=idN_pid ⟨t,by omega⟩
 simp only at this
 exact ⟨h.1,by omega,by rw [kyF,if_neg (by rw [h.2];exact pid_ne t),h.2,this],h.2⟩
theorem ord_srt {il:List Itm} (h:PapOk il):(ordX il).Pairwise fun i j=>kyF il i < kyF il j:=by
 have h20:=h.1
 unfold ordX
 rw [List.pairwise_flatMap]
 refine ⟨fun t ht=>?_,?_⟩
 ·obtain ⟨h1,h2,h3⟩:=ky_top ht
  rw [List.pairwise_cons]
  refine ⟨fun i hi=>?_,?_⟩
  ·obtain ⟨_,_,h4,_⟩:=ky_kid h (by omega) hi
   omega
  ·have hr:(kidI il t).Pairwise (fun i j=>i < j):=List.pairwise_lt_range.sublist List.filter_sublist
   refine hr.imp_of_mem fun {i j} hi hj hij=>?_
   obtain ⟨_,_,h4,_⟩:=ky_kid h (by omega) hi
   obtain ⟨_,_,h5,_⟩:=ky_kid h (by omega) hj
   omega
 ·have hr:(topI il).Pairwise (fun i j=>i < j):=List.pairwise_lt_range.sublist List.filter_sublist
  refine hr.imp_of_mem fun {s t} hs ht hst x hx y hy=>?_
  obtain ⟨a1,a2,_⟩:=ky_top hs
  obtain ⟨b1,b2,_⟩:=ky_top ht
  have hx':kyF il x≤100 * s+21:=by
   rcases List.mem_cons.1 hx with rfl|hx
   ·omega
   ·obtain ⟨_,_,h4,_⟩:=ky_kid h (by omega) hx
    omega
  have hy':100 * t≤kyF il y:=by
   rcases List.mem_cons.1 hy with rfl|hy
   ·omega
   ·obtain ⟨_,_,h4,_⟩:=ky_kid h (by omega) hy
    omega
  omega
theorem ord_mem {il:List Itm} (h:PapOk il) (i:Nat):i∈ordX il↔i < il.length:=by
 have h20:=h.1
 unfold ordX
 rw [List.mem_flatMap]
 constructor
 ·rintro ⟨t,ht,hi⟩
  obtain ⟨h1,_,_⟩:=ky_top ht
  rcases List.mem_cons.1 hi with rfl|hi
  ·exact h1
  ·exact (ky_kid h (by omega) hi).1
 ·intro hi
  obtain ⟨_,h1|⟨j,hj,h1,h2⟩⟩:=up_cases h hi
  ·exact ⟨i,by unfold topI;rw [List.mem_filter,List.mem_range,decide_eq_true_eq];exact ⟨hi,h1⟩,by simp⟩
  ·refine ⟨j,by unfold topI;rw [List.mem_filter,List.mem_range,decide_eq_true_eq];exact ⟨by omega,h2⟩,List.mem_cons_of_mem _ ?_⟩
   unfold kidI
   rw [List.mem_filter,List.mem_range,decide_eq_true_eq]
   exact ⟨hi,h1⟩
theorem ord_uniq {il:List Itm} (h:PapOk il) {o:List Nat} (hp:o.Perm (List.range il.length)) (hs:o.Pairwise fun i j=>kyF il i≤kyF il j):o=ordX il:=by
 have hn:(ordX il).Nodup:=by
  rw [List.nodup_iff_pairwise_ne]
  exact (ord_srt h).imp fun h e=>by rw [e] at h;omega
 have hp2:o.Perm (ordX il):=hp.trans ((List.perm_ext_iff_of_nodup List.nodup_range hn).2 fun i=>by rw [List.mem_range,ord_mem h])
 exact List.Perm.eq_of_pairwise (le:=fun i j=>kyF il i≤kyF il j) (fun i j hi hj h1 h2=>ky_inj h (by have:=hp.mem_iff.1 hi;simpa using this) ((ord_mem h j).1 hj) (by omega)) hs ((ord_srt h).imp fun h=>by omega) hp2
def stpG (il:List Itm) (s:Option (List Fam×Fam)) (i:Nat):Option (List Fam×Fam):=
 if upOf (atI il i)=[] then some (match s with|none=>[]|some (I,c)=>I++[c],((atI il i).1,[(atI il i).1])) else s.map fun s=>(s.1,(s.2.1,s.2.2++[(atI il i).1]))
def clG:Option (List Fam×Fam)→List Fam
 |none=>[]
 |some (I,c)=>I++[c]
def stG (il:List Itm) (l:List Nat):Option (List Fam×Fam):=l.foldl (stpG il) none
theorem stG_snoc (il:List Itm) (l:List Nat) (i:Nat):stG il (l++[i])=stpG il (stG il l) i:=by rw [stG,List.foldl_append];rfl
theorem fold_kids (il:List Itm) (I:List Fam):∀ (ks:List Nat) (c:Fam),(∀ i∈ks,upOf (atI il i)≠[])→ks.foldl (stpG il) (some (I,c))=some (I,(c.1,c.2++ks.map fun i=>(atI il i).1))
 |[],c,_=>by simp
 |i :: r,c,h=>by
  have e:stpG il (some (I,c)) i=some (I,(c.1,c.2++[(atI il i).1])):=by
   unfold stpG
   rw [if_neg (h i (by simp))]
   rfl
  rw [List.foldl_cons,e,fold_kids il I r _ (fun j hj=>h j (by simp [hj]))]
  simp
theorem fold_tops {il:List Itm} (hP:PapOk il):∀ (T:List Nat) (s:Option (List Fam×Fam)),(∀ t∈T,t∈topI il)→clG ((T.flatMap fun t=>t :: kidI il t).foldl (stpG il) s)=clG s++T.map fun t=>((atI il t).1,(atI il t).1 :: (kidI il t).map fun i=>(atI il i).1)
 |[],s,_=>by simp
 |t :: r,s,h=>by
  have h20:=hP.1
  obtain ⟨h1,_,h2⟩:=ky_top (h t (by simp))
  have e1:stpG il s t=some (clG s,((atI il t).1,[(atI il t).1])):=by
   unfold stpG
   rw [if_pos h2]
   cases s<;>rfl
  rw [List.flatMap_cons,List.foldl_append,List.foldl_cons,e1,fold_kids il _ _ _ (fun i hi=>by rw [(ky_kid hP (by omega) hi).2.2.2];exact pid_ne t),fold_tops hP r _ (fun x hx=>h x (by simp [hx]))]
  simp [clG]
theorem range_at (il:List Itm):(List.range il.length).map (atI il)=il:=by
 apply List.ext_getElem
 ·simp
 ·intro i h1 h2
  simp [atI,List.getD,List.getElem?_eq_getElem h2]
theorem filter_at (il:List Itm) (p:Itm→Bool):((List.range il.length).filter fun i=>p (atI il i)).map (fun i=>(atI il i).1)=(il.filter p).map (·.1):=by
 conv=>rhs;rw [← range_at il]
 rw [List.filter_map,List.map_map]
 rfl
theorem kid_at (il:List Itm) (t:Nat):(kidI il t).map (fun i=>(atI il i).1)=kidsF il (pid t):=filter_at il fun z=>decide (upOf z=pid t)
theorem top_at (il:List Itm):(topI il).map (fun i=>(atI il i).1)=topsF il:=filter_at il fun z=>decide (upOf z=[])
theorem id_at {il:List Itm} (hP:PapOk il) {i:Nat} (hi:i < il.length):(atI il i).1=pid i:=by
 obtain ⟨x,hx⟩:∃ x,il[i]?=some x:=⟨_,List.getElem?_eq_getElem hi⟩
 rw [atI_eq hx]
 exact (hP.2 i x hx).b1
theorem ord_fam {il:List Itm} (hP:PapOk il):clG (stG il (ordX il))=famF il:=by
 rw [stG,ordX,fold_tops hP _ none (fun _ h=>h),famF,← top_at,List.map_map]
 show []++_=_
 rw [List.nil_append]
 refine List.map_congr_left fun t ht=>?_
 simp only [Function.comp_apply]
 rw [kid_at,id_at hP (ky_top ht).1]
theorem stG_pos {il:List Itm} (hP:PapOk il) {k:Nat} (h0:0 < k) (hk:k≤(ordX il).length):∃ I c,stG il ((ordX il).take k)=some (I,c):=by
 have hm:∀ (l:List Nat) (s:Option (List Fam×Fam)),s.isSome=true→(l.foldl (stpG il) s).isSome=true:=by
  intro l
  induction l with
  |nil=>intro s h;exact h
  |cons i r ih=>
   intro s h
   rw [List.foldl_cons]
   refine ih _ ?_
   unfold stpG
   split
   ·rfl
   ·simpa using h
 have hh:∀ t r,ordX il=t :: r→upOf (atI il t)=[]:=by
  intro t r e
  unfold ordX at e
  cases hT:topI il with
  |nil=>rw [hT] at e;simp at e
  |cons t' r'=>
   rw [hT,List.flatMap_cons,List.cons_append,List.cons.injEq] at e
   rw [← e.1]
   exact (ky_top (by rw [hT];simp)).2.2
 have:(stG il ((ordX il).take k)).isSome=true:=by
  cases hO:ordX il with
  |nil=>rw [hO] at hk;simp at hk;omega
  |cons t r=>
   have ht:=hh t r hO
   obtain ⟨k',rfl⟩:∃ k',k=k'+1:=⟨k - 1,by omega⟩
   rw [List.take_succ_cons,stG,List.foldl_cons]
   refine hm _ _ ?_
   unfold stpG
   rw [if_pos ht]
   rfl
 obtain ⟨⟨I,c⟩,h⟩:=Option.isSome_iff_exists.1 this
 exact ⟨I,c,h⟩
def ir_intake_Check_L3:IC:=(.seq (.reg [qO 91 (.bin .lss (.t 90) (.t 89))]) (.seq (.cond (.t 91) .skip (.exit 6)) (.seq (.block 7 (.seq (.reg [qO 92 (.ixa 7 (.t 88) (.t 90)),qO 93 (.ld 7 true (.t 92)),qO 16 (.alc 80 [.str [],.str [],.int .i64 0,.str [],.int .i64 0,.str [],.str []]),⟨none,.st 7 (.t 16) (.t 93),none⟩]) (.seq (.reg [qM 94 6,qO 95 (.ld 7 true (.t 16)),qO 96 (.call 160 [.t 94,.t 95]),qM 17 96]) (.seq (.reg [qM 97 17,qO 98 (.bin .neq (.t 97) (.c (.int .i64 0)))]) (.cond (.t 98) (.seq (.reg [qM 99 17,qM 2 99]) .ret) .skip))))) (.reg [qO 100 (.bin .add (.t 90) (.c (.int .i64 1))),qM 90 100]))))
def ir_intake_Check_L2:IC:=(.seq (.reg [qO 77 (.bin .lss (.t 76) (.t 75))]) (.seq (.cond (.t 77) .skip (.exit 4)) (.seq (.block 5 (.seq (.reg [qO 78 (.ixa 7 (.t 74) (.t 76)),qO 79 (.ld 7 true (.t 78)),qO 12 (.alc 80 [.str [],.str [],.int .i64 0,.str [],.int .i64 0,.str [],.str []]),⟨none,.st 7 (.t 12) (.t 79),none⟩]) (.seq (.reg [qM 81 6,qO 82 (.ld 7 true (.t 12)),qO 83 (.call 159 [.t 81,.t 82]),qM 80 83,qO 84 (.ext 0 (.t 80)),qO 85 (.ext 1 (.t 80)),qM 13 84,qM 14 85]) (.seq (.reg [qM 86 14]) (.cond (.t 86) (.seq (.reg [qO 2 (.mov (.c (.int .i64 14)))]) .ret) .skip))))) (.reg [qO 87 (.bin .add (.t 76) (.c (.int .i64 1))),qM 76 87]))))
def ir_intake_Check_L1:IC:=(.seq (.reg [qO 56 (.bin .lss (.t 55) (.t 54))]) (.seq (.cond (.t 56) .skip (.exit 2)) (.seq (.block 3 (.seq (.reg [qO 57 (.ixa 7 (.t 53) (.t 55)),qO 58 (.ld 7 true (.t 57)),qO 8 (.alc 80 [.str [],.str [],.int .i64 0,.str [],.int .i64 0,.str [],.str []]),⟨none,.st 7 (.t 8) (.t 58),none⟩]) (.seq (.reg [qM 60 6,qO 61 (.fla 5 (.t 8)),qO 62 (.ld 1 false (.t 61)),qO 63 (.mpl true (.agg [.str [],.str [],.int .i64 0,.str [],.int .i64 0,.str [],.str []]) (.t 60) (.t 62)),qM 59 63,qO 64 (.ext 0 (.t 59)),qO 65 (.ext 1 (.t 59)),qO 9 (.alc 80 [.str [],.str [],.int .i64 0,.str [],.int .i64 0,.str [],.str []]),⟨none,.st 7 (.t 9) (.t 64),none⟩,qM 10 65]) (.seq (.reg [qO 66 (.fla 5 (.t 8)),qO 67 (.ld 1 false (.t 66)),qO 68 (.bin .neq (.t 67) (.c (.str []))),qM 69 68,⟨some 70,.mov (.t 10),(some (69,true))⟩,⟨some 71,.not (.t 70),(some (69,true))⟩,qO 72 (.pick (.t 69) (.t 71) (.c (.bool false)))]) (.cond (.t 72) (.seq (.reg [qO 2 (.mov (.c (.int .i64 8)))]) .ret) .skip))))) (.reg [qO 73 (.bin .add (.t 55) (.c (.int .i64 1))),qM 55 73]))))
def ir_intake_Check_L0:IC:=(.seq (.reg [qO 24 (.bin .lss (.t 23) (.t 22))]) (.seq (.cond (.t 24) .skip (.exit 0)) (.seq (.block 1 (.seq (.reg [qM 25 23,qO 26 (.ixa 7 (.t 21) (.t 23)),qO 27 (.ld 7 true (.t 26)),qO 4 (.alc 80 [.str [],.str [],.int .i64 0,.str [],.int .i64 0,.str [],.str []]),qM 3 25,⟨none,.st 7 (.t 4) (.t 27),none⟩]) (.seq (.drg [qO 28 (.ld 7 true (.t 4)),qO 29 (.pcall 0 157 [.t 28]),qM 30 3,qO 31 (.bin .gtr (.t 30) (.c (.int .i64 0))),qM 32 31,⟨some 33,.fla 0 (.t 4),(some (32,true))⟩,⟨some 34,.ld 1 false (.t 33),(some (32,true))⟩,⟨some 35,.mov (.t 0),(some (32,true))⟩,⟨some 36,.mov (.t 3),(some (32,true))⟩,⟨some 37,.mx (.t 36) (.c (.int .i64 1)),(some (32,true))⟩,⟨some 38,.bin .sub (.t 37) (.c (.int .i64 1)),(some (32,true))⟩,⟨some 39,.ixa 7 (.t 35) (.t 38),(some (32,true))⟩,⟨some 40,.fla 0 (.t 39),(some (32,true))⟩,⟨some 41,.ld 1 false (.t 40),(some (32,true))⟩,⟨some 42,.bin .leq (.t 34) (.t 41),(some (32,true))⟩,qO 43 (.pick (.t 32) (.t 42) (.c (.bool false))),qO 44 (.pcall 1 50 [.t 43,.c (.int .i64 7)]),qO 45 (.bsl 1 [.t 29,.t 44]),qO 46 (.pcall 2 49 [.t 45]),qM 5 46]) (.seq (.reg [qM 47 5,qO 48 (.bin .neq (.t 47) (.c (.int .i64 0)))]) (.cond (.t 48) (.seq (.reg [qM 49 5,qM 2 49]) .ret) .skip))))) (.reg [qO 50 (.bin .add (.t 23) (.c (.int .i64 1))),qM 23 50]))))
def ir_intake_Check:IC:=(.seq (.reg [qO 2 (.mov (.c (.int .i64 0)))]) (.seq (.seq (.reg [qM 18 0,qO 19 (.len (.t 18)),qO 20 (.bin .gtr (.t 19) (.c (.int .i64 2000)))]) (.cond (.t 20) (.seq (.reg [qO 2 (.mov (.c (.int .i64 2)))]) .ret) .skip)) (.seq (.seq (.reg [qM 21 0,qO 22 (.len (.t 21)),qO 23 (.mov (.c (.int .i64 0)))]) (.block 0 (.loop ir_intake_Check_L0))) (.seq (.reg [qM 51 0,qO 52 (.call 158 [.t 51]),qM 6 52]) (.seq (.seq (.reg [qM 53 0,qO 54 (.len (.t 53)),qO 55 (.mov (.c (.int .i64 0)))]) (.block 2 (.loop ir_intake_Check_L1))) (.seq (.seq (.reg [qM 74 0,qO 75 (.len (.t 74)),qO 76 (.mov (.c (.int .i64 0)))]) (.block 4 (.loop ir_intake_Check_L2))) (.seq (.seq (.reg [qM 88 0,qO 89 (.len (.t 88)),qO 90 (.mov (.c (.int .i64 0)))]) (.block 6 (.loop ir_intake_Check_L3))) (.seq (.reg [qO 2 (.mov (.c (.int .i64 0)))]) .ret))))))))
def rs_intake_Check:List IRes:=[.t 2]
theorem ck_intake_Check:chkF Tryz.prog Tryz.f77 ir_intake_Check rs_intake_Check 101=true:=by kernel_rfl
theorem pid_le:∀ i j:Fin 26,i < j→(bytesLess (pid j.val) (pid i.val) || decide (pid j.val=pid i.val))=false:=by decide +kernel
set_option maxRecDepth 100000 in
set_option maxHeartbeats 8000000 in
theorem ICheck_ok (il:List Itm) (hP:PapOk il):PCall Tryz.prog E0 77 [.sl 7 (itE il)] (·=int 0):=by
 have h20:=hP.1
 refine pcallF mixed Tryz.func77 ck_intake_Check ?_
 simp only [a0,l0,OS.ao,List.map_cons,List.map_nil,List.length_cons,List.length_nil,List.cons_append,List.nil_append,Nat.reduceSub,Nat.reduceAdd,List.replicate_succ,List.replicate_zero,ir_intake_Check,rs_intake_Check,ZZ,WW,Ze,reduceCtorEq,Nat.reduceAdd,Nat.reduceMul,Nat.reduceLeDiff,Nat.reduceLT,Nat.reduceEqDiff]
 simp only [ZZ,WW,Ze,reduceCtorEq,Nat.reduceAdd,Nat.reduceMul,Nat.reduceLeDiff,Nat.reduceLT,Nat.reduceEqDiff,itE_len]
 have h2000:decide (2000 < (il.length:Int))=false:=by rw [decide_eq_false_iff_not];omega
 rw [h2000]
 refine br (fun h=>by cases h) ?_
 intro _
 simp only [ZZ,WW,Ze,reduceCtorEq,Nat.reduceAdd,Nat.reduceMul,Nat.reduceLeDiff,Nat.reduceLT,Nat.reduceEqDiff,itE_len]
 refine loop_intro (fun n fr L=>∃ (k:Nat),k≤il.length∧n=il.length - k∧fr=[.p (.sl 7 (itE il)),oo,oo,oo,oo,oo,oo,oo,oo,oo,oo,oo,oo,oo,oo,oo,oo,oo,oo,oo,oo,.p (.sl 7 (itE il)),.p (int (il.length:Nat)),.p (int (k:Nat)),oo,oo,oo,oo,oo,oo,oo,oo,oo,oo,oo,oo,oo,oo,oo,oo,oo,oo,oo,oo,oo,oo,oo,oo,oo,oo,oo,oo,oo,oo,oo,oo,oo,oo,oo,oo,oo,oo,oo,oo,oo,oo,oo,oo,oo,oo,oo,oo,oo,oo,oo,oo,oo,oo,oo,oo,oo,oo,oo,oo,oo,oo,oo,oo,oo,oo,oo,oo,oo,oo,oo,oo,oo,oo,oo,oo,oo]∧L=[]) (il.length) [.p (.sl 7 (itE il)),oo,oo,oo,oo,oo,oo,oo,oo,oo,oo,oo,oo,oo,oo,oo,oo,oo,oo,oo,oo,.p (.sl 7 (itE il)),.p (int (il.length:Nat)),.p (int (0:Nat)),oo,oo,oo,oo,oo,oo,oo,oo,oo,oo,oo,oo,oo,oo,oo,oo,oo,oo,oo,oo,oo,oo,oo,oo,oo,oo,oo,oo,oo,oo,oo,oo,oo,oo,oo,oo,oo,oo,oo,oo,oo,oo,oo,oo,oo,oo,oo,oo,oo,oo,oo,oo,oo,oo,oo,oo,oo,oo,oo,oo,oo,oo,oo,oo,oo,oo,oo,oo,oo,oo,oo,oo,oo,oo,oo,oo,oo] [] (by simp only [ZZ,WW,Ze,reduceCtorEq,Nat.reduceAdd,Nat.reduceMul,Nat.reduceLeDiff,Nat.reduceLT,Nat.reduceEqDiff,itE_len];try trivial) (by (simp only [ZZ,WW,Ze,reduceCtorEq,Nat.reduceAdd,Nat.reduceMul,Nat.reduceLeDiff,Nat.reduceLT,Nat.reduceEqDiff];try trivial)) ⟨0,by omega,by omega,rfl,rfl⟩ ?_
 rintro n fr L ⟨k,hk,rfl,rfl,rfl⟩
 simp only [ir_intake_Check_L0,ZZ,WW,Ze,reduceCtorEq,Nat.reduceAdd,Nat.reduceMul,Nat.reduceLeDiff,Nat.reduceLT,Nat.reduceEqDiff]
 refine br ?_ ?_
 ·intro h
  have hlt:k < il.length:=by have:=of_decide_eq_true h;omega
  obtain ⟨x,hx⟩:∃ x,il[k]?=some x:=⟨_,List.getElem?_eq_getElem hlt⟩
  have hg:=itE_get hx
  obtain ⟨hz,hS⟩:=(hP.2 k x hx).right (by omega)
  have hci:=CheckItem_ok x hS
  rw [hz] at hci
  simp only [itC] at hg hci
  rcases Nat.eq_zero_or_pos k with hk0|hk0
  ·simp only [ZZ,WW,Ze,reduceCtorEq,Nat.reduceAdd,Nat.reduceMul,Nat.reduceLeDiff,Nat.reduceLT,Nat.reduceEqDiff,hg,itE_len]
   ((repeat' (with_reducible apply And.intro))<;>try ((exact sc_)))
   refine drg3 (x1:=int 0) (x2:=int 0) (x3:=int 0) ?_
   have e0:(max (k:Int) 1 - 1)=((0:Nat):Int):=by omega
   have z0:decide ((0:Int) < (k:Int))=false:=by rw [decide_eq_false_iff_not];omega
   have hg0:=hg
   rw [hk0] at hg0
   simp only [ZZ,WW,Ze,reduceCtorEq,Nat.reduceAdd,Nat.reduceMul,Nat.reduceLeDiff,Nat.reduceLT,Nat.reduceEqDiff,hg,hg0,itE_len,e0,z0]
   refine ⟨usep hci rfl (.inl rfl),fun h=>h.elim,fun h=>h.elim,fun h=>h.elim,usep (When_ok false 7) rfl (.inl rfl),usep (First_ok [0,0] (by simp)) rfl (.inl rfl),?_⟩
   refine br (fun h=>by simp at h) ?_
   intro _
   simp only [ZZ,WW,Ze,reduceCtorEq,Nat.reduceAdd,Nat.reduceMul,Nat.reduceLeDiff,Nat.reduceLT,Nat.reduceEqDiff]
   ((repeat' (with_reducible apply And.intro))<;>try ((exact sc_)))
   refine end_round (il.length - (k+1)) [.p (.sl 7 (itE il)),oo,oo,oo,oo,oo,oo,oo,oo,oo,oo,oo,oo,oo,oo,oo,oo,oo,oo,oo,oo,.p (.sl 7 (itE il)),.p (int (il.length:Nat)),.p (int ((k+1):Nat)),oo,oo,oo,oo,oo,oo,oo,oo,oo,oo,oo,oo,oo,oo,oo,oo,oo,oo,oo,oo,oo,oo,oo,oo,oo,oo,oo,oo,oo,oo,oo,oo,oo,oo,oo,oo,oo,oo,oo,oo,oo,oo,oo,oo,oo,oo,oo,oo,oo,oo,oo,oo,oo,oo,oo,oo,oo,oo,oo,oo,oo,oo,oo,oo,oo,oo,oo,oo,oo,oo,oo,oo,oo,oo,oo,oo,oo] [] (by omega) (by (simp only [ZZ,WW,Ze,reduceCtorEq,Nat.reduceAdd,Nat.reduceMul,Nat.reduceLeDiff,Nat.reduceLT,Nat.reduceEqDiff];try trivial)) (by (simp only [ZZ,WW,Ze,reduceCtorEq,Nat.reduceAdd,Nat.reduceMul,Nat.reduceLeDiff,Nat.reduceLT,Nat.reduceEqDiff];try trivial)) ⟨k+1,by omega,rfl,rfl,rfl⟩
  ·obtain ⟨q,hkq⟩:∃ q,k=q+1:=⟨k - 1,by omega⟩
   obtain ⟨y,hy⟩:∃ y,il[q]?=some y:=⟨_,List.getElem?_eq_getElem (by omega)⟩
   have hgy:=itE_get hy
   simp only [itC] at hgy
   have e1:(max (k:Int) 1 - 1)=((q:Nat):Int):=by omega
   simp only [ZZ,WW,Ze,reduceCtorEq,Nat.reduceAdd,Nat.reduceMul,Nat.reduceLeDiff,Nat.reduceLT,Nat.reduceEqDiff,hg,itE_len]
   ((repeat' (with_reducible apply And.intro))<;>try ((exact sc_)))
   refine drg3 (x1:=int 0) (x2:=int 0) (x3:=int 0) ?_
   have z1:decide ((0:Int) < (k:Int))=true:=by rw [decide_eq_true_eq];omega
   have hle:(bytesLess x.1 y.1 || decide (x.1=y.1))=false:=by
    rw [(hP.2 _ x hx).b1,(hP.2 _ y hy).b1]
    exact pid_le ⟨q,by omega⟩ ⟨k,by omega⟩ (by simp [Fin.lt_def];omega)
   simp only [ZZ,WW,Ze,reduceCtorEq,Nat.reduceAdd,Nat.reduceMul,Nat.reduceLeDiff,Nat.reduceLT,Nat.reduceEqDiff,hg,hgy,itE_len,e1,z1,hle]
   refine ⟨usep hci rfl (.inl rfl),i64_of (by omega) (by omega),⟨by omega,by omega⟩,by omega,usep (When_ok false 7) rfl (.inl rfl),usep (First_ok [0,0] (by simp)) rfl (.inl rfl),?_⟩
   refine br (fun h=>by simp at h) ?_
   intro _
   simp only [ZZ,WW,Ze,reduceCtorEq,Nat.reduceAdd,Nat.reduceMul,Nat.reduceLeDiff,Nat.reduceLT,Nat.reduceEqDiff]
   ((repeat' (with_reducible apply And.intro))<;>try ((exact sc_)))
   refine end_round (il.length - (k+1)) [.p (.sl 7 (itE il)),oo,oo,oo,oo,oo,oo,oo,oo,oo,oo,oo,oo,oo,oo,oo,oo,oo,oo,oo,oo,.p (.sl 7 (itE il)),.p (int (il.length:Nat)),.p (int ((k+1):Nat)),oo,oo,oo,oo,oo,oo,oo,oo,oo,oo,oo,oo,oo,oo,oo,oo,oo,oo,oo,oo,oo,oo,oo,oo,oo,oo,oo,oo,oo,oo,oo,oo,oo,oo,oo,oo,oo,oo,oo,oo,oo,oo,oo,oo,oo,oo,oo,oo,oo,oo,oo,oo,oo,oo,oo,oo,oo,oo,oo,oo,oo,oo,oo,oo,oo,oo,oo,oo,oo,oo,oo,oo,oo,oo,oo,oo,oo] [] (by omega) (by (simp only [ZZ,WW,Ze,reduceCtorEq,Nat.reduceAdd,Nat.reduceMul,Nat.reduceLeDiff,Nat.reduceLT,Nat.reduceEqDiff];try trivial)) (by (simp only [ZZ,WW,Ze,reduceCtorEq,Nat.reduceAdd,Nat.reduceMul,Nat.reduceLeDiff,Nat.reduceLT,Nat.reduceEqDiff];try trivial)) ⟨k+1,by omega,rfl,rfl,rfl⟩
 intro h
 clear h
 simp only [ZZ,WW,Ze,reduceCtorEq,Nat.reduceAdd,Nat.reduceMul,Nat.reduceLeDiff,Nat.reduceLT,Nat.reduceEqDiff]
 refine use (byId_ok il (by omega)) rfl (.inl rfl) ?_
 rintro _ ⟨kv,rfl,hkv,hkn⟩
 simp only [ZZ,WW,Ze,reduceCtorEq,Nat.reduceAdd,Nat.reduceMul,Nat.reduceLeDiff,Nat.reduceLT,Nat.reduceEqDiff,itE_len]
 refine loop_intro (fun n fr L=>∃ (k:Nat),k≤il.length∧n=il.length - k∧fr=[.p (.sl 7 (itE il)),oo,oo,oo,oo,oo,.p (.mpv (kv.map (·.1)) (kv.map (·.2))),oo,oo,oo,oo,oo,oo,oo,oo,oo,oo,oo,oo,oo,oo,oo,oo,oo,oo,oo,oo,oo,oo,oo,oo,oo,oo,oo,oo,oo,oo,oo,oo,oo,oo,oo,oo,oo,oo,oo,oo,oo,oo,oo,oo,oo,oo,.p (.sl 7 (itE il)),.p (int (il.length:Nat)),.p (int (k:Nat)),oo,oo,oo,oo,oo,oo,oo,oo,oo,oo,oo,oo,oo,oo,oo,oo,oo,oo,oo,oo,oo,oo,oo,oo,oo,oo,oo,oo,oo,oo,oo,oo,oo,oo,oo,oo,oo,oo,oo,oo,oo,oo,oo,oo,oo]∧L=[]) (il.length) [.p (.sl 7 (itE il)),oo,oo,oo,oo,oo,.p (.mpv (kv.map (·.1)) (kv.map (·.2))),oo,oo,oo,oo,oo,oo,oo,oo,oo,oo,oo,oo,oo,oo,oo,oo,oo,oo,oo,oo,oo,oo,oo,oo,oo,oo,oo,oo,oo,oo,oo,oo,oo,oo,oo,oo,oo,oo,oo,oo,oo,oo,oo,oo,oo,oo,.p (.sl 7 (itE il)),.p (int (il.length:Nat)),.p (int (0:Nat)),oo,oo,oo,oo,oo,oo,oo,oo,oo,oo,oo,oo,oo,oo,oo,oo,oo,oo,oo,oo,oo,oo,oo,oo,oo,oo,oo,oo,oo,oo,oo,oo,oo,oo,oo,oo,oo,oo,oo,oo,oo,oo,oo,oo,oo] [] (by simp only [ZZ,WW,Ze,reduceCtorEq,Nat.reduceAdd,Nat.reduceMul,Nat.reduceLeDiff,Nat.reduceLT,Nat.reduceEqDiff,itE_len];try trivial) (by (simp only [ZZ,WW,Ze,reduceCtorEq,Nat.reduceAdd,Nat.reduceMul,Nat.reduceLeDiff,Nat.reduceLT,Nat.reduceEqDiff];try trivial)) ⟨0,by omega,by omega,rfl,rfl⟩ ?_
 rintro n fr L ⟨k,hk,rfl,rfl,rfl⟩
 simp only [ir_intake_Check_L1,ZZ,WW,Ze,reduceCtorEq,Nat.reduceAdd,Nat.reduceMul,Nat.reduceLeDiff,Nat.reduceLT,Nat.reduceEqDiff]
 refine br ?_ ?_
 ·intro h
  have hlt:k < il.length:=by have:=of_decide_eq_true h;omega
  obtain ⟨x,hx⟩:∃ x,il[k]?=some x:=⟨_,List.getElem?_eq_getElem hlt⟩
  have hg:=itE_get hx
  have hp:=hP.2 k x hx
  simp only [itC] at hg
  by_cases hq:x.2.2.2.2.2.1=[]
  ·have hno2:mpF kv x.2.2.2.2.2.1=none:=by rw [hq,hkv [],pap_none hP];rfl
   have hq2:decide (x.2.2.2.2.2.1=[])=true:=by simpa using hq
   simp only [ZZ,WW,Ze,reduceCtorEq,Nat.reduceAdd,Nat.reduceMul,Nat.reduceLeDiff,Nat.reduceLT,Nat.reduceEqDiff,hg,itE_len,zip_kvY,mpD,hno2,Option.getD_none,Option.isSome_none,hq2]
   ((repeat' (with_reducible apply And.intro))<;>try ((exact sc_)))
   refine end_round (il.length - (k+1)) [.p (.sl 7 (itE il)),oo,oo,oo,oo,oo,.p (.mpv (kv.map (·.1)) (kv.map (·.2))),oo,oo,oo,oo,oo,oo,oo,oo,oo,oo,oo,oo,oo,oo,oo,oo,oo,oo,oo,oo,oo,oo,oo,oo,oo,oo,oo,oo,oo,oo,oo,oo,oo,oo,oo,oo,oo,oo,oo,oo,oo,oo,oo,oo,oo,oo,.p (.sl 7 (itE il)),.p (int (il.length:Nat)),.p (int ((k+1):Nat)),oo,oo,oo,oo,oo,oo,oo,oo,oo,oo,oo,oo,oo,oo,oo,oo,oo,oo,oo,oo,oo,oo,oo,oo,oo,oo,oo,oo,oo,oo,oo,oo,oo,oo,oo,oo,oo,oo,oo,oo,oo,oo,oo,oo,oo] [] (by omega) (by (simp only [ZZ,WW,Ze,reduceCtorEq,Nat.reduceAdd,Nat.reduceMul,Nat.reduceLeDiff,Nat.reduceLT,Nat.reduceEqDiff];try trivial)) (by (simp only [ZZ,WW,Ze,reduceCtorEq,Nat.reduceAdd,Nat.reduceMul,Nat.reduceLeDiff,Nat.reduceLT,Nat.reduceEqDiff];try trivial)) ⟨k+1,by omega,rfl,rfl,rfl⟩
  ·obtain ⟨j,y,hj,hy,hy1,hy2,hpj⟩:=hp.b6.resolve_left hq
   have hf:mpF kv x.2.2.2.2.2.1=some (.agg (itC y)):=by rw [hpj,hkv,pap_find hP hy];rfl
   have hq2:decide (x.2.2.2.2.2.1=[])=false:=by simpa using hq
   simp only [itC] at hf
   simp only [ZZ,WW,Ze,reduceCtorEq,Nat.reduceAdd,Nat.reduceMul,Nat.reduceLeDiff,Nat.reduceLT,Nat.reduceEqDiff,hg,itE_len,zip_kvY,mpD,hf,Option.getD_some,Option.isSome_some,hq2]
   ((repeat' (with_reducible apply And.intro))<;>try ((exact sc_)))
   refine end_round (il.length - (k+1)) [.p (.sl 7 (itE il)),oo,oo,oo,oo,oo,.p (.mpv (kv.map (·.1)) (kv.map (·.2))),oo,oo,oo,oo,oo,oo,oo,oo,oo,oo,oo,oo,oo,oo,oo,oo,oo,oo,oo,oo,oo,oo,oo,oo,oo,oo,oo,oo,oo,oo,oo,oo,oo,oo,oo,oo,oo,oo,oo,oo,oo,oo,oo,oo,oo,oo,.p (.sl 7 (itE il)),.p (int (il.length:Nat)),.p (int ((k+1):Nat)),oo,oo,oo,oo,oo,oo,oo,oo,oo,oo,oo,oo,oo,oo,oo,oo,oo,oo,oo,oo,oo,oo,oo,oo,oo,oo,oo,oo,oo,oo,oo,oo,oo,oo,oo,oo,oo,oo,oo,oo,oo,oo,oo,oo,oo] [] (by omega) (by (simp only [ZZ,WW,Ze,reduceCtorEq,Nat.reduceAdd,Nat.reduceMul,Nat.reduceLeDiff,Nat.reduceLT,Nat.reduceEqDiff];try trivial)) (by (simp only [ZZ,WW,Ze,reduceCtorEq,Nat.reduceAdd,Nat.reduceMul,Nat.reduceLeDiff,Nat.reduceLT,Nat.reduceEqDiff];try trivial)) ⟨k+1,by omega,rfl,rfl,rfl⟩
 intro h
 clear h
 simp only [ZZ,WW,Ze,reduceCtorEq,Nat.reduceAdd,Nat.reduceMul,Nat.reduceLeDiff,Nat.reduceLT,Nat.reduceEqDiff,itE_len]
 refine loop_intro (fun n fr L=>∃ (k:Nat),k≤il.length∧n=il.length - k∧fr=[.p (.sl 7 (itE il)),oo,oo,oo,oo,oo,.p (.mpv (kv.map (·.1)) (kv.map (·.2))),oo,oo,oo,oo,oo,oo,oo,oo,oo,oo,oo,oo,oo,oo,oo,oo,oo,oo,oo,oo,oo,oo,oo,oo,oo,oo,oo,oo,oo,oo,oo,oo,oo,oo,oo,oo,oo,oo,oo,oo,oo,oo,oo,oo,oo,oo,oo,oo,oo,oo,oo,oo,oo,oo,oo,oo,oo,oo,oo,oo,oo,oo,oo,oo,oo,oo,oo,.p (.sl 7 (itE il)),.p (int (il.length:Nat)),.p (int (k:Nat)),oo,oo,oo,oo,oo,oo,oo,oo,oo,oo,oo,oo,oo,oo,oo,oo,oo,oo,oo,oo,oo,oo,oo,oo]∧L=[]) (il.length) [.p (.sl 7 (itE il)),oo,oo,oo,oo,oo,.p (.mpv (kv.map (·.1)) (kv.map (·.2))),oo,oo,oo,oo,oo,oo,oo,oo,oo,oo,oo,oo,oo,oo,oo,oo,oo,oo,oo,oo,oo,oo,oo,oo,oo,oo,oo,oo,oo,oo,oo,oo,oo,oo,oo,oo,oo,oo,oo,oo,oo,oo,oo,oo,oo,oo,oo,oo,oo,oo,oo,oo,oo,oo,oo,oo,oo,oo,oo,oo,oo,oo,oo,oo,oo,oo,oo,.p (.sl 7 (itE il)),.p (int (il.length:Nat)),.p (int (0:Nat)),oo,oo,oo,oo,oo,oo,oo,oo,oo,oo,oo,oo,oo,oo,oo,oo,oo,oo,oo,oo,oo,oo,oo,oo] [] (by simp only [ZZ,WW,Ze,reduceCtorEq,Nat.reduceAdd,Nat.reduceMul,Nat.reduceLeDiff,Nat.reduceLT,Nat.reduceEqDiff,itE_len];try trivial) (by (simp only [ZZ,WW,Ze,reduceCtorEq,Nat.reduceAdd,Nat.reduceMul,Nat.reduceLeDiff,Nat.reduceLT,Nat.reduceEqDiff];try trivial)) ⟨0,by omega,by omega,rfl,rfl⟩ ?_
 rintro n fr L ⟨k,hk,rfl,rfl,rfl⟩
 simp only [ir_intake_Check_L2,ZZ,WW,Ze,reduceCtorEq,Nat.reduceAdd,Nat.reduceMul,Nat.reduceLeDiff,Nat.reduceLT,Nat.reduceEqDiff]
 refine br ?_ ?_
 ·intro h
  have hlt:k < il.length:=by have:=of_decide_eq_true h;omega
  obtain ⟨x,hx⟩:∃ x,il[k]?=some x:=⟨_,List.getElem?_eq_getElem hlt⟩
  have hg:=itE_get hx
  have hab:=above_ok (E:=E0) il hP kv hkv (by omega) k x hx
  simp only [itC] at hg hab
  simp only [ZZ,WW,Ze,reduceCtorEq,Nat.reduceAdd,Nat.reduceMul,Nat.reduceLeDiff,Nat.reduceLT,Nat.reduceEqDiff,hg,itE_len]
  ((repeat' (with_reducible apply And.intro))<;>try ((exact sc_)))
  refine use hab rfl (.inl rfl) ?_
  rintro _ ⟨c,hc,rfl⟩
  simp only [ZZ,WW,Ze,reduceCtorEq,Nat.reduceAdd,Nat.reduceMul,Nat.reduceLeDiff,Nat.reduceLT,Nat.reduceEqDiff]
  ((repeat' (with_reducible apply And.intro))<;>try ((exact sc_)))
  refine end_round (il.length - (k+1)) [.p (.sl 7 (itE il)),oo,oo,oo,oo,oo,.p (.mpv (kv.map (·.1)) (kv.map (·.2))),oo,oo,oo,oo,oo,oo,oo,oo,oo,oo,oo,oo,oo,oo,oo,oo,oo,oo,oo,oo,oo,oo,oo,oo,oo,oo,oo,oo,oo,oo,oo,oo,oo,oo,oo,oo,oo,oo,oo,oo,oo,oo,oo,oo,oo,oo,oo,oo,oo,oo,oo,oo,oo,oo,oo,oo,oo,oo,oo,oo,oo,oo,oo,oo,oo,oo,oo,.p (.sl 7 (itE il)),.p (int (il.length:Nat)),.p (int ((k+1):Nat)),oo,oo,oo,oo,oo,oo,oo,oo,oo,oo,oo,oo,oo,oo,oo,oo,oo,oo,oo,oo,oo,oo,oo,oo] [] (by omega) (by (simp only [ZZ,WW,Ze,reduceCtorEq,Nat.reduceAdd,Nat.reduceMul,Nat.reduceLeDiff,Nat.reduceLT,Nat.reduceEqDiff];try trivial)) (by (simp only [ZZ,WW,Ze,reduceCtorEq,Nat.reduceAdd,Nat.reduceMul,Nat.reduceLeDiff,Nat.reduceLT,Nat.reduceEqDiff];try trivial)) ⟨k+1,by omega,rfl,rfl,rfl⟩
 intro h
 clear h
 simp only [ZZ,WW,Ze,reduceCtorEq,Nat.reduceAdd,Nat.reduceMul,Nat.reduceLeDiff,Nat.reduceLT,Nat.reduceEqDiff,itE_len]
 refine loop_intro (fun n fr L=>∃ (k:Nat),k≤il.length∧n=il.length - k∧fr=[.p (.sl 7 (itE il)),oo,oo,oo,oo,oo,.p (.mpv (kv.map (·.1)) (kv.map (·.2))),oo,oo,oo,oo,oo,oo,oo,oo,oo,oo,oo,oo,oo,oo,oo,oo,oo,oo,oo,oo,oo,oo,oo,oo,oo,oo,oo,oo,oo,oo,oo,oo,oo,oo,oo,oo,oo,oo,oo,oo,oo,oo,oo,oo,oo,oo,oo,oo,oo,oo,oo,oo,oo,oo,oo,oo,oo,oo,oo,oo,oo,oo,oo,oo,oo,oo,oo,oo,oo,oo,oo,oo,oo,oo,oo,oo,oo,oo,oo,oo,oo,.p (.sl 7 (itE il)),.p (int (il.length:Nat)),.p (int (k:Nat)),oo,oo,oo,oo,oo,oo,oo,oo,oo,oo]∧L=[]) (il.length) [.p (.sl 7 (itE il)),oo,oo,oo,oo,oo,.p (.mpv (kv.map (·.1)) (kv.map (·.2))),oo,oo,oo,oo,oo,oo,oo,oo,oo,oo,oo,oo,oo,oo,oo,oo,oo,oo,oo,oo,oo,oo,oo,oo,oo,oo,oo,oo,oo,oo,oo,oo,oo,oo,oo,oo,oo,oo,oo,oo,oo,oo,oo,oo,oo,oo,oo,oo,oo,oo,oo,oo,oo,oo,oo,oo,oo,oo,oo,oo,oo,oo,oo,oo,oo,oo,oo,oo,oo,oo,oo,oo,oo,oo,oo,oo,oo,oo,oo,oo,oo,.p (.sl 7 (itE il)),.p (int (il.length:Nat)),.p (int (0:Nat)),oo,oo,oo,oo,oo,oo,oo,oo,oo,oo] [] (by simp only [ZZ,WW,Ze,reduceCtorEq,Nat.reduceAdd,Nat.reduceMul,Nat.reduceLeDiff,Nat.reduceLT,Nat.reduceEqDiff,itE_len];try trivial) (by (simp only [ZZ,WW,Ze,reduceCtorEq,Nat.reduceAdd,Nat.reduceMul,Nat.reduceLeDiff,Nat.reduceLT,Nat.reduceEqDiff];try trivial)) ⟨0,by omega,by omega,rfl,rfl⟩ ?_
 rintro n fr L ⟨k,hk,rfl,rfl,rfl⟩
 simp only [ir_intake_Check_L3,ZZ,WW,Ze,reduceCtorEq,Nat.reduceAdd,Nat.reduceMul,Nat.reduceLeDiff,Nat.reduceLT,Nat.reduceEqDiff]
 refine br ?_ ?_
 ·intro h
  have hlt:k < il.length:=by have:=of_decide_eq_true h;omega
  obtain ⟨x,hx⟩:∃ x,il[k]?=some x:=⟨_,List.getElem?_eq_getElem hlt⟩
  have hg:=itE_get hx
  have hab:=placed_ok (E:=E0) il hP kv hkv (by omega) k x hx
  simp only [itC] at hg hab
  simp only [ZZ,WW,Ze,reduceCtorEq,Nat.reduceAdd,Nat.reduceMul,Nat.reduceLeDiff,Nat.reduceLT,Nat.reduceEqDiff,hg,itE_len]
  ((repeat' (with_reducible apply And.intro))<;>try ((exact sc_)))
  refine use1 hab rfl (.inl rfl) ?_
  simp only [ZZ,WW,Ze,reduceCtorEq,Nat.reduceAdd,Nat.reduceMul,Nat.reduceLeDiff,Nat.reduceLT,Nat.reduceEqDiff]
  refine br (fun h=>by simp at h) ?_
  intro _
  simp only [ZZ,WW,Ze,reduceCtorEq,Nat.reduceAdd,Nat.reduceMul,Nat.reduceLeDiff,Nat.reduceLT,Nat.reduceEqDiff]
  ((repeat' (with_reducible apply And.intro))<;>try ((exact sc_)))
  refine end_round (il.length - (k+1)) [.p (.sl 7 (itE il)),oo,oo,oo,oo,oo,.p (.mpv (kv.map (·.1)) (kv.map (·.2))),oo,oo,oo,oo,oo,oo,oo,oo,oo,oo,oo,oo,oo,oo,oo,oo,oo,oo,oo,oo,oo,oo,oo,oo,oo,oo,oo,oo,oo,oo,oo,oo,oo,oo,oo,oo,oo,oo,oo,oo,oo,oo,oo,oo,oo,oo,oo,oo,oo,oo,oo,oo,oo,oo,oo,oo,oo,oo,oo,oo,oo,oo,oo,oo,oo,oo,oo,oo,oo,oo,oo,oo,oo,oo,oo,oo,oo,oo,oo,oo,oo,.p (.sl 7 (itE il)),.p (int (il.length:Nat)),.p (int ((k+1):Nat)),oo,oo,oo,oo,oo,oo,oo,oo,oo,oo] [] (by omega) (by (simp only [ZZ,WW,Ze,reduceCtorEq,Nat.reduceAdd,Nat.reduceMul,Nat.reduceLeDiff,Nat.reduceLT,Nat.reduceEqDiff];try trivial)) (by (simp only [ZZ,WW,Ze,reduceCtorEq,Nat.reduceAdd,Nat.reduceMul,Nat.reduceLeDiff,Nat.reduceLT,Nat.reduceEqDiff];try trivial)) ⟨k+1,by omega,rfl,rfl,rfl⟩
 intro h
 simp only [ZZ,WW,Ze,reduceCtorEq,Nat.reduceAdd,Nat.reduceMul,Nat.reduceLeDiff,Nat.reduceLT,Nat.reduceEqDiff]
end Go.Proofs.YtehfjlpenlffmaaGreatDoor
