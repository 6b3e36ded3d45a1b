import Derived.Test.YtinffddgojhdfaaGreatDoorZ6
import Derived.Lib.Bytealg
import Derived.Test.YtinffddgojhdfaaGreatDoorZ4
import Derived.Test.YtinffddgojhdfaaGreatDoorLayCompare
import Derived.Test.YtinffddgojhdfaaGreatDoorRep
import Derived.Lib.Join
import Derived.Test.YtinffddgojhdfaaGreatDoorZ5
import Derived.WalkKit
import Derived.OwnWalk
import Derived.Lib.Builder
import Derived.Laws.Externs
import Derived.Maps.AppendAt
import Derived.Shelf.RegionOpenPlain
import Derived.Lib.Strings
import Derived.Lib.Slices
import Derived.Lib.Walk
import Derived.Lib.MakeNoZero
import Derived.Laws.IdiomCopy
import Derived.Laws.BitsLemmas
import Derived.KernelRfl
set_option linter.unusedVariables false
set_option linter.unusedSimpArgs false
set_option linter.defProp false
namespace Go.Proofs.YtinffddgojhdfaaGreatDoor
open Go.RowKit
def ir_base_small:IC:=(.seq (.reg [qO 2 (.mov (.c (.bool false)))]) (.seq (.reg [qM 3 0,qO 4 (.bin .geq (.t 3) (.c (.int .u8 97))),qM 5 4,⟨some 6,.mov (.t 0),(some (5,true))⟩,⟨some 7,.bin .leq (.t 6) (.c (.int .u8 122)),(some (5,true))⟩,qO 8 (.pick (.t 5) (.t 7) (.c (.bool false))),qM 2 8]) .ret))
def rs_base_small:List IRes:=[.t 2]
theorem ck_base_small:chkF Tryz.prog Tryz.f75 ir_base_small rs_base_small 9=true:=by kernel_rfl
def ir_base_Key_L0:IC:=(.seq (.reg [qO 18 (.bin .lss (.t 17) (.t 16))]) (.seq (.cond (.t 18) .skip (.exit 0)) (.seq (.block 1 (.seq (.reg [qM 19 17,qM 3 19]) (.seq (.reg [qM 20 0,qM 21 3,qO 22 (.idx (.t 20) (.t 21)),qM 4 22]) (.seq (.reg [qM 23 4,qO 24 (.call 75 [.t 23]),qO 25 (.not (.t 24)),qM 26 25,⟨some 27,.mov (.t 4),(some (26,true))⟩,⟨some 28,.call 76 [.t 27],(some (26,true))⟩,⟨some 29,.not (.t 28),(some (26,true))⟩,qO 30 (.pick (.t 26) (.t 29) (.c (.bool false))),qM 31 30,⟨some 32,.mov (.t 4),(some (31,true))⟩,⟨some 33,.bin .neq (.t 32) (.c (.int .u8 45)),(some (31,true))⟩,qO 34 (.pick (.t 31) (.t 33) (.c (.bool false))),qM 35 34,⟨some 36,.mov (.t 4),(some (35,true))⟩,⟨some 37,.bin .neq (.t 36) (.c (.int .u8 95)),(some (35,true))⟩,qO 38 (.pick (.t 35) (.t 37) (.c (.bool false)))]) (.cond (.t 38) (.seq (.reg [qO 2 (.mov (.c (.bool false)))]) .ret) .skip))))) (.reg [qO 39 (.bin .add (.t 17) (.c (.int .i64 1))),qM 17 39]))))
def ir_base_Key:IC:=(.seq (.reg [qO 2 (.mov (.c (.bool false)))]) (.seq (.seq (.reg [qM 5 0,qO 6 (.sln (.t 5)),qO 7 (.call 45 [.t 6,.c (.int .i64 1),.c (.int .i64 40)]),qO 8 (.not (.t 7)),qM 9 8,⟨some 10,.mov (.t 0),(some (9,false))⟩,⟨some 11,.idx (.t 10) (.c (.int .i64 0)),(some (9,false))⟩,⟨some 12,.call 75 [.t 11],(some (9,false))⟩,⟨some 13,.not (.t 12),(some (9,false))⟩,qO 14 (.pick (.t 9) (.c (.bool true)) (.t 13))]) (.cond (.t 14) (.seq (.reg [qO 2 (.mov (.c (.bool false)))]) .ret) .skip)) (.seq (.seq (.reg [qM 15 0,qO 16 (.sln (.t 15)),qO 17 (.mov (.c (.int .i64 0)))]) (.block 0 (.loop ir_base_Key_L0))) (.seq (.reg [qO 2 (.mov (.c (.bool true)))]) .ret))))
def rs_base_Key:List IRes:=[.t 2]
theorem ck_base_Key:chkF Tryz.prog Tryz.f42 ir_base_Key rs_base_Key 40=true:=by kernel_rfl
def smB (c:UInt8):Bool:=decide (97≤(c.toNat:Int)) && decide ((c.toNat:Int)≤122)
def kcB (c:UInt8):Bool:=((smB c || digB c) || decide (c=45)) || decide (c=95)
def keyB (s:List UInt8):Bool:=(inE s.length 1 40 && smB (s.headD 0)) && s.all kcB
def smSet:List UInt8:=[97,98,99,100,101,102,103,104,105,106,107,108,109,110,111,112,113,114,115,116,117,118,119,120,121,122]
def kcSet:List UInt8:=smSet++[48,49,50,51,52,53,54,55,56,57,45,95]
theorem smB_set (c:UInt8):smSet.contains c=smB c:=all256 (p:=fun c=>smSet.contains c=smB c) (by decide +kernel) c
theorem kcB_set (c:UInt8):kcSet.contains c=kcB c:=all256 (p:=fun c=>kcSet.contains c=kcB c) (by decide +kernel) c
theorem u8_45 (c:UInt8):decide ((c.toNat:Int)=45)=decide (c=45):=all256 (p:=fun c=>decide ((c.toNat:Int)=45)=decide (c=45)) (by decide +kernel) c
theorem u8_95 (c:UInt8):decide ((c.toNat:Int)=95)=decide (c=95):=all256 (p:=fun c=>decide ((c.toNat:Int)=95)=decide (c=95)) (by decide +kernel) c
section
variable {E:Envt}
theorem small_ok (c:UInt8):PCall Tryz.prog E 75 [.int .u8 (c.toNat:Nat)] (·=.bool (smB c)):=by
 refine pcallF mixed Tryz.func75 ck_base_small ?_
 simp only [a0,l0,OS.ao,List.map_cons,List.map_nil,List.length_cons,List.length_nil,List.cons_append,List.nil_append,Nat.reduceSub,Nat.reduceAdd,List.replicate_succ,List.replicate_zero,ir_base_small,rs_base_small,ZZ,WW,Ze,reduceCtorEq,Nat.reduceAdd,Nat.reduceMul,Nat.reduceLeDiff,Nat.reduceLT,Nat.reduceEqDiff]
 ((repeat' (with_reducible apply And.intro))<;>try ((exact sc_)))
theorem Key_ok (s:List UInt8) (hs:s.length≤1000000000):PCall Tryz.prog E 42 [.str s] (·=.bool (keyB s)):=by
 refine pcallF mixed Tryz.func42 ck_base_Key ?_
 simp only [a0,l0,OS.ao,List.map_cons,List.map_nil,List.length_cons,List.length_nil,List.cons_append,List.nil_append,Nat.reduceSub,Nat.reduceAdd,List.replicate_succ,List.replicate_zero,ir_base_Key,rs_base_Key,ZZ,WW,Ze,reduceCtorEq,Nat.reduceAdd,Nat.reduceMul,Nat.reduceLeDiff,Nat.reduceLT,Nat.reduceEqDiff]
 refine use1 (In_ok s.length 1 40) rfl (.inl rfl) ?_
 by_cases hi:inE s.length 1 40=true
 rotate_left
 ·have hi:inE s.length 1 40=false:=by simpa using hi
  have hk:keyB s=false:=by rw [keyB,hi];rfl
  rw [hi,hk]
  simp only [ZZ,WW,Ze,reduceCtorEq,Nat.reduceAdd,Nat.reduceMul,Nat.reduceLeDiff,Nat.reduceLT,Nat.reduceEqDiff]
  refine ⟨fun h=>h.elim,?_⟩
  refine useGC (fun h=>by cases h) (fun _=>?_)
  simp only [ZZ,WW,Ze,reduceCtorEq,Nat.reduceAdd,Nat.reduceMul,Nat.reduceLeDiff,Nat.reduceLT,Nat.reduceEqDiff]
 have hi2:=hi
 simp only [inE,Bool.and_eq_true,decide_eq_true_eq] at hi2
 obtain ⟨c0,hc0⟩:∃ c,s[0]?=some c:=⟨_,List.getElem?_eq_getElem (by omega)⟩
 have hd0:s.headD 0=c0:=by cases s with|nil=>simp at hc0|cons a r=>simpa using hc0
 have hg0:s.getD (Int.toNat 0) 0=c0:=by simp [List.getD,hc0]
 have hk:keyB s=(smB c0 && s.all kcB):=by rw [keyB,hi,hd0,Bool.true_and]
 rw [hi,hk]
 simp only [ZZ,WW,Ze,reduceCtorEq,Nat.reduceAdd,Nat.reduceMul,Nat.reduceLeDiff,Nat.reduceLT,Nat.reduceEqDiff,hg0]
 ((repeat' (with_reducible apply And.intro))<;>try ((exact sc_)))
 refine useG (fun _=>small_ok c0) rfl (.inl rfl) ?_
 simp only [ZZ,WW,Ze,reduceCtorEq,Nat.reduceAdd,Nat.reduceMul,Nat.reduceLeDiff,Nat.reduceLT,Nat.reduceEqDiff]
 refine br ?_ ?_
 ·intro h
  have h:smB c0=false:=by simpa using h
  simp only [ZZ,WW,Ze,reduceCtorEq,Nat.reduceAdd,Nat.reduceMul,Nat.reduceLeDiff,Nat.reduceLT,Nat.reduceEqDiff]
  rw [h]
  rfl
 intro h
 have h:smB c0=true:=by simpa using h
 rw [h,Bool.true_and]
 simp only [ZZ,WW,Ze,reduceCtorEq,Nat.reduceAdd,Nat.reduceMul,Nat.reduceLeDiff,Nat.reduceLT,Nat.reduceEqDiff]
 refine loop_intro (fun n fr L=>∃ (k:Nat),k≤s.length∧n=s.length - k∧(s.all kcB=(s.drop k).all kcB)∧fr=[.p (.str s),oo,oo,oo,oo,oo,oo,oo,oo,oo,oo,oo,oo,oo,oo,oo,.p (int (s.length:Nat)),.p (int (k:Nat)),oo,oo,oo,oo,oo,oo,oo,oo,oo,oo,oo,oo,oo,oo,oo,oo,oo,oo,oo,oo,oo,oo]∧L=[]) (s.length) [.p (.str s),oo,oo,oo,oo,oo,oo,oo,oo,oo,oo,oo,oo,oo,oo,oo,.p (int (s.length:Nat)),.p (int (0:Nat)),oo,oo,oo,oo,oo,oo,oo,oo,oo,oo,oo,oo,oo,oo,oo,oo,oo,oo,oo,oo,oo,oo] [] (by (simp only [ZZ,WW,Ze,reduceCtorEq,Nat.reduceAdd,Nat.reduceMul,Nat.reduceLeDiff,Nat.reduceLT,Nat.reduceEqDiff];try trivial)) (by (simp only [ZZ,WW,Ze,reduceCtorEq,Nat.reduceAdd,Nat.reduceMul,Nat.reduceLeDiff,Nat.reduceLT,Nat.reduceEqDiff];try trivial)) ⟨0,by omega,by omega,by simp,rfl,rfl⟩ ?_
 rintro n fr L ⟨k,hk,rfl,hf,rfl,rfl⟩
 simp only [ir_base_Key_L0,ZZ,WW,Ze,reduceCtorEq,Nat.reduceAdd,Nat.reduceMul,Nat.reduceLeDiff,Nat.reduceLT,Nat.reduceEqDiff]
 refine br ?_ ?_
 ·intro h2
  have hlt:k < s.length:=by have:=of_decide_eq_true h2;omega
  obtain ⟨c,hc⟩:∃ c,s[k]?=some c:=⟨_,List.getElem?_eq_getElem hlt⟩
  have hg:s.getD k 0=c:=by simp [List.getD,hc]
  have hdr:s.drop k=c :: s.drop (k+1):=by
   obtain ⟨hl,rfl⟩:=List.getElem?_eq_some_iff.1 hc
   exact List.drop_eq_getElem_cons hl
  rw [hdr,List.all_cons] at hf
  simp only [ZZ,WW,Ze,reduceCtorEq,Nat.reduceAdd,Nat.reduceMul,Nat.reduceLeDiff,Nat.reduceLT,Nat.reduceEqDiff,hg]
  ((repeat' (with_reducible apply And.intro))<;>try ((exact sc_)))
  refine use1 (small_ok c) rfl (.inl rfl) ?_
  simp only [ZZ,WW,Ze,reduceCtorEq,Nat.reduceAdd,Nat.reduceMul,Nat.reduceLeDiff,Nat.reduceLT,Nat.reduceEqDiff]
  refine useG (fun _=>Digit_ok c) rfl (.inl rfl) ?_
  have hkc:(!smB c && !digB c && !decide (c=45) && !decide (c=95))=!kcB c:=by
   unfold kcB
   cases smB c<;>cases digB c<;>cases decide (c=45)<;>cases decide (c=95)<;>rfl
  simp only [ZZ,WW,Ze,reduceCtorEq,Nat.reduceAdd,Nat.reduceMul,Nat.reduceLeDiff,Nat.reduceLT,Nat.reduceEqDiff,u8_45,u8_95,hkc]
  ((repeat' (with_reducible apply And.intro))<;>try ((exact sc_)))
  refine br ?_ ?_
  ·intro hb
   have hb:kcB c=false:=by simpa using hb
   rw [hf,hb]
   simp only [ZZ,WW,Ze,reduceCtorEq,Nat.reduceAdd,Nat.reduceMul,Nat.reduceLeDiff,Nat.reduceLT,Nat.reduceEqDiff]
   rfl
  ·intro hb
   have hb:kcB c=true:=by simpa using hb
   rw [hb,Bool.true_and] at hf
   simp only [ZZ,WW,Ze,reduceCtorEq,Nat.reduceAdd,Nat.reduceMul,Nat.reduceLeDiff,Nat.reduceLT,Nat.reduceEqDiff]
   ((repeat' (with_reducible apply And.intro))<;>try ((exact sc_)))
   refine end_round (s.length - (k+1)) [.p (.str s),oo,oo,oo,oo,oo,oo,oo,oo,oo,oo,oo,oo,oo,oo,oo,.p (int (s.length:Nat)),.p (int ((k+1):Nat)),oo,oo,oo,oo,oo,oo,oo,oo,oo,oo,oo,oo,oo,oo,oo,oo,oo,oo,oo,oo,oo,oo] [] (by omega) (by (simp only [ZZ,WW,Ze,reduceCtorEq,Nat.reduceAdd,Nat.reduceMul,Nat.reduceLeDiff,Nat.reduceLT,Nat.reduceEqDiff];try trivial)) (by (simp only [ZZ,WW,Ze,reduceCtorEq,Nat.reduceAdd,Nat.reduceMul,Nat.reduceLeDiff,Nat.reduceLT,Nat.reduceEqDiff];try trivial)) ⟨k+1,by omega,rfl,hf,rfl,rfl⟩
 ·intro h2
  have hge:k=s.length:=by have:=of_decide_eq_false h2;omega
  rw [hf,hge,List.drop_length]
  simp only [ZZ,WW,Ze,reduceCtorEq,Nat.reduceAdd,Nat.reduceMul,Nat.reduceLeDiff,Nat.reduceLT,Nat.reduceEqDiff]
end
end Go.Proofs.YtinffddgojhdfaaGreatDoor
namespace Go.Proofs.YtinffddgojhdfaaGreatDoor
structure OrdP {α:Type} (lt:α→α→Bool):Prop where
 asym:∀ x y,lt x y=true→lt y x=false
 ntr:∀ x y z,lt x y=false→lt y z=false→lt x z=false
section
variable {α:Type} {lt:α→α→Bool}
end
structure CmpP {α:Type} (c:α→α→Int):Prop where
 anti:∀ x y,c x y < 0↔0 < c y x
 tr:∀ x y z,c x y≤0→c y z≤0→c x z≤0
def ltC {α:Type} (c:α→α→Int) (x y:α):Bool:=decide (c x y < 0)
def orC {α:Type} (c d:α→α→Int) (x y:α):Int:=if c x y=0 then d x y else c x y
section
variable {α β:Type} {c d:α→α→Int}
theorem CmpP.ord (h:CmpP c):OrdP (ltC c) where
 asym x y h1:=by
  simp only [ltC,decide_eq_true_eq,decide_eq_false_iff_not] at *
  have:=h.anti x y
  omega
 ntr x y z h1 h2:=by
  simp only [ltC,decide_eq_false_iff_not] at *
  have a1:=h.anti x y
  have a2:=h.anti y z
  have a3:=h.anti x z
  have a4:=h.anti y x
  have a5:=h.anti z y
  have:=h.tr z y x
  omega
theorem CmpP.or (h:CmpP c) (k:CmpP d):CmpP (orC c d) where
 anti x y:=by
  have a1:=h.anti x y
  have a2:=h.anti y x
  have a3:=k.anti x y
  unfold orC
  split<;>split<;>omega
 tr x y z:=by
  have a1:=h.anti x y
  have a2:=h.anti y x
  have a3:=h.anti y z
  have a4:=h.anti z y
  have a5:=h.anti x z
  have a6:=h.anti z x
  have t1:=h.tr x y z
  have t2:=h.tr y z x
  have t3:=h.tr z x y
  have t4:=h.tr z y x
  have t5:=k.tr x y z
  unfold orC
  intro h1 h2
  split at h1<;>split at h2<;>split<;>omega
theorem CmpP.zero:CmpP (fun (_ _:α)=>(0:Int)):=⟨fun _ _=>by omega,fun _ _ _ _ _=>by omega⟩
theorem CmpP.on (f:β→α) (h:CmpP c):CmpP (fun x y=>c (f x) (f y)):=⟨fun _ _=>h.anti _ _,fun _ _ _=>h.tr _ _ _⟩
theorem CmpP.sub:CmpP (fun (x y:Int)=>x - y):=⟨fun _ _=>by omega,fun _ _ _ _ _=>by omega⟩
end
theorem cb_anti:∀ a b:List UInt8,Lib.compareBytes a b=- Lib.compareBytes b a
 |[],[]=>rfl
 |[],_ :: _=>rfl
 |_ :: _,[]=>rfl
 |a :: r,b :: s=>by
  have ih:=cb_anti r s
  simp only [Lib.compareBytes,UInt8.lt_iff_toNat_lt]
  by_cases p1:a.toNat < b.toNat<;>by_cases p2:b.toNat < a.toNat<;>simp only [p1,p2,if_true,if_false]<;>omega
theorem cb_zero:∀ {a b:List UInt8},Lib.compareBytes a b=0→a=b
 |[],[],_=>rfl
 |[],_ :: _,h=>by cases h
 |_ :: _,[],h=>by cases h
 |a :: r,b :: s,h=>by
  simp only [Lib.compareBytes,UInt8.lt_iff_toNat_lt] at h
  by_cases p1:a.toNat < b.toNat
  ·rw [if_pos p1] at h;cases h
  by_cases p2:b.toNat < a.toNat
  ·rw [if_neg p1,if_pos p2] at h;cases h
  rw [if_neg p1,if_neg p2] at h
  rw [cb_zero h,UInt8.toNat_inj.1 (show a.toNat=b.toNat by omega)]
theorem cb_tr:∀ a b c:List UInt8,Lib.compareBytes a b≤0→Lib.compareBytes b c≤0→Lib.compareBytes a c≤0
 |[],_,[],_,_=>by decide
 |[],_,_ :: _,_,_=>by simp [Lib.compareBytes]
 |_ :: _,[],_,h,_=>by simp [Lib.compareBytes] at h
 |_ :: _,_ :: _,[],_,h=>by simp [Lib.compareBytes] at h
 |a :: r,b :: s,c :: t,h1,h2=>by
  have ih:=cb_tr r s t
  simp only [Lib.compareBytes,UInt8.lt_iff_toNat_lt] at h1 h2 ⊢
  by_cases p1:a.toNat < b.toNat<;>by_cases p2:b.toNat < a.toNat<;>by_cases q1:b.toNat < c.toNat<;>by_cases q2:c.toNat < b.toNat<;>by_cases r1:a.toNat < c.toNat<;>by_cases r2:c.toNat < a.toNat<;>simp only [p1,p2,q1,q2,r1,r2,if_true,if_false] at h1 h2 ⊢<;>first|omega|exact ih h1 h2
theorem CmpP.cb:CmpP Lib.compareBytes:=⟨fun x y=>by have:=cb_anti x y;omega,cb_tr⟩
theorem cb_self (a:List UInt8):Lib.compareBytes a a=0:=by have:=cb_anti a a;omega
end Go.Proofs.YtinffddgojhdfaaGreatDoor
namespace Go.Proofs.YtinffddgojhdfaaGreatDoor
open Go.RowKit
def ir_cmp_isNaN_int:IC:=(.seq (.reg [qO 2 (.mov (.c (.bool false)))]) (.seq (.reg [qM 3 0,qM 4 0,qO 5 (.bin .neq (.t 3) (.t 4)),qM 2 5]) .ret))
def rs_cmp_isNaN_int:List IRes:=[.t 2]
theorem ck_cmp_isNaN_int:chkF Tryz.prog Tryz.f106 ir_cmp_isNaN_int rs_cmp_isNaN_int 6=true:=by kernel_rfl
def ir_cmp_Compare_int:IC:=(.seq (.reg [qO 4 (.mov (.c (.int .i64 0)))]) (.seq (.reg [qM 7 0,qO 8 (.call 106 [.t 7]),qM 5 8]) (.seq (.reg [qM 9 1,qO 10 (.call 106 [.t 9]),qM 6 10]) (.seq (.seq (.reg [qM 11 5]) (.cond (.t 11) (.seq (.seq (.reg [qM 12 6]) (.cond (.t 12) (.seq (.reg [qO 4 (.mov (.c (.int .i64 0)))]) .ret) .skip)) (.seq (.reg [qO 4 (.mov (.c (.int .i64 (-1))))]) .ret)) .skip)) (.seq (.seq (.reg [qM 13 6]) (.cond (.t 13) (.seq (.reg [qO 4 (.mov (.c (.int .i64 1)))]) .ret) .skip)) (.seq (.seq (.reg [qM 14 0,qM 15 1,qO 16 (.bin .lss (.t 14) (.t 15))]) (.cond (.t 16) (.seq (.reg [qO 4 (.mov (.c (.int .i64 (-1))))]) .ret) .skip)) (.seq (.seq (.reg [qM 17 0,qM 18 1,qO 19 (.bin .gtr (.t 17) (.t 18))]) (.cond (.t 19) (.seq (.reg [qO 4 (.mov (.c (.int .i64 1)))]) .ret) .skip)) (.seq (.reg [qO 4 (.mov (.c (.int .i64 0)))]) .ret))))))))
def rs_cmp_Compare_int:List IRes:=[.t 4]
theorem ck_cmp_Compare_int:chkF Tryz.prog Tryz.f79 ir_cmp_Compare_int rs_cmp_Compare_int 20=true:=by kernel_rfl
def ir_cmp_Or_int_L0:IC:=(.seq (.reg [qO 9 (.bin .lss (.t 8) (.t 7))]) (.seq (.cond (.t 9) .skip (.exit 0)) (.seq (.block 1 (.seq (.reg [qO 10 (.ixa 1 (.t 6) (.t 8)),qO 11 (.ld 1 false (.t 10)),qM 5 11]) (.seq (.reg [qM 12 5,qM 13 3,qO 14 (.bin .neq (.t 12) (.t 13))]) (.cond (.t 14) (.seq (.reg [qM 15 5,qM 2 15]) .ret) .skip)))) (.reg [qO 16 (.bin .add (.t 8) (.c (.int .i64 1))),qM 8 16]))))
def ir_cmp_Or_int:IC:=(.seq (.reg [qO 2 (.mov (.c (.int .i64 0)))]) (.seq (.reg [qO 3 (.mov (.c (.int .i64 0)))]) (.seq (.seq (.reg [qM 6 0,qO 7 (.len (.t 6)),qO 8 (.mov (.c (.int .i64 0)))]) (.block 0 (.loop ir_cmp_Or_int_L0))) (.seq (.reg [qM 17 3,qM 2 17]) .ret))))
def rs_cmp_Or_int:List IRes:=[.t 2]
theorem ck_cmp_Or_int:chkF Tryz.prog Tryz.f77 ir_cmp_Or_int rs_cmp_Or_int 18=true:=by kernel_rfl
def sgnC (a b:Int):Int:=if a < b then -1 else if b < a then 1 else 0
section
variable {E:Envt}
theorem isNaNI_ok (n:Int):PCall Tryz.prog E 106 [int n] (·=.bool false):=by
 refine pcallF mixed Tryz.func106 ck_cmp_isNaN_int ?_
 simp only [a0,l0,OS.ao,List.map_cons,List.map_nil,List.length_cons,List.length_nil,List.cons_append,List.nil_append,Nat.reduceSub,Nat.reduceAdd,List.replicate_succ,List.replicate_zero,ir_cmp_isNaN_int,rs_cmp_isNaN_int,ZZ,WW,Ze,reduceCtorEq,Nat.reduceAdd,Nat.reduceMul,Nat.reduceLeDiff,Nat.reduceLT,Nat.reduceEqDiff]
 simp
theorem CompareI_ok (a b:Int):PCall Tryz.prog E 79 [int a,int b] (·=int (sgnC a b)):=by
 refine pcallF mixed Tryz.func79 ck_cmp_Compare_int ?_
 simp only [a0,l0,OS.ao,List.map_cons,List.map_nil,List.length_cons,List.length_nil,List.cons_append,List.nil_append,Nat.reduceSub,Nat.reduceAdd,List.replicate_succ,List.replicate_zero,ir_cmp_Compare_int,rs_cmp_Compare_int,ZZ,WW,Ze,reduceCtorEq,Nat.reduceAdd,Nat.reduceMul,Nat.reduceLeDiff,Nat.reduceLT,Nat.reduceEqDiff]
 refine use1 (isNaNI_ok a) rfl (.inl rfl) ?_
 simp only [ZZ,WW,Ze,reduceCtorEq,Nat.reduceAdd,Nat.reduceMul,Nat.reduceLeDiff,Nat.reduceLT,Nat.reduceEqDiff]
 refine use1 (isNaNI_ok b) rfl (.inl rfl) ?_
 simp only [ZZ,WW,Ze,reduceCtorEq,Nat.reduceAdd,Nat.reduceMul,Nat.reduceLeDiff,Nat.reduceLT,Nat.reduceEqDiff]
 unfold sgnC
 refine br ?_ ?_
 ·intro h
  simp only [ZZ,WW,Ze,reduceCtorEq,Nat.reduceAdd,Nat.reduceMul,Nat.reduceLeDiff,Nat.reduceLT,Nat.reduceEqDiff]
  rw [if_pos (of_decide_eq_true h)]
 intro h
 simp only [ZZ,WW,Ze,reduceCtorEq,Nat.reduceAdd,Nat.reduceMul,Nat.reduceLeDiff,Nat.reduceLT,Nat.reduceEqDiff]
 refine br ?_ ?_
 ·intro h2
  simp only [ZZ,WW,Ze,reduceCtorEq,Nat.reduceAdd,Nat.reduceMul,Nat.reduceLeDiff,Nat.reduceLT,Nat.reduceEqDiff]
  rw [if_neg (of_decide_eq_false h),if_pos (of_decide_eq_true h2)]
 intro h2
 simp only [ZZ,WW,Ze,reduceCtorEq,Nat.reduceAdd,Nat.reduceMul,Nat.reduceLeDiff,Nat.reduceLT,Nat.reduceEqDiff]
 rw [if_neg (of_decide_eq_false h),if_neg (of_decide_eq_false h2)]
theorem OrI_ok (l:List Int) (hl:l.length≤1000000):PCall Tryz.prog E 77 [ints l] (·=int (firstE l)):=by
 refine pcallF mixed Tryz.func77 ck_cmp_Or_int ?_
 simp only [a0,l0,OS.ao,List.map_cons,List.map_nil,List.length_cons,List.length_nil,List.cons_append,List.nil_append,Nat.reduceSub,Nat.reduceAdd,List.replicate_succ,List.replicate_zero,ir_cmp_Or_int,rs_cmp_Or_int,ZZ,WW,Ze,reduceCtorEq,Nat.reduceAdd,Nat.reduceMul,Nat.reduceLeDiff,Nat.reduceLT,Nat.reduceEqDiff]
 simp only [ints,ZZ,WW,Ze,reduceCtorEq,Nat.reduceAdd,Nat.reduceMul,Nat.reduceLeDiff,Nat.reduceLT,Nat.reduceEqDiff]
 generalize hes:l.map (fun x=>[PV.int IntKind.i64 x])=es
 have hln:es.length=l.length:=by rw [← hes];simp
 refine loop_intro (fun n fr L=>∃ (k:Nat),k≤l.length∧n=l.length - k∧(firstE l=firstE (l.drop k))∧fr=[.p (.sl 1 es),oo,.p (int 0),.p (int 0),oo,oo,.p (.sl 1 es),.p (int (es.length:Nat)),.p (int (k:Nat)),oo,oo,oo,oo,oo,oo,oo,oo,oo]∧L=[]) (l.length) [.p (.sl 1 es),oo,.p (int 0),.p (int 0),oo,oo,.p (.sl 1 es),.p (int (es.length:Nat)),.p (int (0:Nat)),oo,oo,oo,oo,oo,oo,oo,oo,oo] [] zF_ (by (simp only [ZZ,WW,Ze,reduceCtorEq,Nat.reduceAdd,Nat.reduceMul,Nat.reduceLeDiff,Nat.reduceLT,Nat.reduceEqDiff];try trivial)) ⟨0,by omega,by omega,rfl,rfl,rfl⟩ ?_
 rintro n fr L ⟨k,hk,rfl,hF,rfl,rfl⟩
 simp only [ir_cmp_Or_int_L0,ZZ,WW,Ze,reduceCtorEq,Nat.reduceAdd,Nat.reduceMul,Nat.reduceLeDiff,Nat.reduceLT,Nat.reduceEqDiff]
 refine br ?_ ?_
 ·intro h
  have hlt:k < l.length:=by have:=of_decide_eq_true h;omega
  obtain ⟨x,hx⟩:∃ x,l[k]?=some x:=⟨_,List.getElem?_eq_getElem hlt⟩
  have hg:es.getD k []=[.int .i64 x]:=by rw [← hes];exact getD_map hx
  have hd:=firstE_drop l k x hx
  simp only [ZZ,WW,Ze,reduceCtorEq,Nat.reduceAdd,Nat.reduceMul,Nat.reduceLeDiff,Nat.reduceLT,Nat.reduceEqDiff,hg]
  ((repeat' (with_reducible apply And.intro))<;>try ((exact sc_)))
  refine br ?_ ?_
  ·intro h2
   have h3:¬ x=0:=by simpa using h2
   simp only [ZZ,WW,Ze,reduceCtorEq,Nat.reduceAdd,Nat.reduceMul,Nat.reduceLeDiff,Nat.reduceLT,Nat.reduceEqDiff]
   rw [hF,hd,if_neg h3]
  ·intro h2
   have h3:x=0:=by simpa using h2
   rw [if_pos h3] at hd
   simp only [ZZ,WW,Ze,reduceCtorEq,Nat.reduceAdd,Nat.reduceMul,Nat.reduceLeDiff,Nat.reduceLT,Nat.reduceEqDiff]
   ((repeat' (with_reducible apply And.intro))<;>try ((exact sc_)))
   refine end_round (l.length - (k+1)) [.p (.sl 1 es),oo,.p (int 0),.p (int 0),oo,oo,.p (.sl 1 es),.p (int (es.length:Nat)),.p (int ((k+1):Nat)),oo,oo,oo,oo,oo,oo,oo,oo,oo] [] (by omega) (by (simp only [ZZ,WW,Ze,reduceCtorEq,Nat.reduceAdd,Nat.reduceMul,Nat.reduceLeDiff,Nat.reduceLT,Nat.reduceEqDiff];try trivial)) (by (simp only [ZZ,WW,Ze,reduceCtorEq,Nat.reduceAdd,Nat.reduceMul,Nat.reduceLeDiff,Nat.reduceLT,Nat.reduceEqDiff];try trivial)) ⟨k+1,by omega,rfl,by rw [hF,hd],rfl,rfl⟩
 ·intro h
  have hge:l.length≤k:=by have:=of_decide_eq_false h;omega
  simp only [ZZ,WW,Ze,reduceCtorEq,Nat.reduceAdd,Nat.reduceMul,Nat.reduceLeDiff,Nat.reduceLT,Nat.reduceEqDiff]
  rw [hF,List.drop_eq_nil_of_le (by omega)]
  rfl
theorem StrCompare_ok (s t:List UInt8):PCall Tryz.prog E 78 [.str s,.str t] (·=int (Lib.compareBytes s t)):=
 pcall_flat rfl rfl fun w _=>(Any.strings_Compare Tryz.layCompare ⟨s.toArray⟩ ⟨t.toArray⟩ w).mono fun e w' h=>⟨h.1,by rw [h.2];exact Grow.refl _ _⟩
end
end Go.Proofs.YtinffddgojhdfaaGreatDoor
namespace Go.Proofs.YtinffddgojhdfaaGreatDoor
theorem mpF_mpS:∀ (kv:List (List UInt8×PV)) (s t:List UInt8) (v:PV),mpF (mpS kv s v) t=if s=t then some v else mpF kv t
 |[],s,t,v=>by simp [mpS,mpF]
 |p :: r,s,t,v=>by
  simp only [mpS]
  split
  ·rename_i h
   by_cases hs:s=t
   ·simp [mpF,hs]
   ·simp [mpF,hs,h]
  ·rename_i h
   simp only [mpF,mpF_mpS r s t v]
   by_cases hp:p.1=t
   ·have:¬ s=t:=fun e=>h (hp.trans e.symm)
    simp [hp,this]
   ·simp [hp]
end Go.Proofs.YtinffddgojhdfaaGreatDoor
namespace Go.Proofs.YtinffddgojhdfaaGreatDoor
open Go.RowKit
section
variable {E:Envt}
end
section
variable {E:Envt}
theorem RepeatG_ok (s:List UInt8) (n:Nat) (hn:n≤1000000) (hs:s.length≤1000000):PCall Tryz.prog E 54 [.str s,int n] (·=.str (Lib.repeatL s n)):=
 pcall_flat rfl rfl fun w _=>(r_Repeat ⟨s.toArray⟩ n w (by omega) (by rw [show (⟨s.toArray⟩:ByteArray).size=s.length from by simp [ByteArray.size]];exact Nat.le_trans (Nat.mul_le_mul hs hn) (by decide))).mono fun e w' h=>⟨h.1,grow_below h.2⟩
end
end Go.Proofs.YtinffddgojhdfaaGreatDoor
namespace Go.Proofs.YtinffddgojhdfaaGreatDoor
section
variable {E:Envt}
abbrev Par:=List UInt8×Int×Int
def t1:List UInt8:=[108,101,103,97,108,32,97,100,118,105,99,101]
def t2:List UInt8:=[112,114,105,118,105,108,101,103,101,100,32,97,110,100,32,99,111,110,102,105,100,101,110,116,105,97,108]
def p0:List Par:=[([97,105,100,64,111,117,114,115,46,100,101],1,3),([97,110,110,64,102,105,114,109,46,100,101],1,2),([108,97,119,64,111,117,114,115,46,100,101],1,1)]
def d0 (y:Int):List Par:=[([102,105,114,109,46,100,101],1,4),([120,46,102,105,114,109,46,100,101],y,2),([111,117,114,115,46,100,101],1,4)]
def tS:List (List UInt8):=[[],[90,101,100],[122,101,100],[97],[122,255],Lib.repeatL [122] 60,Lib.repeatL [122] 61]
end
section
variable {E:Envt}
end
section
variable {E:Envt}
end
section
variable {E:Envt}
end
def ir_strings_Contains:IC:=(.seq (.reg [qO 4 (.mov (.c (.bool false)))]) (.seq (.reg [qM 5 0,qM 6 1,qO 7 (.call 142 [.t 5,.t 6]),qO 8 (.bin .geq (.t 7) (.c (.int .i64 0))),qM 4 8]) .ret))
def rs_strings_Contains:List IRes:=[.t 4]
theorem ck_strings_Contains:chkF Tryz.prog Tryz.f109 ir_strings_Contains rs_strings_Contains 9=true:=by kernel_rfl
section
theorem Contains_ok (s t:List UInt8) (hs:s.length≤1000000000):PCall Tryz.prog E0 109 [.str s,.str t] (·=.bool (decide (0≤Lib.index s t))):=by
 refine pcallF mixed Tryz.func109 ck_strings_Contains ?_
 simp only [a0,l0,OS.ao,List.map_cons,List.map_nil,List.length_cons,List.length_nil,List.cons_append,List.nil_append,Nat.reduceSub,Nat.reduceAdd,List.replicate_succ,List.replicate_zero,ir_strings_Contains,rs_strings_Contains,ZZ,WW,Ze,reduceCtorEq,Nat.reduceAdd,Nat.reduceMul,Nat.reduceLeDiff,Nat.reduceLT,Nat.reduceEqDiff]
 refine use1 (Index_ok s t hs) rfl (.inl rfl) ?_
 simp only [ZZ,WW,Ze,reduceCtorEq,Nat.reduceAdd,Nat.reduceMul,Nat.reduceLeDiff,Nat.reduceLT,Nat.reduceEqDiff]
end
end Go.Proofs.YtinffddgojhdfaaGreatDoor
namespace Go.Proofs.YtinffddgojhdfaaGreatDoor
open Go.RowKit
def ir_base_Plain:IC:=(.seq (.reg [qO 2 (.mov (.c (.bool false)))]) (.seq (.reg [qM 3 0,qO 4 (.call 107 [.t 3,.c (.bool false)]),qM 5 4,⟨some 6,.mov (.t 0),(some (5,true))⟩,⟨some 7,.call 89 [.t 6,.c (.str [32])],(some (5,true))⟩,⟨some 8,.not (.t 7),(some (5,true))⟩,qO 9 (.pick (.t 5) (.t 8) (.c (.bool false))),qM 10 9,⟨some 11,.mov (.t 0),(some (10,true))⟩,⟨some 12,.call 108 [.t 11,.c (.str [32])],(some (10,true))⟩,⟨some 13,.not (.t 12),(some (10,true))⟩,qO 14 (.pick (.t 10) (.t 13) (.c (.bool false))),qM 15 14,⟨some 16,.mov (.t 0),(some (15,true))⟩,⟨some 17,.call 109 [.t 16,.c (.str [32,32])],(some (15,true))⟩,⟨some 18,.not (.t 17),(some (15,true))⟩,qO 19 (.pick (.t 15) (.t 18) (.c (.bool false))),qM 2 19]) .ret))
def rs_base_Plain:List IRes:=[.t 2]
theorem ck_base_Plain:chkF Tryz.prog Tryz.f81 ir_base_Plain rs_base_Plain 20=true:=by kernel_rfl
section
variable {E:Envt}
end
def plainB (s:List UInt8):Bool:=((visE s false && !Lib.hasPrefix s [32]) && !sufE s [32]) && !decide (0≤Lib.index s [32,32])
theorem Plain_ok (s:List UInt8) (hs:s.length≤1000000000):PCall Tryz.prog E0 81 [.str s] (·=.bool (plainB s)):=by
 refine pcallF mixed Tryz.func81 ck_base_Plain ?_
 simp only [a0,l0,OS.ao,List.map_cons,List.map_nil,List.length_cons,List.length_nil,List.cons_append,List.nil_append,Nat.reduceSub,Nat.reduceAdd,List.replicate_succ,List.replicate_zero,ir_base_Plain,rs_base_Plain,ZZ,WW,Ze,reduceCtorEq,Nat.reduceAdd,Nat.reduceMul,Nat.reduceLeDiff,Nat.reduceLT,Nat.reduceEqDiff]
 refine use1 (Visible_ok s false hs) rfl (.inl rfl) ?_
 simp only [ZZ,WW,Ze,reduceCtorEq,Nat.reduceAdd,Nat.reduceMul,Nat.reduceLeDiff,Nat.reduceLT,Nat.reduceEqDiff]
 refine useG (fun _=>HasPrefix_ok s [32]) rfl (.inl rfl) ?_
 simp only [ZZ,WW,Ze,reduceCtorEq,Nat.reduceAdd,Nat.reduceMul,Nat.reduceLeDiff,Nat.reduceLT,Nat.reduceEqDiff]
 refine useG (fun _=>HasSuffix_ok s [32] (by omega)) rfl (.inl rfl) ?_
 simp only [ZZ,WW,Ze,reduceCtorEq,Nat.reduceAdd,Nat.reduceMul,Nat.reduceLeDiff,Nat.reduceLT,Nat.reduceEqDiff]
 refine useG (fun _=>Contains_ok s [32,32] hs) rfl (.inl rfl) ?_
 simp only [ZZ,WW,Ze,reduceCtorEq,Nat.reduceAdd,Nat.reduceMul,Nat.reduceLeDiff,Nat.reduceLT,Nat.reduceEqDiff]
 ((repeat' (with_reducible apply And.intro))<;>try ((exact sc_)))
end Go.Proofs.YtinffddgojhdfaaGreatDoor
namespace Go.Proofs.YtinffddgojhdfaaGreatDoor
structure Dd where
 site:List UInt8
 no:Int
 tm:Int
 kind:Int
 id:List UInt8
 field:List UInt8
 value:List UInt8
 frm:Int
 upto:Int
 osite:List UInt8
 ono:Int
 sum:List UInt8
 deriving DecidableEq
instance:Inhabited Dd:=⟨⟨[],0,0,0,[],[],[],0,0,[],0,[]⟩⟩
def dd0:Dd:=⟨[],0,0,0,[],[],[],0,0,[],0,[]⟩
def ddC (d:Dd):List PV:=[.str d.site,int d.no,int d.tm,int d.kind,.str d.id,.str d.field,.str d.value,int d.frm,int d.upto,.str d.osite,int d.ono,.str d.sum]
def ddE (l:List Dd):List (List PV):=l.map ddC
theorem ddE_len (l:List Dd):(ddE l).length=l.length:=by simp [ddE]
theorem ddE_get {l:List Dd} {k:Nat} {d:Dd} (h:l[k]?=some d):(ddE l).getD k []=ddC d:=getD_map h
theorem ddE_app (l m:List Dd):ddE l++ddE m=ddE (l++m):=by simp [ddE]
theorem ddE_nil:ddE []=[]:=rfl
theorem ddE_one (d:Dd):[ddC d]=ddE [d]:=rfl
structure DdB (d:Dd):Prop where
 b1:d.site.length≤1000
 b2:d.id.length≤1000
 b3:d.field.length≤1000
 b4:d.value.length≤1000
 b5:d.osite.length≤1000
 b6:d.sum.length≤1000
 c1:-1000000000000≤d.no∧d.no≤1000000000000
 c2:-1000000000000≤d.tm∧d.tm≤1000000000000
 c3:-1000000000000≤d.kind∧d.kind≤1000000000000
 c4:-1000000000000≤d.frm∧d.frm≤1000000000000
 c5:-1000000000000≤d.upto∧d.upto≤1000000000000
 c6:-1000000000000≤d.ono∧d.ono≤1000000000000
def DdsB (l:List Dd):Prop:=∀ d∈l,DdB d
theorem DdsB.get {l:List Dd} (h:DdsB l) {k:Nat} {d:Dd} (hd:l[k]?=some d):DdB d:=h d (List.mem_of_getElem? hd)
theorem DdsB.app {l m:List Dd} (h:DdsB l) (k:DdsB m):DdsB (l++m):=fun d hd=>(List.mem_append.1 hd).elim (h d) (k d)
theorem DdsB.nil:DdsB []:=fun _ h=>by cases h
def stC (s:List UInt8) (n:Int) (t:List UInt8) (m:Int):Int:=firstE [Lib.compareBytes s t,sgnC n m]
def wrdF (d:Dd):List (List UInt8):=[dashF d.id,dashF d.field,quoF d.value,Lib.itoa d.frm,Lib.itoa d.upto,dashF d.osite,Lib.itoa d.ono]
def sumF (before:List UInt8) (d:Dd):List UInt8:=digF (Lib.join ([before,d.site,Lib.itoa d.no,Lib.itoa d.tm,Lib.itoa d.kind]++wrdF d) [32])
def backB (d:Dd):Bool:=decide (d.kind=3) || decide (d.kind=6)
def valB (d:Dd):Bool:=(decide (d.kind=1) || decide (d.kind=2)) || decide (d.kind=5)
def unusedB (d:Dd):Bool:=(((((backB d && !decide (d.id=[])) || (!decide (d.kind=1) && !decide (d.field=[]))) || (!valB d && !decide (d.value=[]))) || (!decide (d.kind=4) && !(decide (d.frm=0) && decide (d.upto=0)))) || (!backB d && !(decide (d.osite=[]) && decide (d.ono=0))))
def rightB (d:Dd):Bool:=
 if d.kind=1 then decide ((d.value.length:Int)≤60) && plainB d.value else if d.kind=2 then keyB d.value else if d.kind=5 then inE d.value.length 1 200 && plainB d.value
 else if d.kind=4 then (decide (0≤d.frm) && decide (d.frm < d.upto)) && decide (d.upto≤20000) else true
def formF (d:Dd):Int:=
 if unusedB d=true then 3 else if backB d=true then 0
 else if (!keyB d.id || (decide (d.kind=1) && !keyB d.field))=true then 5 else if rightB d=true then 0 else 3
def oneF (d:Dd):Int:=if inE d.tm 0 5761439=false then 1 else if inE d.kind 1 6=false then 4 else formF d
def atF (p:Option Dd) (d:Dd):Int:=
 if keyB d.site=false then 5
 else if (match p with|some q=>decide (0≤stC q.site q.no d.site d.no)|none=>false)=true then 7
 else if ¬ d.no=(match p with|some q=>if q.site=d.site then q.no+1 else 1|none=>1) then 1
 else if ¬ oneF d=0 then oneF d
 else if d.sum=sumF (match p with|some q=>if q.site=d.site then q.sum else []|none=>[]) d then 0 else 15
def prevD (l:List Dd) (k:Nat):Option Dd:=if k=0 then none else l[k - 1]?
def chkI (l:List Dd) (k:Nat):Int:=match l[k]? with|some d=>atF (prevD l k) d|none=>0
def permB (d x:Dd):Bool:=
 if d.kind=3 then decide (x.kind=2) || decide (x.kind=4)
 else ((((decide (x.kind=1) || decide (x.kind=5)) || decide (x.kind=3)) && decide (x.site=d.site)) && decide (x.no < d.no))
def findD (l:List Dd) (s:List UInt8) (n:Int):Option Dd:=l.find? fun d=>decide (d.site=s) && decide (d.no=n)
def ofX (d:Dd):Option Dd→Int
 |some x=>if permB d x=true then 0 else 16
 |none=>8
def ofF (l:List Dd) (d:Dd):Int:=if backB d=true then ofX d (findD l d.osite d.ono) else 0
def ofI (l:List Dd) (k:Nat):Int:=match l[k]? with|some d=>ofF l d|none=>0
def scanF (g:Nat→Int):Nat→Nat→Int×Int
 |0,_=>(0,0)
 |n+1,i=>if g i=0 then scanF g n (i+1) else ((i:Int),g i)
theorem scan_from (g:Nat→Int):∀ (k n i:Nat),(∀ j,i≤j→j < i+k→g j=0)→scanF g (k+n) i=scanF g n (i+k)
 |0,n,i,_=>by simp
 |k+1,n,i,h=>by
  rw [show k+1+n=(k+n)+1 from by omega,scanF,if_pos (h i (Nat.le_refl _) (by omega)),scan_from g k n (i+1) (fun j h1 h2=>h j (by omega) (by omega)),show i+1+k=i+(k+1) from by omega]
theorem scan_hit {g:Nat→Int} {k N:Nat} (hk:k < N) (h:∀ j,j < k→g j=0) (hg:¬ g k=0):scanF g N 0=((k:Int),g k):=by
 obtain ⟨m,rfl⟩:∃ m,N=k+(m+1):=⟨N - k - 1,by omega⟩
 rw [scan_from g k (m+1) 0 (fun j _ h2=>h j (by omega)),Nat.zero_add,scanF,if_neg hg]
theorem scan_none {g:Nat→Int} {N:Nat} (h:∀ j,j < N→g j=0):scanF g N 0=(0,0):=by
 rw [show N=N+0 from rfl,scan_from g N 0 0 (fun j _ h2=>h j (by omega))]
 rfl
theorem scan_zero {g:Nat→Int}:∀ {n i:Nat},(scanF g n i).2=0→∀ j,i≤j→j < i+n→g j=0
 |0,i,_,j,h1,h2=>by omega
 |n+1,i,h,j,h1,h2=>by
  rw [scanF] at h
  split at h
  ·rename_i hg
   rcases Nat.eq_or_lt_of_le h1 with rfl|h3
   ·exact hg
   ·exact scan_zero h j h3 (by omega)
  ·rename_i hg
   exact absurd h hg
def ckdF (l:List Dd):Int×Int:=
 if 2000 < l.length then (0,2) else if (scanF (chkI l) l.length 0).2=0 then scanF (ofI l) l.length 0 else scanF (chkI l) l.length 0
def cmpD (a b:Dd):Int:=stC a.site a.no b.site b.no
theorem sgnC_p:CmpP sgnC:=⟨fun x y=>by unfold sgnC;split<;>split<;>(try split)<;>omega,fun x y z=>by unfold sgnC;split<;>split<;>(try split)<;>(try split)<;>(try split)<;>omega⟩
theorem stC_or (s:List UInt8) (n:Int) (t:List UInt8) (m:Int):stC s n t m=if Lib.compareBytes s t=0 then sgnC n m else Lib.compareBytes s t:=by
 unfold stC firstE firstE firstE
 split
 ·split
  ·rename_i h;exact h.symm
  ·rfl
 ·rfl
theorem cmpD_p:CmpP cmpD:=by
 have h:cmpD=orC (fun a b=>Lib.compareBytes a.site b.site) (fun a b=>sgnC a.no b.no):=by
  funext a b
  exact stC_or _ _ _ _
 rw [h]
 exact CmpP.or (CmpP.on (fun d:Dd=>d.site) CmpP.cb) (CmpP.on (fun d:Dd=>d.no) sgnC_p)
theorem sgnC_zero {a b:Int} (h:sgnC a b=0):a=b:=by
 unfold sgnC at h
 split at h
 ·omega
 ·split at h<;>omega
theorem cmpD_zero {a b:Dd} (h:cmpD a b=0):a.site=b.site∧a.no=b.no:=by
 unfold cmpD at h
 rw [stC_or] at h
 split at h
 ·rename_i h0
  exact ⟨cb_zero h0,sgnC_zero h⟩
 ·rename_i h0
  exact absurd h h0
theorem cmpD_self {a b:Dd} (h1:a.site=b.site) (h2:a.no=b.no):cmpD a b=0:=by
 unfold cmpD
 rw [stC_or,h1,h2,if_pos (cb_self _)]
 simp [sgnC]
def OrdD (l:List Dd):Prop:=l.Pairwise fun a b=>cmpD a b < 0
theorem ordD_of:∀ {l:List Dd},(∀ j,j < l.length→chkI l j=0)→OrdD l:=by
 intro l h
 have adj:∀ j a b,l[j]?=some a→l[j+1]?=some b→cmpD a b < 0:=by
  intro j a b ha hb
  have hj:=(List.getElem?_eq_some_iff.1 hb).1
  have h1:=h (j+1) hj
  unfold chkI at h1
  rw [hb] at h1
  have h1:atF (prevD l (j+1)) b=0:=h1
  unfold atF prevD at h1
  simp only [Nat.succ_ne_zero,if_false,Nat.add_sub_cancel,ha] at h1
  split at h1
  ·omega
  ·split at h1
   ·omega
   ·rename_i h2
    simp only [decide_eq_true_eq] at h2
    have:¬ 0≤cmpD a b:=h2
    omega
 clear h
 have tr:=cmpD_p.tr
 have an:=cmpD_p.anti
 unfold OrdD
 induction l with
 |nil=>exact List.Pairwise.nil
 |cons x r ih=>
  have ih':=ih (fun j a b ha hb=>adj (j+1) a b (by simpa using ha) (by simpa using hb))
  refine List.Pairwise.cons ?_ ih'
  intro y hy
  cases r with
  |nil=>cases hy
  |cons z r=>
   have hxz:=adj 0 x z rfl rfl
   rcases List.mem_cons.1 hy with rfl|hy
   ·exact hxz
   ·have hzy:=(List.pairwise_cons.1 ih').1 y hy
    have h3:=tr x z y (by omega) (by omega)
    rcases Int.lt_or_eq_of_le h3 with h4|h4
    ·exact h4
    ·exfalso
     obtain ⟨e1,e2⟩:=cmpD_zero h4
     have h5:cmpD z y=cmpD z x:=by unfold cmpD;rw [e1,e2]
     have:=an z x
     omega
def lastD (l:List Dd) (s:List UInt8) (n:Int):Option Dd:=l.reverse.find? fun d=>decide (d.site=s) && decide (d.no=n)
theorem lastD_snoc (l:List Dd) (d:Dd) (s:List UInt8) (n:Int):lastD (l++[d]) s n=if (decide (d.site=s) && decide (d.no=n))=true then some d else lastD l s n:=by
 unfold lastD
 rw [List.reverse_append,List.reverse_singleton,List.singleton_append,List.find?_cons]
 split
 ·rename_i h;rw [if_pos h]
 ·rename_i h;rw [if_neg (by simp [h])]
theorem last_find {l:List Dd} (h:OrdD l) (s:List UInt8) (n:Int):lastD l s n=findD l s n:=by
 unfold OrdD at h
 cases hf:findD l s n with
 |none=>
  unfold findD at hf
  unfold lastD
  rw [List.find?_eq_none] at hf ⊢
  intro x hx
  exact hf x (List.mem_reverse.1 hx)
 |some x=>
  unfold findD at hf
  obtain ⟨hx1,hx2⟩:x∈l∧(decide (x.site=s) && decide (x.no=n))=true:=⟨List.mem_of_find?_eq_some hf,List.find?_some (p:=fun d:Dd=>decide (d.site=s) && decide (d.no=n)) hf⟩
  cases hl:lastD l s n with
  |none=>
   unfold lastD at hl
   rw [List.find?_eq_none] at hl
   exact absurd hx2 (hl x (List.mem_reverse.2 hx1))
  |some y=>
   unfold lastD at hl
   obtain ⟨hy1,hy2⟩:y∈l∧(decide (y.site=s) && decide (y.no=n))=true:=⟨List.mem_reverse.1 (List.mem_of_find?_eq_some hl),List.find?_some (p:=fun d:Dd=>decide (d.site=s) && decide (d.no=n)) hl⟩
   simp only [Bool.and_eq_true,decide_eq_true_eq] at hx2 hy2
   have hz:cmpD x y=0:=cmpD_self (hx2.1.trans hy2.1.symm) (hx2.2.trans hy2.2.symm)
   have hz2:cmpD y x=0:=cmpD_self (hx2.1.trans hy2.1.symm).symm (hx2.2.trans hy2.2.symm).symm
   by_cases e:x=y
   ·rw [e]
   ·exfalso
    obtain ⟨i,hi,rfl⟩:=List.mem_iff_getElem.1 hx1
    obtain ⟨j,hj,rfl⟩:=List.mem_iff_getElem.1 hy1
    rw [List.pairwise_iff_getElem] at h
    rcases Nat.lt_trichotomy i j with h1|h1|h1
    ·have:=h i j hi hj h1;omega
    ·subst h1;exact e rfl
    ·have:=h j i hj hi h1;omega
def stK (s:List UInt8) (n:Int):List UInt8:=enc_K [.str s,int n]
theorem stK_inj {s t:List UInt8} {n m:Int} (h:stK s n=stK t m):s=t∧n=m:=by
 have:=enc_inj [.s,.i] (cs:=[.str s,int n]) (ds:=[.str t,int m]) rfl rfl h
 simpa using this
def stM (l:List Dd):List (List UInt8×PV):=l.foldl (fun kv d=>mpS kv (stK d.site d.no) (.agg (ddC d))) []
theorem stM_snoc (l:List Dd) (d:Dd):stM (l++[d])=mpS (stM l) (stK d.site d.no) (.agg (ddC d)):=by simp [stM]
theorem stM_next {l:List Dd} {k:Nat} {d:Dd} (h:l[k]?=some d):stM (l.take (k+1))=mpS (stM (l.take k)) (stK d.site d.no) (.agg (ddC d)):=by
 obtain ⟨hk,he⟩:=List.getElem?_eq_some_iff.1 h
 rw [List.take_succ_eq_append_getElem hk,he,stM_snoc]
theorem stM_F:∀ (r:List Dd) (s:List UInt8) (n:Int),mpF (stM r.reverse) (stK s n)=(lastD r.reverse s n).map fun d=>.agg (ddC d)
 |[],s,n=>rfl
 |d :: r,s,n=>by
  rw [List.reverse_cons,stM_snoc,mpF_mpS,lastD_snoc,stM_F r s n]
  by_cases h:(decide (d.site=s) && decide (d.no=n))=true
  ·have h':=h
   simp only [Bool.and_eq_true,decide_eq_true_eq] at h'
   rw [if_pos h,if_pos (by rw [h'.1,h'.2])]
   rfl
  ·rw [if_neg h,if_neg (fun e=>h (by obtain ⟨e1,e2⟩:=stK_inj e;simp [e1,e2]))]
theorem stM_find (l:List Dd) (s:List UInt8) (n:Int):mpF (stM l) (stK s n)=(lastD l s n).map fun d=>.agg (ddC d):=by
 have:=stM_F l.reverse s n
 rwa [List.reverse_reverse] at this
theorem zip_kv:∀ kv:List (List UInt8×PV),(kv.map (·.1)).zip (kv.map (·.2))=kv
 |[]=>rfl
 |p :: r=>by simp [zip_kv r]
def mrkB (x:Dd):Bool:=decide (x.kind=2) || decide (x.kind=4)
def ofG (d:Dd):Option Dd→Int
 |some x=>if d.kind=3 then whenE (!mrkB x) 16 else whenE (((mrkB x || decide (x.kind=6)) || !decide (x.site=d.site)) || decide (d.no≤x.no)) 16
 |none=>8
def ofE (l:List Dd) (d:Dd):Int:=if backB d=true then ofG d (lastD l d.osite d.ono) else 0
theorem atF_one {p:Option Dd} {d:Dd} (h:atF p d=0):oneF d=0:=by
 unfold atF at h
 by_cases c1:keyB d.site=false
 ·rw [if_pos c1] at h;omega
 rw [if_neg c1] at h
 by_cases c4:oneF d=0
 ·exact c4
 cases p with
 |none=>
  simp only [Bool.false_eq_true,if_false,c4,not_false_eq_true,if_true] at h
  split at h<;>omega
 |some q=>
  simp only [c4,not_false_eq_true,if_true] at h
  split at h
  ·omega
  ·split at h<;>omega
theorem ofE_eq {l:List Dd} (h:∀ j,j < l.length→chkI l j=0) (d:Dd):ofE l d=ofF l d:=by
 unfold ofE ofF
 rw [last_find (ordD_of h)]
 split
 ·rename_i hb
  cases hf:findD l d.osite d.ono with
  |none=>rfl
  |some x=>
   unfold findD at hf
   have hx:=List.mem_of_find?_eq_some hf
   obtain ⟨k,hk,rfl⟩:=List.mem_iff_getElem.1 hx
   have h1:=h k hk
   unfold chkI at h1
   rw [List.getElem?_eq_getElem hk] at h1
   have h1:atF (prevD l k) l[k]=0:=h1
   have hone:oneF l[k]=0:=by
    exact atF_one h1
   have hkd:1≤l[k].kind∧l[k].kind≤6:=by
    unfold oneF at hone
    split at hone
    ·omega
    split at hone
    ·omega
    ·rename_i h2
     simpa [inE] using h2
   generalize l[k]=x at *
   show (if d.kind=3 then whenE (!mrkB x) 16 else whenE (((mrkB x || decide (x.kind=6)) || !decide (x.site=d.site)) || decide (d.no≤x.no)) 16)=(if permB d x=true then 0 else 16)
   unfold permB mrkB
   by_cases h3:d.kind=3
   ·rw [if_pos h3,if_pos h3]
    by_cases h2:x.kind=2<;>by_cases h4:x.kind=4<;>simp [whenE,h2,h4]
   ·rw [if_neg h3,if_neg h3]
    have hs:x.kind=1∨x.kind=2∨x.kind=3∨x.kind=4∨x.kind=5∨x.kind=6:=by omega
    by_cases e1:x.site=d.site<;>by_cases e2:x.no < d.no
    all_goals
     have e3:decide (d.no≤x.no)=!decide (x.no < d.no):=by simp only [← decide_not,Int.not_lt]
     rw [e3]
     rcases hs with hs|hs|hs|hs|hs|hs<;>simp [whenE,e1,e2,hs]
 ·rfl
end Go.Proofs.YtinffddgojhdfaaGreatDoor
namespace Go.Proofs.YtinffddgojhdfaaGreatDoor
open Go.RowKit
theorem b_info:(Tryz.prog.info? 5).map (fun i=>(i.zero,i.size,i.bytes))=some (some (.int .u8 0),1,1):=by kernel_rfl
theorem b_sizeB:(Tryz.prog.info? 112).map (·.size)=some 2:=by kernel_rfl
theorem b_liesB:liesAt Tryz.prog Tryz.prog.depth 112 (2 / Tryz.prog.cellsOf 112) 0 112 1=true:=by kernel_rfl
theorem b_usNone (W:World) (q:Option Addr):(Builtin.unsafeString_ #[137,3] 9 #[.pointer q,.int .i64 0]).run Tryz.prog W=.ok (.string .empty) W:=Lib.run_unsafeString_none W _ _ _ q
theorem b_mixed:Tryz.prog.follows .mixedOrders=true:=by kernel_rfl
theorem b_cells:Tryz.prog.cellsOf 5=1:=by kernel_rfl
theorem b_size:(Tryz.prog.info? 5).map (·.size)=some 1:=by kernel_rfl
abbrev tSb:TypeId:=112
abbrev tU8:TypeId:=5
set_option maxHeartbeats 1000000 in
set_option maxRecDepth 100000 in
theorem b_ccUsed (b:Nat) (w:World) (h0:w.cell? ⟨b,0,none⟩=some (.pointer (some ⟨b,0,none⟩))) :
  Calls Tryz.prog 117 #[.pointer (some ⟨b,0,none⟩)] w fun e w'=>e=.returned (.tuple #[])∧w'=w:=by
 obtain ⟨j,hj,_⟩:=Option.map_eq_some_iff.1 b_sizeB
 go_enter Tryz.func117,Tryz.ntmps117
 go_wp2
 rw [Lib.run_neq_ptr_same w _ Tryz.underlying109 hj]
 go_wp2
 go_end0
 exact ⟨rfl,rfl⟩
set_option maxHeartbeats 1000000 in
set_option maxRecDepth 100000 in
theorem b_ccFresh (b:Nat) (w:World) (h0:w.cell? ⟨b,0,none⟩=some (.pointer none)) (hsh:w.shape? b=some (112,2)) (hfz:w.frozen? ⟨b,0,none⟩=false) :
  Calls Tryz.prog 117 #[.pointer (some ⟨b,0,none⟩)] w fun e w'=>e=.returned (.tuple #[])∧w'=w.setCell ⟨b,0,none⟩ (.pointer (some ⟨b,0,none⟩)):=by
 obtain ⟨j,hj,hjs⟩:=Option.map_eq_some_iff.1 b_sizeB
 go_enter Tryz.func117,Tryz.ntmps117
 go_wp2
 rw [Lib.run_to_unsafe w ⟨b,0,none⟩ Tryz.underlying109 Tryz.underlying158 hj (by rw [hjs];decide) hsh (Nat.zero_lt_succ 1)]
 simp only [Result.andThen]
 rw [Oper.upon_value]
 go_wp2
 rw [run_callFunc_extern Tryz.func146 (by kernel_rfl) (by kernel_rfl) (by kernel_rfl) (e:=Extern.AbiNoEscape.same) (by kernel_rfl)]
 rw [Lib.run_noEscape]
 simp only [Result.andThen]
 rw [Oper.upon_value]
 go_wp2
 rw [Lib.run_from_unsafe w ⟨b,0,none⟩ Tryz.underlying158 Tryz.underlying109 hj hsh b_liesB]
 simp only [Result.andThen]
 rw [Oper.upon_value]
 go_wp2
 go_end0
 exact ⟨rfl,rfl⟩
theorem b_cc (b:Nat) (bs:List Value) (w:World) (h:Lib.IsBuilder 112 5 0 b bs w) :
  Calls Tryz.prog 117 #[.pointer (some ⟨b,0,none⟩)] w fun e w'=>e=.returned (.tuple #[])∧CcPost 112 5 b bs w w':=by
 rcases h with h|h
 ·refine (b_ccFresh b w h.cell0 h.shape h.frozen0).mono ?_
  rintro e w' ⟨rfl,rfl⟩
  exact ⟨rfl,ccpost_fresh h⟩
 ·refine (b_ccUsed b w h.cell0).mono ?_
  rintro e w' ⟨rfl,rfl⟩
  exact ⟨rfl,ccpost_used h⟩
set_option maxHeartbeats 2000000 in
set_option maxRecDepth 100000 in
theorem sb_WriteByte (b:Nat) (s:List UInt8) (c:UInt8) (w:World) (h:Lib.IsBuilder 112 5 0 b (Lib.byteCells s) w) (hlen:s.length+1≤140737488355328) :
  Calls Tryz.prog 144 #[.pointer (some ⟨b,0,none⟩),.int .u8 c.toNat] w fun e w'=>e=.returned .nilIface∧SbPost 112 5 b (s++[c]) w w':=by
 obtain ⟨i0,hi,hz0,hz1,hz2⟩:=info_parts b_info
 go_enter Tryz.func144,Tryz.ntmps144
 go_wp2_with (go_at_call 117;refine (b_cc b _ _ h).mono ?_)
 rintro e w1 ⟨rfl,v,hbk,hown,hne,hG1,hbf⟩
 rw [Lib.byteCells_length] at hown
 have c0:w1.cell? ⟨b,0,none⟩=some (.pointer (some ⟨b,0,none⟩)):=by rw [Lib.cell_of_heap hbk];rfl
 have c1:w1.cell? ⟨b,1,none⟩=some v:=by rw [Lib.cell_of_heap hbk];rfl
 go_wp2_with (at_builtin;refine wpList_append_own_at _ rfl _ _ 110 rfl 0 5 i0 (.int .u8 0) 1 1 Tryz.underlying110 hi hz0 hz1 hz2 rfl (by decide) _ _ _ rfl (hown.alloc _) ⟨w1.heap.size,0,none⟩ 1 1 [.int .u8 c.toNat] rfl rfl (cell_one_new _ _ _) (by intro u hu;simp at hu;subst hu;rfl) (by unfold maxLen;omega) (by omega) (Nat.zero_le _) ?_)
 intro v' w2 hown' hgrow _ hat
 have hlt:=lt_of_heap hbk
 have hk1:(w1.alloc (.cells #[.int .u8 c.toNat] 5)).heap[b]?=some (.cells #[.pointer (some ⟨b,0,none⟩),v] 112 (0,0)):=by rw [Lib.alloc_old w1 _ b hlt];exact hbk
 have hb2:w2.heap[b]?=some (.cells #[.pointer (some ⟨b,0,none⟩),v] 112 (0,0)):=by
  rw [hgrow.block b (by simp;omega) (fun e=>hne e.symm)]
  exact hk1
 have d0:w2.cell? ⟨b,0,none⟩=some (.pointer (some ⟨b,0,none⟩)):=by rw [Lib.cell_of_heap hb2];rfl
 have d1:w2.cell? ⟨b,1,none⟩=some v:=by rw [Lib.cell_of_heap hb2];rfl
 have f1:w2.frozen? ⟨b,1,none⟩=false:=Lib.frozen_of_heap hb2 1
 have hP:SbPost 112 5 b (s++[c]) w (w2.setCell ⟨b,1,none⟩ v'):=by
  refine sbpost_mk (w1:=w1.alloc (.cells #[.int .u8 c.toNat] 5)) (by decide) ⟨hG1.os,hG1.tape,hG1.output,Nat.le_trans hG1.size (by simp),fun k hk hn=>(Lib.alloc_old w1 _ k (Nat.lt_of_lt_of_le hk hG1.size)).trans (hG1.block k hk hn)⟩ (fun x hx=>hbf x ((bufOf_eq hbk).2 ((bufOf_eq hk1).1 hx))) hk1 hgrow hne (fun x hx=>?_) (by simpa [Lib.byteCells] using hown')
  rcases hat with h'|h'
  ·exact .inl (by rw [← h'];exact hx)
  ·rw [h'] at hx;simp at hx;right;simp;omega
 obtain ⟨g,cap,rfl⟩:∃ g cap,v'=.slice (some ⟨g,0,none⟩) (s.length+1) cap:=by
  rcases hown'.2 with ⟨_,h0⟩|⟨g,cap,cur,hv,_⟩
  ·omega
  ·exact ⟨g,cap,hv⟩
 go_wp2
 go_ret
 exact ⟨rfl,hP⟩
set_option maxHeartbeats 2000000 in
set_option maxRecDepth 100000 in
theorem sb_WriteString (b:Nat) (s t:List UInt8) (w:World) (h:Lib.IsBuilder 112 5 0 b (Lib.byteCells s) w) (hlen:s.length+t.length≤140737488355328) :
  Calls Tryz.prog 91 #[.pointer (some ⟨b,0,none⟩),.string ⟨t.toArray⟩] w fun e w'=>e=.returned (.tuple #[.int .i64 t.length,.nilIface])∧SbPost 112 5 b (s++t) w w':=by
 obtain ⟨i0,hi,hz0,hz1,hz2⟩:=info_parts b_info
 have hsz:(⟨t.toArray⟩:ByteArray).size=t.length:=by simp [ByteArray.size]
 have hcl:Lib.strCells ⟨t.toArray⟩=Lib.byteCells t:=by simp [Lib.strCells,Lib.byteCells]
 generalize hst:(⟨t.toArray⟩:ByteArray)=st at hsz hcl ⊢
 rw [← hsz] at hlen ⊢
 go_enter Tryz.func91,Tryz.ntmps91
 go_wp2_with (go_at_call 117;refine (b_cc b _ _ h).mono ?_)
 rintro e w1 ⟨rfl,v,hbk,hown,hne,hG1,hbf⟩
 rw [Lib.byteCells_length] at hown
 have c0:w1.cell? ⟨b,0,none⟩=some (.pointer (some ⟨b,0,none⟩)):=by rw [Lib.cell_of_heap hbk];rfl
 have c1:w1.cell? ⟨b,1,none⟩=some v:=by rw [Lib.cell_of_heap hbk];rfl
 go_wp2_with (at_builtin;refine wpList_app_str rfl _ _ 110 9 rfl 0 5 i0 Tryz.underlying110 Tryz.underlying9 hi hz0 hz1 hz2 _ _ _ rfl hown st rfl (by unfold maxLen;omega) (by omega) (Nat.zero_le _) ?_)
 intro v' w2 hown' hgrow hat
 have hlt:=lt_of_heap hbk
 have hb2:w2.heap[b]?=some (.cells #[.pointer (some ⟨b,0,none⟩),v] 112 (0,0)):=by
  rw [hgrow.block b hlt (fun e=>hne e.symm)]
  exact hbk
 have d0:w2.cell? ⟨b,0,none⟩=some (.pointer (some ⟨b,0,none⟩)):=by rw [Lib.cell_of_heap hb2];rfl
 have d1:w2.cell? ⟨b,1,none⟩=some v:=by rw [Lib.cell_of_heap hb2];rfl
 have f1:w2.frozen? ⟨b,1,none⟩=false:=Lib.frozen_of_heap hb2 1
 have hP:SbPost 112 5 b (s++t) w (w2.setCell ⟨b,1,none⟩ v'):=
  sbpost_mk (by decide) hG1 hbf hbk hgrow hne hat (by first|(rw [hcl,hsz] at hown';simpa [Lib.byteCells] using hown')|simpa [Lib.byteCells] using hown')
 obtain ⟨ao,n',cap,rfl⟩:∃ ao n' cap,v'=.slice ao n' cap:=by
  rcases hown'.2 with ⟨hv,_⟩|⟨g,cap,cur,hv,_⟩
  ·exact ⟨_,_,_,hv⟩
  ·exact ⟨_,_,_,hv⟩
 go_wp2
 go_ret2
 exact ⟨by first|rfl|(rw [hsz];rfl),hP⟩
set_option maxHeartbeats 1000000 in
set_option maxRecDepth 100000 in
theorem b_String (B b:Nat) (l:List UInt8) (w:World) (h:Lib.IsBuilder 112 5 B b (Lib.byteCells l) w) (h0:l≠[]) :
  Calls Tryz.prog 93 #[.pointer (some ⟨b,0,none⟩)] w fun e w'=>e=.returned (.string ⟨l.toArray⟩)∧Grow w w' (fun x=>x=b∨bufOf w 112 b x):=by
 obtain ⟨p,hB,v,hbk,hown,hne⟩:∃ p,Lib.BuilderAt 112 5 B b p (Lib.byteCells l) w:=by
  rcases h with h|h
  ·exact ⟨_,h⟩
  ·exact ⟨_,h⟩
 have hl0:l.length≠0:=by simpa using h0
 rw [Lib.byteCells_length] at hown
 obtain ⟨g,cap,cur,rfl,hbg,hg,hnc,hcm,hcs,htake⟩:∃ g cap cur,v=.slice (some ⟨g,0,none⟩) l.length cap∧B≤g∧w.heap[g]?=some (.cells cur 5 (0,0))∧l.length≤cap∧cap≤maxLen∧cur.size=cap * 1∧cur.toList.take (l.length * 1)=Lib.byteCells l:=by
  rcases hown.2 with ⟨_,hz⟩|⟨g,cap,cur,hv,r⟩
  ·exact absurd hz hl0
  ·exact ⟨g,cap,cur,hv,r⟩
 have c1:w.drew.cell? ⟨b,1,none⟩=some (.slice (some ⟨g,0,none⟩) l.length cap):=by
  have:w.drew.heap[b]?=some (.cells #[p,.slice (some ⟨g,0,none⟩) l.length cap] 112 (0,0)):=hbk
  rw [Lib.cell_of_heap this];rfl
 have hSD:(Builtin.unsafeSliceData_ #[110] 137 #[.slice (some ⟨g,0,none⟩) l.length cap]).run Tryz.prog w.drew=.ok (.pointer (some ⟨g,0,none⟩)) w.drew:=
  Lib.run_unsafeSliceData_row _ _ _ _ _ _ (by omega)
 have hUS:(Builtin.unsafeString_ #[137,3] 9 #[.pointer (some ⟨g,0,none⟩),.int .i64 l.length]).run Tryz.prog w.drew=.ok (.string ⟨l.toArray⟩) (w.drew.freeze ⟨g,0,none⟩ l.length):=by
  refine Lib.run_unsafeString_row w.drew 137 3 9 5 Tryz.underlying137 b_cells g cur.size (by have hg':w.drew.heap[g]?=some (.cells cur 5 (0,0)):=hg;simp [World.shape?,hg']) l h0 (by omega) (by unfold maxLen at hcm;omega) ?_
  intro j x hx
  have:=hown.cells (g:=g) rfl j (.int .u8 x.toNat) (by simp [Lib.byteCells,hx])
  exact this
 have mixed:=b_mixed
 go_enter Tryz.func93,Tryz.ntmps93
 go_wp2
 go_region_o
 all_goals (go_wp2;go_ret;exact ⟨rfl,grow_freeze (.inr ⟨_,_,hbk,rfl⟩)⟩)
set_option maxHeartbeats 2000000 in
set_option maxRecDepth 100000 in
theorem b_String_nil (B b:Nat) (p:Value) (w:World) (hbk:w.heap[b]?=some (.cells #[p,.slice none 0 0] 112 (0,0))) :
  Calls Tryz.prog 93 #[.pointer (some ⟨b,0,none⟩)] w fun e w'=>e=.returned (.string ⟨#[]⟩)∧Grow w w' (fun x=>x=b∨bufOf w 112 b x):=by
 have hUS:=b_usNone
 have c1:w.drew.cell? ⟨b,1,none⟩=some (.slice none 0 0):=by
  have:w.drew.heap[b]?=some (.cells #[p,.slice none 0 0] 112 (0,0)):=hbk
  rw [Lib.cell_of_heap this];rfl
 have hSD:(Builtin.unsafeSliceData_ #[110] 137 #[.slice none 0 0]).run Tryz.prog w.drew=.ok (.pointer none) w.drew:=rfl
 have mixed:=b_mixed
 go_enter Tryz.func93,Tryz.ntmps93
 go_wp2
 go_region_o
 all_goals (go_wp2;go_ret;exact ⟨rfl,(Grow.refl w _).drew⟩)
set_option maxHeartbeats 2000000 in
set_option maxRecDepth 100000 in
theorem b_String_noroom (B b g:Nat) (p:Value) (cur:Array Value) (w:World) (hBw:B≤w.heap.size) (hbk:w.heap[b]?=some (.cells #[p,.slice (some ⟨g,0,none⟩) 0 0] 112 (0,0))) (hg:w.heap[g]?=some (.cells cur 5 (0,0))) :
  Calls Tryz.prog 93 #[.pointer (some ⟨b,0,none⟩)] w fun e w'=>e=.returned (.string ⟨#[]⟩)∧Grow w w' (fun x=>x=b∨bufOf w 112 b x):=by
 have hUS:=b_usNone
 have hlt:b < w.heap.size:=by
  rcases Nat.lt_or_ge b w.heap.size with h'|h'
  ·exact h'
  ·simp [Array.getElem?_eq_none h'] at hbk
 have c1:w.drew.cell? ⟨b,1,none⟩=some (.slice (some ⟨g,0,none⟩) 0 0):=by
  have:w.drew.heap[b]?=some (.cells #[p,.slice (some ⟨g,0,none⟩) 0 0] 112 (0,0)):=hbk
  rw [Lib.cell_of_heap this];rfl
 have hSD:(Builtin.unsafeSliceData_ #[110] 137 #[.slice (some ⟨g,0,none⟩) 0 0]).run Tryz.prog w.drew=.ok (.pointer (some ⟨w.drew.heap.size,0,none⟩)) (w.drew.alloc (.view ⟨g,0,none⟩ 5)):=
  Lib.run_unsafeSliceData_zero w.drew _ _ 5 Tryz.underlying137 ⟨g,0,none⟩ 0 (5,cur.size) (by have hg':w.drew.heap[g]?=some (.cells cur 5 (0,0)):=hg;simp [World.shape?,hg'])
 have c2:(w.drew.alloc (.view ⟨g,0,none⟩ 5)).cell? ⟨b,1,none⟩=some (.slice (some ⟨g,0,none⟩) 0 0):=by
  have:(w.drew.alloc (.view ⟨g,0,none⟩ 5)).heap[b]?=_:=(Lib.alloc_old w.drew _ b hlt).trans hbk
  rw [Lib.cell_of_heap this];rfl
 have c3:(w.alloc (.view ⟨g,0,none⟩ 5)).drew.cell? ⟨b,1,none⟩=some (.slice (some ⟨g,0,none⟩) 0 0):=c2
 have c0:w.cell? ⟨b,1,none⟩=some (.slice (some ⟨g,0,none⟩) 0 0):=c1
 have mixed:=b_mixed
 go_enter Tryz.func93,Tryz.ntmps93
 go_wp2
 go_region_o
 all_goals (go_wp2;go_ret;exact ⟨rfl,grow_alloc'⟩)
set_option maxHeartbeats 2000000 in
set_option maxRecDepth 100000 in
theorem b_String_room (B b g cap:Nat) (p:Value) (w:World) (hc0:cap≠0) (hbk:w.heap[b]?=some (.cells #[p,.slice (some ⟨g,0,none⟩) 0 cap] 112 (0,0))) :
  Calls Tryz.prog 93 #[.pointer (some ⟨b,0,none⟩)] w fun e w'=>e=.returned (.string ⟨#[]⟩)∧Grow w w' (fun x=>x=b∨bufOf w 112 b x):=by
 have hUS:=b_usNone
 have c1:w.drew.cell? ⟨b,1,none⟩=some (.slice (some ⟨g,0,none⟩) 0 cap):=by
  have:w.drew.heap[b]?=some (.cells #[p,.slice (some ⟨g,0,none⟩) 0 cap] 112 (0,0)):=hbk
  rw [Lib.cell_of_heap this];rfl
 have hSD:(Builtin.unsafeSliceData_ #[110] 137 #[.slice (some ⟨g,0,none⟩) 0 cap]).run Tryz.prog w.drew=.ok (.pointer (some ⟨g,0,none⟩)) w.drew:=
  Lib.run_unsafeSliceData_row _ _ _ _ _ _ hc0
 clear hc0
 have mixed:=b_mixed
 go_enter Tryz.func93,Tryz.ntmps93
 go_wp2
 go_region_o
 all_goals (go_wp2;go_ret;exact ⟨rfl,(Grow.refl w _).drew⟩)
theorem b_String_empty (B b:Nat) (w:World) (h:Lib.IsBuilder 112 5 B b [] w) (hBw:B≤w.heap.size) :
  Calls Tryz.prog 93 #[.pointer (some ⟨b,0,none⟩)] w fun e w'=>e=.returned (.string ⟨#[]⟩)∧Grow w w' (fun x=>x=b∨bufOf w 112 b x):=by
 obtain ⟨p,hB,v,hbk,hown,hne⟩:∃ p,Lib.BuilderAt 112 5 B b p [] w:=by
  rcases h with h|h
  ·exact ⟨_,h⟩
  ·exact ⟨_,h⟩
 rcases hown.2 with ⟨rfl,_⟩|⟨g,cap,cur,rfl,hbg,hg,_,_,_,_⟩
 ·exact b_String_nil B b p w hbk
 ·by_cases hc0:cap=0
  ·subst hc0
   exact b_String_noroom B b g p cur w hBw hbk hg
  ·exact b_String_room B b g cap p w hc0 hbk
theorem b_String_any (B b:Nat) (l:List UInt8) (w:World) (h:Lib.IsBuilder 112 5 B b (Lib.byteCells l) w) (hBw:B≤w.heap.size) :
  Calls Tryz.prog 93 #[.pointer (some ⟨b,0,none⟩)] w fun e w'=>e=.returned (.string ⟨l.toArray⟩)∧Grow w w' (fun x=>x=b∨bufOf w 112 b x):=by
 cases l with
 |nil=>exact b_String_empty B b w h hBw
 |cons x r=>exact b_String B b (x :: r) w h (by simp)
set_option maxHeartbeats 2000000 in
set_option maxRecDepth 1000000 in
theorem b_grow_fresh (B b n:Nat) (w:World) (hB:B≤b) (hbk:w.heap[b]?=some (.cells #[.pointer (some ⟨b,0,none⟩),.slice none 0 0] 112 (0,0))) (hBw:B≤w.heap.size) (hn:n≤281474976710656) :
  Calls Tryz.prog 118 #[.pointer (some ⟨b,0,none⟩),.int .i64 n] w fun e w'=>e=.returned (.tuple #[])∧SbPost 112 5 b [] w w':=by
 obtain ⟨cs,hrun,hle,hmax⟩:=Lib.run_makeNoZero (P:=Tryz.prog) w.drew #[3] 110 5 Tryz.underlying110 n hn
 have hw:IntKind.i64.wrap (IntKind.i64.wrap 0+(n:Int))=n:=by
  rw [IntKind.wrap_i64,IntKind.wrap_i64]
  omega
 have hcall:(callFunc 147 #[.int .i64 (IntKind.i64.wrap (IntKind.i64.wrap 0+(n:Int)))]).run Tryz.prog w.drew=.ok (.value (.slice (some ⟨w.drew.heap.size,0,none⟩) n cs.size)) (w.drew.drew.drew.alloc (.cells cs 5)):=by
  rw [hw,run_callFunc_extern Tryz.func147 (by kernel_rfl) (by kernel_rfl) (by kernel_rfl) (e:=Extern.BytealgMakeNoZero.makeNoZero #[3] #[110]) (by kernel_rfl),hrun]
  rfl
 have c1:w.drew.cell? ⟨b,1,none⟩=some (.slice none 0 0):=by
  have:w.drew.heap[b]?=_:=hbk
  rw [Lib.cell_of_heap this];rfl
 have c2:(w.alloc (.cells cs 5)).cell? ⟨b,1,none⟩=some (.slice none 0 0):=by
  have hlt:b < w.heap.size:=by
   rcases Nat.lt_or_ge b w.heap.size with h'|h'
   ·exact h'
   ·simp [Array.getElem?_eq_none h'] at hbk
  have:(w.alloc (.cells cs 5)).heap[b]?=_:=(Lib.alloc_old w _ b hlt).trans hbk
  rw [Lib.cell_of_heap this];rfl
 have f2:(w.alloc (.cells cs 5)).frozen? ⟨b,1,none⟩=false:=by
  have hlt:b < w.heap.size:=by
   rcases Nat.lt_or_ge b w.heap.size with h'|h'
   ·exact h'
   ·simp [Array.getElem?_eq_none h'] at hbk
  exact Lib.frozen_of_heap ((Lib.alloc_old w _ b hlt).trans hbk) 1
 have hcopy:∀ W:World,(Builtin.copy_ #[110,110] 3 #[.slice (some ⟨w.heap.size,0,none⟩) 0 cs.size,.slice none 0 0]).run Tryz.prog W=.ok (goInt 0) W:=
  fun W=>run_copy_none W 110 110 3 5 _ _ 0 cs.size 0 0 Tryz.underlying110 b_size rfl
 clear hw
 have mixed:=b_mixed
 go_enter Tryz.func118,Tryz.ntmps118
 go_wp2
 have hfin:=SbPost.of_grown (T:=112) (e:=5) (cs:=cs) (by decide) hbk (hmax (by unfold maxLen;omega))
 go_region_o
 all_goals (go_wp2;go_end0;exact ⟨rfl,hfin⟩)
set_option maxHeartbeats 2000000 in
set_option maxRecDepth 1000000 in
theorem b_Grow_fresh (B b n:Nat) (w:World) (hB:B≤b) (hbk:w.heap[b]?=some (.cells #[.pointer none,.slice none 0 0] 112 (0,0))) (hBw:B≤w.heap.size) (hn:n≤281474976710656) :
  Calls Tryz.prog 90 #[.pointer (some ⟨b,0,none⟩),.int .i64 n] w fun e w'=>e=.returned (.tuple #[])∧SbPost 112 5 b [] w w':=by
 have hbk1:(w.setCell ⟨b,0,none⟩ (.pointer (some ⟨b,0,none⟩))).heap[b]?=some (.cells #[.pointer (some ⟨b,0,none⟩),.slice none 0 0] 112 (0,0)):=by
  simp [World.setCell,Array.getElem?_modify,hbk]
 have c1:(w.setCell ⟨b,0,none⟩ (.pointer (some ⟨b,0,none⟩))).cell? ⟨b,1,none⟩=some (.slice none 0 0):=by rw [Lib.cell_of_heap hbk1];rfl
 have mixed:=b_mixed
 go_enter Tryz.func90,Tryz.ntmps90
 have c1':(w.setCell ⟨b,0,none⟩ (.pointer (some ⟨b,0,none⟩))).drew.cell? ⟨b,1,none⟩=some (.slice none 0 0):=c1
 go_wp2_with (go_at_call 117;refine (b_ccFresh b w (by rw [Lib.cell_of_heap hbk];rfl) (by simp [World.shape?,hbk]) (Lib.frozen_of_heap hbk 0)).mono ?_;rintro e w' ⟨rfl,rfl⟩)
 go_region_o
 all_goals go_wp2_with (go_at_call 118;refine (b_grow_fresh B b n (w.setCell ⟨b,0,none⟩ (.pointer (some ⟨b,0,none⟩))).drew hB hbk1 (by simpa [World.setCell,World.drew,-World.drew_eq] using hBw) hn).mono ?_;rintro e w' ⟨rfl,h1⟩)
 all_goals first
  |(go_end0;exact ⟨rfl,SbPost.behind hbk h1⟩)
  |(go_end0;exact ⟨rfl,SbPost.of_used hbk⟩)
def ir_strings_Join_L1:IC:=(.seq (.reg [qO 66 (.bin .lss (.t 65) (.t 64))]) (.seq (.cond (.t 66) .skip (.exit 3)) (.seq (.block 4 (.seq (.reg [qO 67 (.ixa 1 (.t 63) (.t 65)),qO 68 (.ld 1 false (.t 67)),qM 10 68]) (.seq (.reg [qM 69 1,qO 70 (.call 91 [.t 8,.t 69])]) (.reg [qM 71 10,qO 72 (.call 91 [.t 8,.t 71])])))) (.reg [qO 73 (.bin .add (.t 65) (.c (.int .i64 1))),qM 65 73]))))
def ir_strings_Join_L0:IC:=(.seq (.reg [qO 42 (.bin .lss (.t 41) (.t 40))]) (.seq (.cond (.t 42) .skip (.exit 1)) (.seq (.block 2 (.seq (.reg [qO 43 (.ixa 1 (.t 39) (.t 41)),qO 44 (.ld 1 false (.t 43)),qM 7 44]) (.seq (.seq (.reg [qM 45 7,qO 46 (.sln (.t 45)),qM 47 5,qO 48 (.bin .sub (.c (.int .i64 9223372036854775807)) (.t 47)),qO 49 (.bin .gtr (.t 46) (.t 48))]) (.cond (.t 49) (.reg [qO 50 (.dead),⟨none,.dead,none⟩]) .skip)) (.cut (.reg [qM 51 5,qM 52 7,qO 53 (.sln (.t 52)),qO 54 (.bin .add (.t 51) (.t 53)),qM 5 54]))))) (.reg [qO 55 (.bin .add (.t 41) (.c (.int .i64 1))),qM 41 55]))))
def ir_strings_Join:IC:=(.seq (.reg [qO 4 (.mov (.c (.str [])))]) (.seq (.seq (.reg [qM 11 0,qO 12 (.len (.t 11))]) (.block 0 (.seq (.reg [qO 14 (.bin .eql (.t 12) (.c (.int .i64 0))),qM 13 14]) (.cond (.t 13) (.seq (.reg [qO 4 (.mov (.c (.str [])))]) .ret) (.seq (.reg [qO 16 (.bin .eql (.t 12) (.c (.int .i64 1))),qM 15 16]) (.cond (.t 15) (.seq (.reg [qM 17 0,qO 18 (.ixa 1 (.t 17) (.c (.int .i64 0))),qO 19 (.ld 1 false (.t 18)),qM 4 19]) .ret) .skip)))))) (.seq (.reg [qO 5 (.mov (.c (.int .i64 0)))]) (.seq (.seq (.reg [qM 20 1,qO 21 (.sln (.t 20)),qO 22 (.bin .gtr (.t 21) (.c (.int .i64 0)))]) (.cond (.t 22) (.seq (.seq (.reg [qM 23 1,qO 24 (.sln (.t 23)),qM 25 0,qO 26 (.len (.t 25)),qO 27 (.bin .sub (.t 26) (.c (.int .i64 1))),qO 28 (.bin .quo (.c (.int .i64 9223372036854775807)) (.t 27)),qO 29 (.bin .geq (.t 24) (.t 28))]) (.cond (.t 29) (.reg [qO 30 (.dead),⟨none,.dead,none⟩]) .skip)) (.cut (.reg [qM 31 5,qM 32 1,qO 33 (.sln (.t 32)),qM 34 0,qO 35 (.len (.t 34)),qO 36 (.bin .sub (.t 35) (.c (.int .i64 1))),qO 37 (.bin .mul (.t 33) (.t 36)),qO 38 (.bin .add (.t 31) (.t 37)),qM 5 38]))) .skip)) (.cut (.seq (.seq (.reg [qM 39 0,qO 40 (.len (.t 39)),qO 41 (.mov (.c (.int .i64 0)))]) (.block 1 (.loop ir_strings_Join_L0))) (.seq (.reg [qO 8 (.alc 112 [.raw (.pointer none),.nl 1])]) (.seq (.reg [qM 56 5,qO 57 (.call 90 [.t 8,.t 56])]) (.seq (.reg [qM 58 0,qO 59 (.ixa 1 (.t 58) (.c (.int .i64 0))),qO 60 (.ld 1 false (.t 59)),qO 61 (.call 91 [.t 8,.t 60])]) (.seq (.seq (.reg [qM 62 0,qO 63 (.vsl 1 (.t 62) (some (.c (.int .i64 1))) none),qO 64 (.len (.t 63)),qO 65 (.mov (.c (.int .i64 0)))]) (.block 3 (.loop ir_strings_Join_L1))) (.seq (.reg [qO 74 (.call 93 [.t 8]),qM 4 74]) .ret)))))))))))
def rs_strings_Join:List IRes:=[.t 4]
theorem ck_strings_Join:chkF Tryz.prog Tryz.f71 ir_strings_Join rs_strings_Join 75=true:=by kernel_rfl
section
variable {E:Envt} {L:Objs} {k:Key} {i:Nat} {fr:List AV} {d:Option Nat} {is:List IOper} {Y:List PV} {K:List AV→Objs→Prop}
theorem useBS (i:Nat) (s t:List UInt8) (hat:SbAt L k i tSb tU8 s) (hki:k≠.l i) (hlen:s.length+t.length≤140737488355328)
  (hk:awpOps Tryz.prog E Y is (Zg (fr.map (·.kill (.l i))) d (.p (.tup [int (t.length:Nat),.raw .nilIface]))) (putSb L k i tSb tU8 (s++t)) K):CallOp Tryz.prog E 91 [.adr k 0,.p (.str t)] L d fr (contO Tryz.prog E Y is K):=
 useW (vr:=[.string ⟨t.toArray⟩]) (x:=.tup [int (t.length:Nat),.raw .nilIface]) (v:=.tuple #[.int .i64 t.length,.nilIface]) i tSb tU8 s (s++t) hat hki (fun w U ι vs h=>by obtain ⟨v,r,rfl,h1,h2⟩:=h;simp only [ARep,PRep,ARepL] at h1 h2;rw [h1,h2]) (fun w U=>⟨[_,_],rfl,_,_,rfl,rfl,_,_,rfl,⟨rfl,rfl⟩,rfl⟩)
  (fun b w h _=>sb_WriteString b s t w h hlen) hk
theorem useBB (i:Nat) (s:List UInt8) (c:UInt8) (hat:SbAt L k i tSb tU8 s) (hki:k≠.l i) (hlen:s.length+1≤140737488355328)
  (hk:awpOps Tryz.prog E Y is (Zg (fr.map (·.kill (.l i))) d (.p (.raw .nilIface))) (putSb L k i tSb tU8 (s++[c])) K):CallOp Tryz.prog E 144 [.adr k 0,.p (.int .u8 (c.toNat:Nat))] L d fr (contO Tryz.prog E Y is K):=
 useW (vr:=[.int .u8 c.toNat]) (x:=.raw .nilIface) (v:=.nilIface) i tSb tU8 s (s++[c]) hat hki (fun w U ι vs h=>by obtain ⟨v,r,rfl,h1,h2⟩:=h;simp only [ARep,PRep,ARepL] at h1 h2;rw [h1,h2]) (fun w U=>⟨rfl,rfl⟩)
  (fun b w h _=>sb_WriteByte b s c w h hlen) hk
theorem useBG (i:Nat) (n:Nat) (hat:SbAt L k i tSb tU8 []) (hf:Zas L k=some (.box [.p nilP,.p (.nl 1)] tSb)) (hki:k≠.l i) (hn:n≤281474976710656)
  (hk:awpOps Tryz.prog E Y is (Zg (fr.map (·.kill (.l i))) d (.p (.tup []))) (putSb L k i tSb tU8 []) K):CallOp Tryz.prog E 90 [.adr k 0,.p (int (n:Nat))] L d fr (contO Tryz.prog E Y is K):=
 useW (vr:=[.int .i64 n]) (x:=.tup []) (v:=.tuple #[]) i tSb tU8 [] [] hat hki (fun w U ι vs h=>by obtain ⟨v,r,rfl,h1,h2⟩:=h;simp only [ARep,PRep,ARepL] at h1 h2;rw [h1,h2]) (fun w U=>⟨[],rfl,rfl⟩)
  (fun b w _ h=>b_Grow_fresh 0 b n w (Nat.zero_le _) (h hf) (Nat.zero_le _) hn) hk
theorem useBT (i:Nat) (s:List UInt8) (hat:SbAt L k i tSb tU8 s) (hki:k≠.l i)
  (hk:awpOps Tryz.prog E Y is (Zg (fr.map (·.kill (.l i))) d (.p (.str s))) (delSb L k i) K):CallOp Tryz.prog E 93 [.adr k 0] L d fr (contO Tryz.prog E Y is K):=
 useWS i tSb tU8 s hat hki (fun b w h=>b_String_any 0 b s w h (Nat.zero_le _)) hk
theorem lens_take_le:∀ (l:List (List UInt8)) (k:Nat),Lib.lens (l.take k)≤Lib.lens l
 |[],k=>by simp
 |x :: r,0=>by simp [Lib.lens]
 |x :: r,k+1=>by have:=lens_take_le r k;simp only [List.take_succ_cons,Lib.lens,List.map_cons,List.sum_cons] at *;omega
theorem Join_ok (l:List (List UInt8)) (sep:List UInt8) (hl:l.length≤1000000000) (hlen:(Lib.join l sep).length≤1000000000):PCall Tryz.prog E 71 [strs l,.str sep] (·=.str (Lib.join l sep)):=by
 refine pcallF mixed Tryz.func71 ck_strings_Join ?_
 simp only [a0,l0,OS.ao,List.map_cons,List.map_nil,List.length_cons,List.length_nil,List.cons_append,List.nil_append,Nat.reduceSub,Nat.reduceAdd,List.replicate_succ,List.replicate_zero,ir_strings_Join,rs_strings_Join,ZZ,WW,Ze,reduceCtorEq,Nat.reduceAdd,Nat.reduceMul,Nat.reduceLeDiff,Nat.reduceLT,Nat.reduceEqDiff]
 simp only [strs,ZZ,WW,Ze,reduceCtorEq,Nat.reduceAdd,Nat.reduceMul,Nat.reduceLeDiff,Nat.reduceLT,Nat.reduceEqDiff]
 refine br ?_ ?_
 ·intro h
  have h0:l=[]:=by
   have:=of_decide_eq_true h
   simp at this
   exact this
  subst h0
  simp only [ZZ,WW,Ze,reduceCtorEq,Nat.reduceAdd,Nat.reduceMul,Nat.reduceLeDiff,Nat.reduceLT,Nat.reduceEqDiff]
  rfl
 intro h
 have h0:l.length≠0:=by have:=of_decide_eq_false h;simpa using this
 simp only [ZZ,WW,Ze,reduceCtorEq,Nat.reduceAdd,Nat.reduceMul,Nat.reduceLeDiff,Nat.reduceLT,Nat.reduceEqDiff]
 obtain ⟨x,r,rfl⟩:∃ x r,l=x :: r:=by cases l with|nil=>exact absurd rfl h0|cons x r=>exact ⟨x,r,rfl⟩
 refine br ?_ ?_
 ·intro h1
  have h1:r=[]:=List.eq_nil_of_length_eq_zero (by have:=of_decide_eq_true h1;simp at this;omega)
  subst h1
  simp only [ZZ,WW,Ze,reduceCtorEq,Nat.reduceAdd,Nat.reduceMul,Nat.reduceLeDiff,Nat.reduceLT,Nat.reduceEqDiff]
  refine ⟨by simp,by simp,?_⟩
  rw [Lib.join_one]
  rfl
 intro h1
 have h1:r.length≠0:=by have:=of_decide_eq_false h1;simp at this;omega
 have hJ:=Lib.join_length x r sep
 have hcl:(x :: r).length=r.length+1:=by simp
 have hmul:sep.length * r.length≤1000000000:=by omega
 have hll:Lib.lens (x :: r)≤1000000000:=by omega
 generalize hes:(x :: r).map (fun x=>[PV.str x])=es
 have hln:es.length=r.length+1:=by rw [← hes];simp
 have hget:∀ (k:Nat) (y:List UInt8),(x :: r)[k]?=some y→es.getD k []=[PV.str y]:=fun k y h=>by rw [← hes];exact getD_map h
 simp only [ZZ,WW,Ze,reduceCtorEq,Nat.reduceAdd,Nat.reduceMul,Nat.reduceLeDiff,Nat.reduceLT,Nat.reduceEqDiff]
 refine br_join (fun fr L=>fr=[.p (.sl 1 es),.p (.str sep),oo,oo,oo,.p (int (sep.length * r.length:Nat)),oo,oo,oo,oo,oo,oo,oo,oo,oo,oo,oo,oo,oo,oo,oo,oo,oo,oo,oo,oo,oo,oo,oo,oo,oo,oo,oo,oo,oo,oo,oo,oo,oo,oo,oo,oo,oo,oo,oo,oo,oo,oo,oo,oo,oo,oo,oo,oo,oo,oo,oo,oo,oo,oo,oo,oo,oo,oo,oo,oo,oo,oo,oo,oo,oo,oo,oo,oo,oo]∧L=[]) ?_ ?_ ?_
 ·intro hs
  have hs:0 < sep.length:=by have:=of_decide_eq_true hs;omega
  simp only [ZZ,WW,Ze,reduceCtorEq,Nat.reduceAdd,Nat.reduceMul,Nat.reduceLeDiff,Nat.reduceLT,Nat.reduceEqDiff]
  have hq:((9223372036854775807:Int)).tdiv ((es.length:Int) - 1)=((9223372036854775807 / r.length:Nat):Int):=by
   rw [hln,Int.tdiv_eq_ediv_of_nonneg (by omega)]
   have:((r.length+1:Nat):Int) - 1=(r.length:Int):=by omega
   rw [this]
   rfl
  have hq2:9223372036≤9223372036854775807 / r.length:=(Nat.le_div_iff_mul_le (by omega)).2 (by omega)
  have he:(es.length:Int) - 1=(r.length:Int):=by omega
  have hp:(sep.length:Int) * (r.length:Int)=((sep.length * r.length:Nat):Int):=by simp
  have hq3:9223372036854775807 / r.length≤9223372036854775807:=Nat.div_le_self _ _
  have hsl:sep.length≤sep.length * r.length:=Nat.le_mul_of_pos_right _ (by omega)
  rw [hq]
  generalize 9223372036854775807 / r.length=q at *
  simp only [he]
  refine ⟨i64_of (by omega) (by omega),⟨by omega,i64_of (by omega) (by omega)⟩,?_⟩
  refine br (fun h=>absurd (of_decide_eq_true h) (by omega)) ?_
  intro _
  simp only [ZZ,WW,Ze,reduceCtorEq,Nat.reduceAdd,Nat.reduceMul,Nat.reduceLeDiff,Nat.reduceLT,Nat.reduceEqDiff]
  refine cut_same zE_ ?_
  simp only [ZZ,WW,Ze,reduceCtorEq,Nat.reduceAdd,Nat.reduceMul,Nat.reduceLeDiff,Nat.reduceLT,Nat.reduceEqDiff]
  simp only [he,hp]
  refine ⟨i64_of (by omega) (by omega),i64_of (by omega) (by omega),i64_of (by omega) (by omega),to_mid [.p (.sl 1 es),.p (.str sep),oo,oo,oo,.p (int (sep.length * r.length:Nat)),oo,oo,oo,oo,oo,oo,oo,oo,oo,oo,oo,oo,oo,oo,oo,oo,oo,oo,oo,oo,oo,oo,oo,oo,oo,oo,oo,oo,oo,oo,oo,oo,oo,oo,oo,oo,oo,oo,oo,oo,oo,oo,oo,oo,oo,oo,oo,oo,oo,oo,oo,oo,oo,oo,oo,oo,oo,oo,oo,oo,oo,oo,oo,oo,oo,oo,oo,oo,oo] [] (by simp only [Int.zero_add];(simp only [ZZ,WW,Ze,reduceCtorEq,Nat.reduceAdd,Nat.reduceMul,Nat.reduceLeDiff,Nat.reduceLT,Nat.reduceEqDiff];try trivial)) zE_ ⟨rfl,rfl⟩⟩
 ·intro hs
  have hs:sep.length=0:=by have:=of_decide_eq_false hs;omega
  simp only [ZZ,WW,Ze,reduceCtorEq,Nat.reduceAdd,Nat.reduceMul,Nat.reduceLeDiff,Nat.reduceLT,Nat.reduceEqDiff]
  exact to_mid [.p (.sl 1 es),.p (.str sep),oo,oo,oo,.p (int (sep.length * r.length:Nat)),oo,oo,oo,oo,oo,oo,oo,oo,oo,oo,oo,oo,oo,oo,oo,oo,oo,oo,oo,oo,oo,oo,oo,oo,oo,oo,oo,oo,oo,oo,oo,oo,oo,oo,oo,oo,oo,oo,oo,oo,oo,oo,oo,oo,oo,oo,oo,oo,oo,oo,oo,oo,oo,oo,oo,oo,oo,oo,oo,oo,oo,oo,oo,oo,oo,oo,oo,oo,oo] [] (by rw [hs];simp only [Nat.zero_mul];(simp only [ZZ,WW,Ze,reduceCtorEq,Nat.reduceAdd,Nat.reduceMul,Nat.reduceLeDiff,Nat.reduceLT,Nat.reduceEqDiff];try trivial)) zE_ ⟨rfl,rfl⟩
 ·rintro fr L ⟨rfl,rfl⟩
  simp only [ZZ,WW,Ze,reduceCtorEq,Nat.reduceAdd,Nat.reduceMul,Nat.reduceLeDiff,Nat.reduceLT,Nat.reduceEqDiff]
  refine loop_intro (fun n fr L=>∃ (k:Nat) (m:Nat),k≤r.length+1∧n=r.length+1 - k∧(m=sep.length * r.length+Lib.lens ((x :: r).take k))∧fr=[.p (.sl 1 es),.p (.str sep),oo,oo,oo,.p (int (m:Nat)),oo,oo,oo,oo,oo,oo,oo,oo,oo,oo,oo,oo,oo,oo,oo,oo,oo,oo,oo,oo,oo,oo,oo,oo,oo,oo,oo,oo,oo,oo,oo,oo,oo,.p (.sl 1 es),.p (int (es.length:Nat)),.p (int (k:Nat)),oo,oo,oo,oo,oo,oo,oo,oo,oo,oo,oo,oo,oo,oo,oo,oo,oo,oo,oo,oo,oo,oo,oo,oo,oo,oo,oo,oo,oo,oo,oo,oo,oo]∧L=[]) (r.length+1) [.p (.sl 1 es),.p (.str sep),oo,oo,oo,.p (int ((sep.length * r.length):Nat)),oo,oo,oo,oo,oo,oo,oo,oo,oo,oo,oo,oo,oo,oo,oo,oo,oo,oo,oo,oo,oo,oo,oo,oo,oo,oo,oo,oo,oo,oo,oo,oo,oo,.p (.sl 1 es),.p (int (es.length:Nat)),.p (int (0:Nat)),oo,oo,oo,oo,oo,oo,oo,oo,oo,oo,oo,oo,oo,oo,oo,oo,oo,oo,oo,oo,oo,oo,oo,oo,oo,oo,oo,oo,oo,oo,oo,oo,oo] [] (by (simp only [ZZ,WW,Ze,reduceCtorEq,Nat.reduceAdd,Nat.reduceMul,Nat.reduceLeDiff,Nat.reduceLT,Nat.reduceEqDiff];try trivial)) (by (simp only [ZZ,WW,Ze,reduceCtorEq,Nat.reduceAdd,Nat.reduceMul,Nat.reduceLeDiff,Nat.reduceLT,Nat.reduceEqDiff];try trivial)) ⟨0,sep.length * r.length,by omega,by omega,by simp [Lib.lens],rfl,rfl⟩ ?_
  rintro n fr L ⟨k,m,hk,rfl,hm,rfl,rfl⟩
  simp only [ir_strings_Join_L0,ZZ,WW,Ze,reduceCtorEq,Nat.reduceAdd,Nat.reduceMul,Nat.reduceLeDiff,Nat.reduceLT,Nat.reduceEqDiff]
  refine br ?_ ?_
  ·intro h
   have hlt:k < r.length+1:=by have:=of_decide_eq_true h;omega
   obtain ⟨y,hy⟩:∃ y,(x :: r)[k]?=some y:=⟨_,List.getElem?_eq_getElem (by simpa using hlt)⟩
   have hg:=hget k y hy
   have hs1:=Lib.lens_take_succ (x :: r) k y hy
   have hs2:=lens_take_le (x :: r) (k+1)
   simp only [ZZ,WW,Ze,reduceCtorEq,Nat.reduceAdd,Nat.reduceMul,Nat.reduceLeDiff,Nat.reduceLT,Nat.reduceEqDiff,hg]
   refine ⟨⟨by omega,by omega⟩,by omega,i64_of (by omega) (by omega),?_⟩
   refine br (fun h=>absurd (of_decide_eq_true h) (by omega)) ?_
   intro _
   simp only [ZZ,WW,Ze,reduceCtorEq,Nat.reduceAdd,Nat.reduceMul,Nat.reduceLeDiff,Nat.reduceLT,Nat.reduceEqDiff]
   refine cut_same zE_ ?_
   simp only [ZZ,WW,Ze,reduceCtorEq,Nat.reduceAdd,Nat.reduceMul,Nat.reduceLeDiff,Nat.reduceLT,Nat.reduceEqDiff]
   refine ⟨i64_of (by omega) (by omega),i64_of (by omega) (by omega),?_⟩
   refine end_round (r.length+1 - (k+1)) [.p (.sl 1 es),.p (.str sep),oo,oo,oo,.p (int ((m+y.length):Nat)),oo,oo,oo,oo,oo,oo,oo,oo,oo,oo,oo,oo,oo,oo,oo,oo,oo,oo,oo,oo,oo,oo,oo,oo,oo,oo,oo,oo,oo,oo,oo,oo,oo,.p (.sl 1 es),.p (int (es.length:Nat)),.p (int ((k+1):Nat)),oo,oo,oo,oo,oo,oo,oo,oo,oo,oo,oo,oo,oo,oo,oo,oo,oo,oo,oo,oo,oo,oo,oo,oo,oo,oo,oo,oo,oo,oo,oo,oo,oo] [] (by omega) (by (simp only [ZZ,WW,Ze,reduceCtorEq,Nat.reduceAdd,Nat.reduceMul,Nat.reduceLeDiff,Nat.reduceLT,Nat.reduceEqDiff];try trivial)) (by (simp only [ZZ,WW,Ze,reduceCtorEq,Nat.reduceAdd,Nat.reduceMul,Nat.reduceLeDiff,Nat.reduceLT,Nat.reduceEqDiff];try trivial)) ⟨k+1,m+y.length,by omega,rfl,by omega,rfl,rfl⟩
  ·intro h
   have hge:k=r.length+1:=by have:=of_decide_eq_false h;omega
   subst hge
   have hm':m≤1000000000:=by rw [hm,List.take_of_length_le (by simp)];omega
   simp only [ZZ,WW,Ze,reduceCtorEq,Nat.reduceAdd,Nat.reduceMul,Nat.reduceLeDiff,Nat.reduceLT,Nat.reduceEqDiff]
   refine useBG 1000 m (.inl ⟨rfl,rfl⟩) rfl (by simp) (by omega) ?_
   have hg0:=hget 0 x rfl
   have hlx:Lib.lens (x :: r)=x.length+Lib.lens r:=by simp [Lib.lens]
   simp only [ZZ,WW,Ze,reduceCtorEq,Nat.reduceAdd,Nat.reduceMul,Nat.reduceLeDiff,Nat.reduceLT,Nat.reduceEqDiff,putSb,Int.toNat_zero,hg0]
   refine ⟨⟨by omega,by omega⟩,by omega,?_⟩
   refine useBS 1000 [] x (.inr ⟨rfl,rfl⟩) (by simp) (by simp;omega) ?_
   simp only [ZZ,WW,Ze,reduceCtorEq,Nat.reduceAdd,Nat.reduceMul,Nat.reduceLeDiff,Nat.reduceLT,Nat.reduceEqDiff,putSb]
   refine ⟨⟨by omega,by omega⟩,?_⟩
   have hd:(es.take es.length).drop 1=strE r:=by rw [List.take_length,← hes];simp [strE]
   simp only [Int.toNat_one,hd,strE_len]
   refine loop_intro (fun n fr L=>∃ (k:Nat) (s:List UInt8),k≤r.length∧n=r.length - k∧(s=x++Lib.joinTail sep (r.take k))∧fr=[oo,.p (.str sep),oo,oo,oo,oo,oo,oo,.adr (.l 8) 0,oo,oo,oo,oo,oo,oo,oo,oo,oo,oo,oo,oo,oo,oo,oo,oo,oo,oo,oo,oo,oo,oo,oo,oo,oo,oo,oo,oo,oo,oo,oo,oo,oo,oo,oo,oo,oo,oo,oo,oo,oo,oo,oo,oo,oo,oo,oo,oo,oo,oo,oo,oo,oo,oo,.p (.sl 1 (strE r)),.p (int (r.length:Nat)),.p (int (k:Nat)),oo,oo,oo,oo,oo,oo,oo,oo,oo]∧L=[(.l 8,.box [.adr (.l 8) 0,.row (.l 1000)] tSb),(.l 1000,.row (bytC s) tU8 1 true)]) (r.length) [oo,.p (.str sep),oo,oo,oo,oo,oo,oo,.adr (.l 8) 0,oo,oo,oo,oo,oo,oo,oo,oo,oo,oo,oo,oo,oo,oo,oo,oo,oo,oo,oo,oo,oo,oo,oo,oo,oo,oo,oo,oo,oo,oo,oo,oo,oo,oo,oo,oo,oo,oo,oo,oo,oo,oo,oo,oo,oo,oo,oo,oo,oo,oo,oo,oo,oo,oo,.p (.sl 1 (strE r)),.p (int (r.length:Nat)),.p (int (0:Nat)),oo,oo,oo,oo,oo,oo,oo,oo,oo] [(.l 8,.box [.adr (.l 8) 0,.row (.l 1000)] tSb),(.l 1000,.row (bytC x) tU8 1 true)] (by (simp only [ZZ,WW,Ze,reduceCtorEq,Nat.reduceAdd,Nat.reduceMul,Nat.reduceLeDiff,Nat.reduceLT,Nat.reduceEqDiff];try trivial)) (by (simp only [ZZ,WW,Ze,reduceCtorEq,Nat.reduceAdd,Nat.reduceMul,Nat.reduceLeDiff,Nat.reduceLT,Nat.reduceEqDiff];try trivial)) ⟨0,x,by omega,by omega,by simp [Lib.joinTail],rfl,rfl⟩ ?_
   rintro n fr L ⟨k,s,hk,rfl,hs,rfl,rfl⟩
   simp only [ir_strings_Join_L1,ZZ,WW,Ze,reduceCtorEq,Nat.reduceAdd,Nat.reduceMul,Nat.reduceLeDiff,Nat.reduceLT,Nat.reduceEqDiff]
   refine br ?_ ?_
   ·intro h
    have hlt:k < r.length:=by have:=of_decide_eq_true h;omega
    obtain ⟨y,hy⟩:∃ y,r[k]?=some y:=⟨_,List.getElem?_eq_getElem hlt⟩
    have hg:=strE_get hy
    have hj1:=Lib.joinTail_take_succ sep r k y hy
    have hj2:=Lib.joinTail_take_le sep r (k+1)
    have hj3:=Lib.joinTail_length sep r
    have hj4:(Lib.joinTail sep (r.take (k+1))).length=(Lib.joinTail sep (r.take k)).length+sep.length+y.length:=by rw [hj1];simp;omega
    have hsl:s.length=x.length+(Lib.joinTail sep (r.take k)).length:=by rw [hs];simp
    simp only [ZZ,WW,Ze,reduceCtorEq,Nat.reduceAdd,Nat.reduceMul,Nat.reduceLeDiff,Nat.reduceLT,Nat.reduceEqDiff,strE_len,hg]
    refine ⟨⟨by omega,by omega⟩,by omega,?_⟩
    refine useBS 1000 s sep (.inr ⟨rfl,rfl⟩) (by simp) (by omega) ?_
    simp only [ZZ,WW,Ze,reduceCtorEq,Nat.reduceAdd,Nat.reduceMul,Nat.reduceLeDiff,Nat.reduceLT,Nat.reduceEqDiff,putSb]
    refine useBS 1000 (s++sep) y (.inr ⟨rfl,rfl⟩) (by simp) (by simp;omega) ?_
    simp only [ZZ,WW,Ze,reduceCtorEq,Nat.reduceAdd,Nat.reduceMul,Nat.reduceLeDiff,Nat.reduceLT,Nat.reduceEqDiff,putSb]
    refine ⟨i64_of (by omega) (by omega),?_⟩
    refine end_round (r.length - (k+1)) [oo,.p (.str sep),oo,oo,oo,oo,oo,oo,.adr (.l 8) 0,oo,oo,oo,oo,oo,oo,oo,oo,oo,oo,oo,oo,oo,oo,oo,oo,oo,oo,oo,oo,oo,oo,oo,oo,oo,oo,oo,oo,oo,oo,oo,oo,oo,oo,oo,oo,oo,oo,oo,oo,oo,oo,oo,oo,oo,oo,oo,oo,oo,oo,oo,oo,oo,oo,.p (.sl 1 (strE r)),.p (int (r.length:Nat)),.p (int ((k+1):Nat)),oo,oo,oo,oo,oo,oo,oo,oo,oo] [(.l 8,.box [.adr (.l 8) 0,.row (.l 1000)] tSb),(.l 1000,.row (bytC (s++sep++y)) tU8 1 true)] (by omega) (by (simp only [ZZ,WW,Ze,reduceCtorEq,Nat.reduceAdd,Nat.reduceMul,Nat.reduceLeDiff,Nat.reduceLT,Nat.reduceEqDiff];try trivial)) (by (simp only [ZZ,WW,Ze,reduceCtorEq,Nat.reduceAdd,Nat.reduceMul,Nat.reduceLeDiff,Nat.reduceLT,Nat.reduceEqDiff];try trivial)) ⟨k+1,s++sep++y,by omega,rfl,by rw [hj1,hs];simp,rfl,rfl⟩
   ·intro h
    have hge:k=r.length:=by have:=of_decide_eq_false h;omega
    subst hge
    simp only [ZZ,WW,Ze,reduceCtorEq,Nat.reduceAdd,Nat.reduceMul,Nat.reduceLeDiff,Nat.reduceLT,Nat.reduceEqDiff]
    refine useBT 1000 s (.inr ⟨rfl,rfl⟩) (by simp) ?_
    simp only [ZZ,WW,Ze,reduceCtorEq,Nat.reduceAdd,Nat.reduceMul,Nat.reduceLeDiff,Nat.reduceLT,Nat.reduceEqDiff]
    rw [hs,List.take_length,Lib.join_cons]
end
def ir_intake_quoted:IC:=(.seq (.reg [qO 2 (.mov (.c (.str [])))]) (.seq (.block 0 (.seq (.reg [qM 4 0,qO 5 (.bin .eql (.t 4) (.c (.int .u8 34))),qM 6 5,⟨some 7,.mov (.t 0),(some (6,false))⟩,⟨some 8,.bin .eql (.t 7) (.c (.int .u8 92)),(some (6,false))⟩,qO 9 (.pick (.t 6) (.c (.bool true)) (.t 8)),qM 3 9]) (.cond (.t 3) (.seq (.reg [qM 10 0,qO 11 (.cvi .i32 (.t 10)),qO 12 (.cvs (.t 11)),qO 13 (.bin .add (.c (.str [92])) (.t 12)),qM 2 13]) .ret) (.seq (.reg [qM 15 0,qO 16 (.bin .eql (.t 15) (.c (.int .u8 10))),qM 14 16]) (.cond (.t 14) (.seq (.reg [qO 2 (.mov (.c (.str [92,110])))]) .ret) (.seq (.reg [qM 18 0,qO 19 (.bin .lss (.t 18) (.c (.int .u8 33))),qM 20 19,⟨some 21,.mov (.t 0),(some (20,false))⟩,⟨some 22,.bin .gtr (.t 21) (.c (.int .u8 126)),(some (20,false))⟩,qO 23 (.pick (.t 20) (.c (.bool true)) (.t 22)),qM 17 23]) (.cond (.t 17) (.seq (.drg [qM 24 0,qO 25 (.bin .shr (.t 24) (.c (.int .u64 4))),qM 26 0,qO 27 (.bin .shr (.t 26) (.c (.int .u64 4))),qO 28 (.bin .add (.t 27) (.c (.int .u8 1))),qO 29 (.ssl (.c (.str [48,49,50,51,52,53,54,55,56,57,97,98,99,100,101,102])) (some (.t 25)) (some (.t 28))),qO 30 (.bin .add (.c (.str [92,120])) (.t 29)),qM 31 0,qO 32 (.bin .and (.t 31) (.c (.int .u8 15))),qM 33 0,qO 34 (.bin .and (.t 33) (.c (.int .u8 15))),qO 35 (.bin .add (.t 34) (.c (.int .u8 1))),qO 36 (.ssl (.c (.str [48,49,50,51,52,53,54,55,56,57,97,98,99,100,101,102])) (some (.t 32)) (some (.t 35))),qO 37 (.bin .add (.t 30) (.t 36)),qM 2 37]) .ret) .skip))))))) (.seq (.reg [qM 38 0,qO 39 (.cvi .i32 (.t 38)),qO 40 (.cvs (.t 39)),qM 2 40]) .ret)))
def rs_intake_quoted:List IRes:=[.t 2]
theorem ck_intake_quoted:chkF Tryz.prog Tryz.f145 ir_intake_quoted rs_intake_quoted 41=true:=by kernel_rfl
def ir_intake_Quote_L0:IC:=(.seq (.reg [qO 9 (.bin .lss (.t 8) (.t 7))]) (.seq (.cond (.t 9) .skip (.exit 0)) (.seq (.block 1 (.seq (.reg [qM 10 8,qM 4 10]) (.reg [qM 11 0,qM 12 4,qO 13 (.idx (.t 11) (.t 12)),qO 14 (.call 145 [.t 13]),qO 15 (.call 91 [.t 3,.t 14])]))) (.reg [qO 16 (.bin .add (.t 8) (.c (.int .i64 1))),qM 8 16]))))
def ir_intake_Quote:IC:=(.seq (.reg [qO 2 (.mov (.c (.str [])))]) (.seq (.reg [qO 3 (.alc 112 [.raw (.pointer none),.nl 1])]) (.seq (.reg [qO 5 (.call 144 [.t 3,.c (.int .u8 34)])]) (.seq (.seq (.reg [qM 6 0,qO 7 (.sln (.t 6)),qO 8 (.mov (.c (.int .i64 0)))]) (.block 0 (.loop ir_intake_Quote_L0))) (.seq (.reg [qO 17 (.call 144 [.t 3,.c (.int .u8 34)])]) (.seq (.reg [qO 18 (.call 93 [.t 3]),qM 2 18]) .ret))))))
def rs_intake_Quote:List IRes:=[.t 2]
theorem ck_intake_Quote:chkF Tryz.prog Tryz.f112 ir_intake_Quote rs_intake_Quote 19=true:=by kernel_rfl
def ir_intake_Digest_L0:IC:=(.seq (.reg [qO 9 (.bin .lss (.t 8) (.t 7))]) (.seq (.cond (.t 9) .skip (.exit 0)) (.seq (.block 1 (.seq (.reg [qM 10 8,qM 4 10]) (.reg [qM 11 3,qM 12 0,qM 13 4,qO 14 (.idx (.t 12) (.t 13)),qO 15 (.cvi .u64 (.t 14)),qO 16 (.bin .xor (.t 11) (.t 15)),qO 17 (.bin .mul (.t 16) (.c (.int .u64 1099511628211))),qM 3 17]))) (.reg [qO 18 (.bin .add (.t 8) (.c (.int .i64 1))),qM 8 18]))))
def ir_intake_Digest:IC:=(.seq (.reg [qO 2 (.mov (.c (.str [])))]) (.seq (.reg [qO 3 (.mov (.c (.int .u64 14695981039346656037)))]) (.seq (.seq (.reg [qM 6 0,qO 7 (.sln (.t 6)),qO 8 (.mov (.c (.int .i64 0)))]) (.block 0 (.loop ir_intake_Digest_L0))) (.seq (.reg [qM 19 3,qO 20 (.call 110 [.t 19,.c (.int .i64 16)]),qM 5 20]) (.seq (.reg [qM 21 5,qO 22 (.sln (.t 21)),qO 23 (.bin .sub (.c (.int .i64 16)) (.t 22)),qO 24 (.call 54 [.c (.str [48]),.t 23]),qM 25 5,qO 26 (.bin .add (.t 24) (.t 25)),qM 2 26]) .ret)))))
def rs_intake_Digest:List IRes:=[.t 2]
theorem ck_intake_Digest:chkF Tryz.prog Tryz.f82 ir_intake_Digest rs_intake_Digest 27=true:=by kernel_rfl
def ir_chaseref2_DigestOf_L1:IC:=(.seq (.reg [qO 38 (.bin .lss (.t 37) (.c (.int .i64 16)))]) (.seq (.cond (.t 38) .skip (.exit 2)) (.seq (.block 3 (.seq (.reg [qM 39 3,qO 40 (.bin .rem (.t 39) (.c (.int .u64 16))),qM 41 3,qO 42 (.bin .rem (.t 41) (.c (.int .u64 16))),qO 43 (.bin .add (.t 42) (.c (.int .u64 1))),qO 44 (.ssl (.c (.str [48,49,50,51,52,53,54,55,56,57,97,98,99,100,101,102])) (some (.t 40)) (some (.t 43))),qM 45 5,qO 46 (.bin .add (.t 44) (.t 45)),qM 5 46]) (.reg [qM 47 3,qO 48 (.bin .quo (.t 47) (.c (.int .u64 16))),qM 3 48]))) (.reg [qO 49 (.bin .add (.t 37) (.c (.int .i64 1))),qM 37 49]))))
def ir_chaseref2_DigestOf_L0:IC:=(.seq (.reg [qO 9 (.bin .lss (.t 8) (.t 7))]) (.seq (.cond (.t 9) .skip (.exit 0)) (.seq (.block 1 (.seq (.reg [qM 10 8,qM 4 10]) (.seq (.reg [qM 11 3,qM 12 0,qM 13 4,qO 14 (.idx (.t 12) (.t 13)),qO 15 (.cvi .u64 (.t 14)),qO 16 (.bin .xor (.t 11) (.t 15)),qM 3 16]) (.reg [qM 17 3,qO 18 (.bin .shl (.t 17) (.c (.int .u64 40))),qM 19 3,qO 20 (.bin .shl (.t 19) (.c (.int .u64 8))),qO 21 (.bin .add (.t 18) (.t 20)),qM 22 3,qO 23 (.bin .shl (.t 22) (.c (.int .u64 7))),qO 24 (.bin .add (.t 21) (.t 23)),qM 25 3,qO 26 (.bin .shl (.t 25) (.c (.int .u64 5))),qO 27 (.bin .add (.t 24) (.t 26)),qM 28 3,qO 29 (.bin .shl (.t 28) (.c (.int .u64 4))),qO 30 (.bin .add (.t 27) (.t 29)),qM 31 3,qO 32 (.bin .shl (.t 31) (.c (.int .u64 1))),qO 33 (.bin .add (.t 30) (.t 32)),qM 34 3,qO 35 (.bin .add (.t 33) (.t 34)),qM 3 35])))) (.reg [qO 36 (.bin .add (.t 8) (.c (.int .i64 1))),qM 8 36]))))
def ir_chaseref2_DigestOf:IC:=(.seq (.reg [qO 2 (.mov (.c (.str [])))]) (.seq (.reg [qO 3 (.mov (.c (.int .u64 14695981039346656037)))]) (.seq (.seq (.reg [qM 6 0,qO 7 (.sln (.t 6)),qO 8 (.mov (.c (.int .i64 0)))]) (.block 0 (.loop ir_chaseref2_DigestOf_L0))) (.seq (.reg [qO 5 (.mov (.c (.str [])))]) (.seq (.seq (.reg [qO 37 (.mov (.c (.int .i64 0)))]) (.block 2 (.loop ir_chaseref2_DigestOf_L1))) (.seq (.reg [qM 50 5,qM 2 50]) .ret))))))
def rs_chaseref2_DigestOf:List IRes:=[.t 2]
theorem ck_chaseref2_DigestOf:chkF Tryz.prog Tryz.f70 ir_chaseref2_DigestOf rs_chaseref2_DigestOf 51=true:=by kernel_rfl
def ir_chaseref2_Quoted_L0:IC:=(.seq (.reg [qO 10 (.bin .lss (.t 9) (.t 8))]) (.seq (.cond (.t 10) .skip (.exit 0)) (.seq (.block 1 (.seq (.reg [qM 11 9,qM 4 11]) (.seq (.reg [qM 12 0,qM 13 4,qO 14 (.idx (.t 12) (.t 13)),qM 5 14]) (.block 2 (.seq (.reg [qM 20 5,qO 21 (.bin .eql (.t 20) (.c (.int .u8 34))),qM 22 21,⟨some 23,.mov (.t 5),(some (22,false))⟩,⟨some 24,.bin .eql (.t 23) (.c (.int .u8 92)),(some (22,false))⟩,qO 25 (.pick (.t 22) (.c (.bool true)) (.t 24)),qM 19 25]) (.cond (.t 19) (.reg [qM 26 3,qM 27 5,qO 28 (.bsl 1 [.c (.int .u8 92),.t 27]),qO 29 (.app 5 1 1 (.t 26) (.t 28)),qM 3 29]) (.seq (.reg [qM 31 5,qO 32 (.bin .eql (.t 31) (.c (.int .u8 10))),qM 30 32]) (.cond (.t 30) (.reg [qM 33 3,qO 34 (.aps 5 (.t 33) (.c (.str [92,110]))),qM 3 34]) (.seq (.reg [qM 36 5,qO 37 (.bin .lss (.t 36) (.c (.int .u8 33))),qM 38 37,⟨some 39,.mov (.t 5),(some (38,false))⟩,⟨some 40,.bin .gtr (.t 39) (.c (.int .u8 126)),(some (38,false))⟩,qO 41 (.pick (.t 38) (.c (.bool true)) (.t 40)),qM 35 41]) (.cond (.t 35) (.drg [qM 42 3,qM 43 5,qO 44 (.bin .quo (.t 43) (.c (.int .u8 16))),qO 45 (.idx (.c (.str [48,49,50,51,52,53,54,55,56,57,97,98,99,100,101,102])) (.t 44)),qM 46 5,qO 47 (.bin .rem (.t 46) (.c (.int .u8 16))),qO 48 (.idx (.c (.str [48,49,50,51,52,53,54,55,56,57,97,98,99,100,101,102])) (.t 47)),qO 49 (.bsl 1 [.c (.int .u8 92),.c (.int .u8 120),.t 45,.t 48]),qO 50 (.app 5 1 1 (.t 42) (.t 49)),qM 3 50]) (.reg [qM 15 3,qM 16 5,qO 17 (.bsl 1 [.t 16]),qO 18 (.app 5 1 1 (.t 15) (.t 17)),qM 3 18]))))))))))) (.cut (.reg [qO 51 (.bin .add (.t 9) (.c (.int .i64 1))),qM 9 51])))))
def ir_chaseref2_Quoted:IC:=(.seq (.reg [qO 2 (.mov (.c (.str [])))]) (.seq (.reg [qO 6 (.bsr 5 1 [.c (.int .u8 34)]),qM 3 6]) (.seq (.seq (.reg [qM 7 0,qO 8 (.sln (.t 7)),qO 9 (.mov (.c (.int .i64 0)))]) (.block 0 (.loop ir_chaseref2_Quoted_L0))) (.seq (.reg [qM 52 3,qO 53 (.bsl 1 [.c (.int .u8 34)]),qO 54 (.app 5 1 1 (.t 52) (.t 53)),qO 55 (.b2s (.t 54)),qM 2 55]) .ret))))
def rs_chaseref2_Quoted:List IRes:=[.t 2]
theorem ck_chaseref2_Quoted:chkF Tryz.prog Tryz.f74 ir_chaseref2_Quoted rs_chaseref2_Quoted 56=true:=by kernel_rfl
def ir_matter_dash:IC:=(.seq (.reg [qO 2 (.mov (.c (.str [])))]) (.seq (.seq (.reg [qM 3 0,qO 4 (.bin .eql (.t 3) (.c (.str [])))]) (.cond (.t 4) (.seq (.reg [qO 2 (.mov (.c (.str [45])))]) .ret) .skip)) (.seq (.reg [qM 5 0,qM 2 5]) .ret)))
def rs_matter_dash:List IRes:=[.t 2]
theorem ck_matter_dash:chkF Tryz.prog Tryz.f111 ir_matter_dash rs_matter_dash 6=true:=by kernel_rfl
def ir_chaseref1_dash:IC:=(.seq (.reg [qO 2 (.mov (.c (.str [])))]) (.seq (.seq (.reg [qM 3 0,qO 4 (.bin .eql (.t 3) (.c (.str [])))]) (.cond (.t 4) (.seq (.reg [qO 2 (.mov (.c (.str [45])))]) .ret) .skip)) (.seq (.reg [qM 5 0,qM 2 5]) .ret)))
def rs_chaseref1_dash:List IRes:=[.t 2]
theorem ck_chaseref1_dash:chkF Tryz.prog Tryz.f73 ir_chaseref1_dash rs_chaseref1_dash 6=true:=by kernel_rfl
theorem u8_eq (c:UInt8) (n:Nat) (hn:n < 256):c=UInt8.ofNat n↔((c.toNat:Nat):Int)=(n:Int):=by
 constructor
 ·rintro rfl
  simp
  omega
 ·intro h
  apply UInt8.toNat_inj.1
  simp
  omega
theorem enc_low (c:UInt8) (h:c.toNat < 128):(Utf8.encode (IntKind.i32.wrap ((c.toNat:Nat):Int))).data.toList=[c]:=by
 have:∀ n:Fin 128,(Utf8.encode (IntKind.i32.wrap ((n.val:Nat):Int))).data.toList=[UInt8.ofNat n.val]:=by decide +kernel
 have h1:=this ⟨c.toNat,h⟩
 simpa using h1
theorem c_hi (c:UInt8):((c.toNat:Nat):Int).fdiv (2 ^ (min (Int.toNat 4) IntKind.u8.bits))=((c.toNat / 16:Nat):Int):=by
 rw [show (2:Int) ^ (min (Int.toNat 4) IntKind.u8.bits)=16 by decide,Int.fdiv_eq_ediv_of_nonneg _ (by omega)]
 omega
theorem c_lo (c:UInt8):bitA .u8 ((c.toNat:Nat):Int) 15=((c.toNat % 16:Nat):Int):=by
 have:∀ n:Fin 256,bitA .u8 ((n.val:Nat):Int) 15=((n.val % 16:Nat):Int):=by decide +kernel
 have h:=c.toNat_lt
 exact this ⟨c.toNat,by omega⟩
theorem u8_add1 {n:Nat} (h:n < 16):IntKind.u8.wrap (((n:Nat):Int)+1)=((n+1:Nat):Int):=by
 have:∀ n:Fin 16,IntKind.u8.wrap (((n.val:Nat):Int)+1)=((n.val+1:Nat):Int):=by decide
 exact this ⟨n,h⟩
theorem hx_cut2 (n:Nat) (h:n < 16):List.drop n (48 :: List.take n [49,50,51,52,53,54,55,56,57,97,98,99,100,101,102])=[hxB n]:=by
 have:=hx_cut n h
 rwa [List.take_succ_cons] at this
section
variable {E:Envt}
theorem dash_ok (s:List UInt8):PCall Tryz.prog E 111 [.str s] (·=.str (dashF s)):=by
 refine pcallF mixed Tryz.func111 ck_matter_dash ?_
 simp only [a0,l0,OS.ao,List.map_cons,List.map_nil,List.length_cons,List.length_nil,List.cons_append,List.nil_append,Nat.reduceSub,Nat.reduceAdd,List.replicate_succ,List.replicate_zero,ir_matter_dash,rs_matter_dash,ZZ,WW,Ze,reduceCtorEq,Nat.reduceAdd,Nat.reduceMul,Nat.reduceLeDiff,Nat.reduceLT,Nat.reduceEqDiff]
 unfold dashF
 refine br ?_ ?_
 ·intro h
  have h:s=[]:=by simpa using h
  simp only [ZZ,WW,Ze,reduceCtorEq,Nat.reduceAdd,Nat.reduceMul,Nat.reduceLeDiff,Nat.reduceLT,Nat.reduceEqDiff]
  rw [if_pos h]
 ·intro h
  have h:¬ s=[]:=by simpa using h
  simp only [ZZ,WW,Ze,reduceCtorEq,Nat.reduceAdd,Nat.reduceMul,Nat.reduceLeDiff,Nat.reduceLT,Nat.reduceEqDiff]
  rw [if_neg h]
theorem dashR_ok (s:List UInt8):PCall Tryz.prog E 73 [.str s] (·=.str (dashF s)):=by
 refine pcallF mixed Tryz.func73 ck_chaseref1_dash ?_
 simp only [a0,l0,OS.ao,List.map_cons,List.map_nil,List.length_cons,List.length_nil,List.cons_append,List.nil_append,Nat.reduceSub,Nat.reduceAdd,List.replicate_succ,List.replicate_zero,ir_chaseref1_dash,rs_chaseref1_dash,ZZ,WW,Ze,reduceCtorEq,Nat.reduceAdd,Nat.reduceMul,Nat.reduceLeDiff,Nat.reduceLT,Nat.reduceEqDiff]
 unfold dashF
 refine br ?_ ?_
 ·intro h
  have h:s=[]:=by simpa using h
  simp only [ZZ,WW,Ze,reduceCtorEq,Nat.reduceAdd,Nat.reduceMul,Nat.reduceLeDiff,Nat.reduceLT,Nat.reduceEqDiff]
  rw [if_pos h]
 ·intro h
  have h:¬ s=[]:=by simpa using h
  simp only [ZZ,WW,Ze,reduceCtorEq,Nat.reduceAdd,Nat.reduceMul,Nat.reduceLeDiff,Nat.reduceLT,Nat.reduceEqDiff]
  rw [if_neg h]
theorem quoted_ok (c:UInt8):PCall Tryz.prog E 145 [.int .u8 (c.toNat:Nat)] (·=.str (quB c)):=by
 have h34:=u8_eq c 34 (by omega)
 have h92:=u8_eq c 92 (by omega)
 have h10:=u8_eq c 10 (by omega)
 have h256:=c.toNat_lt
 refine pcallF mixed Tryz.func145 ck_intake_quoted ?_
 simp only [a0,l0,OS.ao,List.map_cons,List.map_nil,List.length_cons,List.length_nil,List.cons_append,List.nil_append,Nat.reduceSub,Nat.reduceAdd,List.replicate_succ,List.replicate_zero,ir_intake_quoted,rs_intake_quoted,ZZ,WW,Ze,reduceCtorEq,Nat.reduceAdd,Nat.reduceMul,Nat.reduceLeDiff,Nat.reduceLT,Nat.reduceEqDiff]
 unfold quB
 ((repeat' (with_reducible apply And.intro))<;>try ((exact sc_)))
 refine br ?_ ?_
 ·intro h
  have h:c=34∨c=92:=by
   rcases Bool.or_eq_true_iff.1 h with h|h
   ·exact .inl (h34.2 (of_decide_eq_true h))
   ·exact .inr (h92.2 (of_decide_eq_true h))
  have hl:c.toNat < 128:=by rcases h with rfl|rfl<;>decide
  have he:=enc_low c hl
  simp only [ZZ,WW,Ze,reduceCtorEq,Nat.reduceAdd,Nat.reduceMul,Nat.reduceLeDiff,Nat.reduceLT,Nat.reduceEqDiff,he]
  ((repeat' (with_reducible apply And.intro))<;>try ((exact sc_)))
  rw [if_pos h]
 intro h
 have h:¬ (c=34∨c=92):=by
  simp only [Bool.or_eq_false_iff,decide_eq_false_iff_not] at h
  rintro (h'|h')
  ·exact h.1 (h34.1 h')
  ·exact h.2 (h92.1 h')
 rw [if_neg h]
 simp only [ZZ,WW,Ze,reduceCtorEq,Nat.reduceAdd,Nat.reduceMul,Nat.reduceLeDiff,Nat.reduceLT,Nat.reduceEqDiff]
 refine br ?_ ?_
 ·intro h2
  have h2:c=10:=h10.2 (of_decide_eq_true h2)
  simp only [ZZ,WW,Ze,reduceCtorEq,Nat.reduceAdd,Nat.reduceMul,Nat.reduceLeDiff,Nat.reduceLT,Nat.reduceEqDiff]
  rw [if_pos h2]
 intro h2
 have h2:¬ c=10:=fun e=>of_decide_eq_false h2 (h10.1 e)
 rw [if_neg h2]
 simp only [ZZ,WW,Ze,reduceCtorEq,Nat.reduceAdd,Nat.reduceMul,Nat.reduceLeDiff,Nat.reduceLT,Nat.reduceEqDiff]
 ((repeat' (with_reducible apply And.intro))<;>try ((exact sc_)))
 have hlt:(c < 33∨126 < c)↔(decide (((c.toNat:Nat):Int) < 33) || decide (126 < ((c.toNat:Nat):Int)))=true:=by
  simp only [Bool.or_eq_true,decide_eq_true_eq,UInt8.lt_iff_toNat_lt]
  rw [show (33:UInt8).toNat=33 from rfl,show (126:UInt8).toNat=126 from rfl]
  omega
 refine br ?_ ?_
 ·intro h3
  rw [if_pos (hlt.2 h3)]
  have e1:=c_hi c
  have e2:=c_lo c
  have e3:=u8_add1 (n:=c.toNat / 16) (by omega)
  have e4:=u8_add1 (n:=c.toNat % 16) (by omega)
  have e5:=hx_cut2 (c.toNat / 16) (by omega)
  have e6:=hx_cut2 (c.toNat % 16) (by omega)
  simp only [ZZ,WW,Ze,reduceCtorEq,Nat.reduceAdd,Nat.reduceMul,Nat.reduceLeDiff,Nat.reduceLT,Nat.reduceEqDiff]
  refine drg0 ?_
  simp only [ZZ,WW,Ze,reduceCtorEq,Nat.reduceAdd,Nat.reduceMul,Nat.reduceLeDiff,Nat.reduceLT,Nat.reduceEqDiff,e1,e2,e3,e4,e5,e6,Int.toNat_natCast]
  ((repeat' (with_reducible apply And.intro))<;>try ((exact sc_)))
 ·intro h3
  have h3':¬ (c < 33∨126 < c):=fun e=>by rw [hlt.1 e] at h3;cases h3
  rw [if_neg h3']
  have hl:c.toNat < 128:=by
   simp only [Bool.or_eq_false_iff,decide_eq_false_iff_not] at h3
   omega
  have he:=enc_low c hl
  simp only [ZZ,WW,Ze,reduceCtorEq,Nat.reduceAdd,Nat.reduceMul,Nat.reduceLeDiff,Nat.reduceLT,Nat.reduceEqDiff,he]
theorem fnv_bit (h:Int) (c:UInt8):IntKind.u64.wrap (bitX .u64 h (IntKind.u64.wrap (c.toNat:Nat)) * 1099511628211)=fnvS h c:=by
 have:=c.toNat_lt
 rw [wrap_id (x:=((c.toNat:Nat):Int)) (by omega) (by omega)]
 rfl
theorem shl_u (x:Int) (k:Int) (n:Nat) (hk:k=n) (hn:n≤64):IntKind.u64.wrap (x * 2 ^ (min k.toNat IntKind.u64.bits))=IntKind.u64.wrap (x * (2 ^ n:Nat)):=by
 subst hk
 rw [Int.toNat_natCast,show IntKind.u64.bits=64 from rfl,Nat.min_eq_left hn,Int.natCast_pow]
 rfl
def hxR:Nat→Nat→Nat
 |0,n=>n
 |k+1,n=>hxR k (n / 16)
theorem hxR_next:∀ (k n:Nat),hxR (k+1) n=hxR k n / 16
 |0,n=>rfl
 |k+1,n=>hxR_next k (n / 16)
theorem hxR_le:∀ (k n:Nat),hxR k n≤n
 |0,n=>Nat.le_refl _
 |k+1,n=>Nat.le_trans (hxR_le k (n / 16)) (Nat.div_le_self _ _)
theorem hexK_next:∀ (k n:Nat),hexK (k+1) n=hxB (hxR k n % 16) :: hexK k n
 |0,n=>by simp [hexK,hxR]
 |k+1,n=>by
  rw [hexK,hexK_next k (n / 16)]
  rfl
theorem u64_hex (m:Nat) (h:m < 18446744073709551616):((m:Nat):Int).tmod 16=((m % 16:Nat):Int)∧IntKind.u64.wrap (((m % 16:Nat):Int)+1)=((m % 16+1:Nat):Int)∧IntKind.u64.wrap (((m:Nat):Int).tdiv 16)=((m / 16:Nat):Int):=by
 refine ⟨?_,?_,?_⟩
 ·rw [Int.tmod_eq_emod_of_nonneg (by omega)];omega
 ·rw [wrap_id (by omega) (by omega)];omega
 ·rw [Int.tdiv_eq_ediv_of_nonneg (by omega),wrap_id (by omega) (by omega)];omega
set_option maxHeartbeats 1000000 in
theorem DigestOf_ok (s:List UInt8) (hs:s.length≤1000000000):PCall Tryz.prog E 70 [.str s] (·=.str (digF s)):=by
 refine pcallF mixed Tryz.func70 ck_chaseref2_DigestOf ?_
 simp only [a0,l0,OS.ao,List.map_cons,List.map_nil,List.length_cons,List.length_nil,List.cons_append,List.nil_append,Nat.reduceSub,Nat.reduceAdd,List.replicate_succ,List.replicate_zero,ir_chaseref2_DigestOf,rs_chaseref2_DigestOf,ZZ,WW,Ze,reduceCtorEq,Nat.reduceAdd,Nat.reduceMul,Nat.reduceLeDiff,Nat.reduceLT,Nat.reduceEqDiff]
 refine loop_intro (fun n fr L=>∃ (k:Nat),k≤s.length∧n=s.length - k∧fr=[.p (.str s),oo,.p (.str []),.p (.int .u64 (fnvF (s.take k))),oo,oo,oo,.p (int (s.length:Nat)),.p (int (k:Nat)),oo,oo,oo,oo,oo,oo,oo,oo,oo,oo,oo,oo,oo,oo,oo,oo,oo,oo,oo,oo,oo,oo,oo,oo,oo,oo,oo,oo,oo,oo,oo,oo,oo,oo,oo,oo,oo,oo,oo,oo,oo,oo]∧L=[]) (s.length) [.p (.str s),oo,.p (.str []),.p (.int .u64 (fnvF (s.take 0))),oo,oo,oo,.p (int (s.length:Nat)),.p (int (0:Nat)),oo,oo,oo,oo,oo,oo,oo,oo,oo,oo,oo,oo,oo,oo,oo,oo,oo,oo,oo,oo,oo,oo,oo,oo,oo,oo,oo,oo,oo,oo,oo,oo,oo,oo,oo,oo,oo,oo,oo,oo,oo,oo] [] (by (simp only [ZZ,WW,Ze,reduceCtorEq,Nat.reduceAdd,Nat.reduceMul,Nat.reduceLeDiff,Nat.reduceLT,Nat.reduceEqDiff];try trivial)) (by (simp only [ZZ,WW,Ze,reduceCtorEq,Nat.reduceAdd,Nat.reduceMul,Nat.reduceLeDiff,Nat.reduceLT,Nat.reduceEqDiff];try trivial)) ⟨0,by omega,by omega,rfl,rfl⟩ ?_
 rintro n fr L ⟨k,hk,rfl,rfl,rfl⟩
 simp only [ir_chaseref2_DigestOf_L0,ZZ,WW,Ze,reduceCtorEq,Nat.reduceAdd,Nat.reduceMul,Nat.reduceLeDiff,Nat.reduceLT,Nat.reduceEqDiff]
 refine br ?_ ?_
 ·intro h
  have hlt:k < s.length:=by have:=of_decide_eq_true h;omega
  have hn:=fnv_next hlt
  generalize fnvF (s.take k)=x at *
  have e0:=fnv_bit x (s.getD k 0)
  have e1:∀ y:Int,IntKind.u64.wrap (y * 2 ^ (min (Int.toNat 40) IntKind.u64.bits))=IntKind.u64.wrap (y * 1099511627776):=fun y=>shl_u y 40 40 rfl (by omega)
  have e2:∀ y:Int,IntKind.u64.wrap (y * 2 ^ (min (Int.toNat 8) IntKind.u64.bits))=IntKind.u64.wrap (y * 256):=fun y=>shl_u y 8 8 rfl (by omega)
  have e3:∀ y:Int,IntKind.u64.wrap (y * 2 ^ (min (Int.toNat 7) IntKind.u64.bits))=IntKind.u64.wrap (y * 128):=fun y=>shl_u y 7 7 rfl (by omega)
  have e4:∀ y:Int,IntKind.u64.wrap (y * 2 ^ (min (Int.toNat 5) IntKind.u64.bits))=IntKind.u64.wrap (y * 32):=fun y=>shl_u y 5 5 rfl (by omega)
  have e5:∀ y:Int,IntKind.u64.wrap (y * 2 ^ (min (Int.toNat 4) IntKind.u64.bits))=IntKind.u64.wrap (y * 16):=fun y=>shl_u y 4 4 rfl (by omega)
  have e6:∀ y:Int,IntKind.u64.wrap (y * 2 ^ (min (Int.toNat 1) IntKind.u64.bits))=IntKind.u64.wrap (y * 2):=fun y=>shl_u y 1 1 rfl (by omega)
  simp only [ZZ,WW,Ze,reduceCtorEq,Nat.reduceAdd,Nat.reduceMul,Nat.reduceLeDiff,Nat.reduceLT,Nat.reduceEqDiff,Int.toNat_natCast,e1,e2,e3,e4,e5,e6,fnv_shifts,e0]
  ((repeat' (with_reducible apply And.intro))<;>try ((exact sc_)))
  refine end_round (s.length - (k+1)) [.p (.str s),oo,.p (.str []),.p (.int .u64 (fnvF (s.take (k+1)))),oo,oo,oo,.p (int (s.length:Nat)),.p (int ((k+1):Nat)),oo,oo,oo,oo,oo,oo,oo,oo,oo,oo,oo,oo,oo,oo,oo,oo,oo,oo,oo,oo,oo,oo,oo,oo,oo,oo,oo,oo,oo,oo,oo,oo,oo,oo,oo,oo,oo,oo,oo,oo,oo,oo] [] (by omega) (by rw [hn];(simp only [ZZ,WW,Ze,reduceCtorEq,Nat.reduceAdd,Nat.reduceMul,Nat.reduceLeDiff,Nat.reduceLT,Nat.reduceEqDiff];try trivial)) (by (simp only [ZZ,WW,Ze,reduceCtorEq,Nat.reduceAdd,Nat.reduceMul,Nat.reduceLeDiff,Nat.reduceLT,Nat.reduceEqDiff];try trivial)) ⟨k+1,by omega,rfl,rfl,rfl⟩
 ·intro h
  have hge:s.length≤k:=by have:=of_decide_eq_false h;omega
  rw [List.take_of_length_le hge]
  have hb:=fnvF_bd s
  have hd:digF s=hexK 16 (fnvF s).toNat:=rfl
  obtain ⟨q,hn⟩:=Int.eq_ofNat_of_zero_le hb.1
  rw [hn] at hb hd ⊢
  rw [Int.toNat_natCast] at hd
  simp only [ZZ,WW,Ze,reduceCtorEq,Nat.reduceAdd,Nat.reduceMul,Nat.reduceLeDiff,Nat.reduceLT,Nat.reduceEqDiff]
  refine loop_intro (fun n fr L=>∃ (k:Nat) (m:Nat) (T:List UInt8),k≤16∧n=16 - k∧(m=hxR k q)∧(T=hexK k q)∧fr=[oo,oo,oo,.p (.int .u64 (m:Nat)),oo,.p (.str T),oo,oo,oo,oo,oo,oo,oo,oo,oo,oo,oo,oo,oo,oo,oo,oo,oo,oo,oo,oo,oo,oo,oo,oo,oo,oo,oo,oo,oo,oo,oo,.p (int (k:Nat)),oo,oo,oo,oo,oo,oo,oo,oo,oo,oo,oo,oo,oo]∧L=[]) (16) [oo,oo,oo,.p (.int .u64 (q:Nat)),oo,.p (.str ((List.nil:List UInt8))),oo,oo,oo,oo,oo,oo,oo,oo,oo,oo,oo,oo,oo,oo,oo,oo,oo,oo,oo,oo,oo,oo,oo,oo,oo,oo,oo,oo,oo,oo,oo,.p (int (0:Nat)),oo,oo,oo,oo,oo,oo,oo,oo,oo,oo,oo,oo,oo] [] (by (simp only [ZZ,WW,Ze,reduceCtorEq,Nat.reduceAdd,Nat.reduceMul,Nat.reduceLeDiff,Nat.reduceLT,Nat.reduceEqDiff];try trivial)) (by (simp only [ZZ,WW,Ze,reduceCtorEq,Nat.reduceAdd,Nat.reduceMul,Nat.reduceLeDiff,Nat.reduceLT,Nat.reduceEqDiff];try trivial)) ⟨0,q,(List.nil:List UInt8),by omega,by omega,rfl,rfl,rfl,rfl⟩ ?_
  rintro n fr L ⟨k,m,T,hk,rfl,hm,hT,rfl,rfl⟩
  simp only [ir_chaseref2_DigestOf_L1,ZZ,WW,Ze,reduceCtorEq,Nat.reduceAdd,Nat.reduceMul,Nat.reduceLeDiff,Nat.reduceLT,Nat.reduceEqDiff]
  have hle:m≤q:=by rw [hm];exact hxR_le k q
  have hx1:hxB (m % 16) :: T=hexK (k+1) q:=by rw [hexK_next,hm,hT]
  have hx2:m / 16=hxR (k+1) q:=by rw [hxR_next,hm]
  have hkl:T.length=k:=by rw [hT,hexK_len]
  refine br ?_ ?_
  ·intro h
   have hlt:k < 16:=by have:=of_decide_eq_true h;omega
   obtain ⟨e1,e2,e4⟩:=u64_hex m (by omega)
   have e3:=hx_cut2 (m % 16) (by omega)
   clear hd hb hn hm hT
   simp only [ZZ,WW,Ze,reduceCtorEq,Nat.reduceAdd,Nat.reduceMul,Nat.reduceLeDiff,Nat.reduceLT,Nat.reduceEqDiff,e1,e2,e3,e4,Int.toNat_natCast]
   ((repeat' (with_reducible apply And.intro))<;>try ((exact sc_)))
   refine end_round (16 - (k+1)) [oo,oo,oo,.p (.int .u64 ((m / 16):Nat)),oo,.p (.str (hxB (m % 16) :: T)),oo,oo,oo,oo,oo,oo,oo,oo,oo,oo,oo,oo,oo,oo,oo,oo,oo,oo,oo,oo,oo,oo,oo,oo,oo,oo,oo,oo,oo,oo,oo,.p (int ((k+1):Nat)),oo,oo,oo,oo,oo,oo,oo,oo,oo,oo,oo,oo,oo] [] (by omega) (by (simp only [ZZ,WW,Ze,reduceCtorEq,Nat.reduceAdd,Nat.reduceMul,Nat.reduceLeDiff,Nat.reduceLT,Nat.reduceEqDiff];try trivial)) (by (simp only [ZZ,WW,Ze,reduceCtorEq,Nat.reduceAdd,Nat.reduceMul,Nat.reduceLeDiff,Nat.reduceLT,Nat.reduceEqDiff];try trivial)) ⟨k+1,m / 16,hxB (m % 16) :: T,by omega,rfl,hx2,hx1,rfl,rfl⟩
  ·intro h
   have hge:k=16:=by have:=of_decide_eq_false h;omega
   rw [hge] at hT
   rw [hd,← hT]
   clear hd hT hx1 hm
   simp only [ZZ,WW,Ze,reduceCtorEq,Nat.reduceAdd,Nat.reduceMul,Nat.reduceLeDiff,Nat.reduceLT,Nat.reduceEqDiff]
end
theorem rep48:∀ n:Nat,Lib.repeatL [48] n=List.replicate n 48
 |0=>rfl
 |n+1=>by
  have:=rep48 n
  simp only [Lib.repeatL,List.replicate_succ,List.flatten_cons] at this ⊢
  rw [this]
  rfl
theorem Digest_ok (s:List UInt8) (hs:s.length≤1000000000):PCall Tryz.prog ED 82 [.str s] (·=.str (digF s)):=by
 refine pcallF mixed Tryz.func82 ck_intake_Digest ?_
 simp only [a0,l0,OS.ao,List.map_cons,List.map_nil,List.length_cons,List.length_nil,List.cons_append,List.nil_append,Nat.reduceSub,Nat.reduceAdd,List.replicate_succ,List.replicate_zero,ir_intake_Digest,rs_intake_Digest,ZZ,WW,Ze,reduceCtorEq,Nat.reduceAdd,Nat.reduceMul,Nat.reduceLeDiff,Nat.reduceLT,Nat.reduceEqDiff]
 refine loop_intro (fun n fr L=>∃ (k:Nat),k≤s.length∧n=s.length - k∧fr=[.p (.str s),oo,.p (.str []),.p (.int .u64 (fnvF (s.take k))),oo,oo,oo,.p (int (s.length:Nat)),.p (int (k:Nat)),oo,oo,oo,oo,oo,oo,oo,oo,oo,oo,oo,oo,oo,oo,oo,oo,oo,oo]∧L=[]) (s.length) [.p (.str s),oo,.p (.str []),.p (.int .u64 (fnvF (s.take 0))),oo,oo,oo,.p (int (s.length:Nat)),.p (int (0:Nat)),oo,oo,oo,oo,oo,oo,oo,oo,oo,oo,oo,oo,oo,oo,oo,oo,oo,oo] [] (by (simp only [ZZ,WW,Ze,reduceCtorEq,Nat.reduceAdd,Nat.reduceMul,Nat.reduceLeDiff,Nat.reduceLT,Nat.reduceEqDiff];try trivial)) (by (simp only [ZZ,WW,Ze,reduceCtorEq,Nat.reduceAdd,Nat.reduceMul,Nat.reduceLeDiff,Nat.reduceLT,Nat.reduceEqDiff];try trivial)) ⟨0,by omega,by omega,rfl,rfl⟩ ?_
 rintro n fr L ⟨k,hk,rfl,rfl,rfl⟩
 simp only [ir_intake_Digest_L0,ZZ,WW,Ze,reduceCtorEq,Nat.reduceAdd,Nat.reduceMul,Nat.reduceLeDiff,Nat.reduceLT,Nat.reduceEqDiff]
 refine br ?_ ?_
 ·intro h
  have hlt:k < s.length:=by have:=of_decide_eq_true h;omega
  have hn:=fnv_next hlt
  generalize fnvF (s.take k)=x at *
  have e0:=fnv_bit x (s.getD k 0)
  simp only [ZZ,WW,Ze,reduceCtorEq,Nat.reduceAdd,Nat.reduceMul,Nat.reduceLeDiff,Nat.reduceLT,Nat.reduceEqDiff,Int.toNat_natCast,e0]
  ((repeat' (with_reducible apply And.intro))<;>try ((exact sc_)))
  refine end_round (s.length - (k+1)) [.p (.str s),oo,.p (.str []),.p (.int .u64 (fnvF (s.take (k+1)))),oo,oo,oo,.p (int (s.length:Nat)),.p (int ((k+1):Nat)),oo,oo,oo,oo,oo,oo,oo,oo,oo,oo,oo,oo,oo,oo,oo,oo,oo,oo] [] (by omega) (by rw [hn];(simp only [ZZ,WW,Ze,reduceCtorEq,Nat.reduceAdd,Nat.reduceMul,Nat.reduceLeDiff,Nat.reduceLT,Nat.reduceEqDiff];try trivial)) (by (simp only [ZZ,WW,Ze,reduceCtorEq,Nat.reduceAdd,Nat.reduceMul,Nat.reduceLeDiff,Nat.reduceLT,Nat.reduceEqDiff];try trivial)) ⟨k+1,by omega,rfl,rfl,rfl⟩
 ·intro h
  have hge:s.length≤k:=by have:=of_decide_eq_false h;omega
  rw [List.take_of_length_le hge]
  have hb:=fnvF_bd s
  have hd:=dig_pad s
  obtain ⟨n,hn⟩:=Int.eq_ofNat_of_zero_le hb.1
  rw [hn] at hb hd ⊢
  rw [Int.toNat_natCast] at hd
  simp only [ZZ,WW,Ze,reduceCtorEq,Nat.reduceAdd,Nat.reduceMul,Nat.reduceLeDiff,Nat.reduceLT,Nat.reduceEqDiff]
  have hl1:=hexF_ne n
  have hl2:=hexF_len 15 n (by omega)
  refine use1 (FormatUint_okD n (by omega)) rfl (.inl rfl) ?_
  generalize hexF n=T at *
  have he:(16:Int) - (T.length:Int)=((16 - T.length:Nat):Int):=by omega
  simp only [ZZ,WW,Ze,reduceCtorEq,Nat.reduceAdd,Nat.reduceMul,Nat.reduceLeDiff,Nat.reduceLT,Nat.reduceEqDiff,he]
  ((repeat' (with_reducible apply And.intro))<;>try ((exact sc_)))
  refine use1 (Repeat_ok [48] (16 - T.length) (by omega) (by decide)) rfl (.inl rfl) ?_
  have hr:=rep48 (16 - T.length)
  rw [hr]
  simp only [ZZ,WW,Ze,reduceCtorEq,Nat.reduceAdd,Nat.reduceMul,Nat.reduceLeDiff,Nat.reduceLT,Nat.reduceEqDiff]
  ((repeat' (with_reducible apply And.intro))<;>try ((exact sc_)))
end Go.Proofs.YtinffddgojhdfaaGreatDoor
