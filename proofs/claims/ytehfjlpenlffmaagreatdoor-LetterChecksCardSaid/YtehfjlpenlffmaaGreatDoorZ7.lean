import Derived.Test.YtehfjlpenlffmaaGreatDoorZ5
import Derived.Test.YtehfjlpenlffmaaGreatDoorZ4
import Derived.Test.YtehfjlpenlffmaaGreatDoorZ6
import Derived.Test.YtehfjlpenlffmaaGreatDoorSpec
import Derived.Shelf.Strings.IndexAnyAll
import Derived.Shelf.Small.Utf8
import Derived.BigQuiet
import Derived.WalkMore
import Derived.Deep.QuietTactic
import Derived.Shelf.RegionOpenPlain
import Derived.Deep.LoopGhost
import Derived.Laws.Runes
import Derived.Laws.RangeString
import Derived.Lib.IndexBytes
import Derived.Laws.Strings3
import Derived.Test.YtehfjlpenlffmaaGreatDoorLaySplit
import Derived.Lib.SplitLaws
import Derived.Test.YtehfjlpenlffmaaGreatDoorLayIndexAny
import Derived.Test.YtehfjlpenlffmaaGreatDoorLayTrim
import Derived.Test.YtehfjlpenlffmaaGreatDoorLayCompare
import Derived.Test.YtehfjlpenlffmaaGreatDoorLayCut
import Derived.Test.YtehfjlpenlffmaaGreatDoorZ3
import Derived.Test.YtehfjlpenlffmaaGreatDoorRep
set_option linter.unusedVariables false
set_option linter.unusedSimpArgs false
set_option linter.defProp false
namespace Go.Proofs.YtehfjlpenlffmaaGreatDoor
open Go.RowKit
def ir_thread_days_L2:IC:=(.seq (.seq (.reg [qM 46 13,qO 47 (.bin .lss (.t 46) (.c (.int .i64 2024)))]) (.cond (.t 47) .skip (.exit 4))) (.seq (.block 5 (.seq (.reg [qM 50 10,qO 51 (.bin .sub (.t 50) (.c (.int .i64 365))),qM 10 51]) (.seq (.reg [qO 52 (.ld 1 false (.t 8)),qM 53 13,qO 54 (.callv (.t 52) [.t 53])]) (.cond (.t 54) (.reg [qM 55 10,qO 56 (.bin .sub (.t 55) (.c (.int .i64 1))),qM 10 56]) .skip)))) (.cut (.reg [qM 48 13,qO 49 (.bin .add (.t 48) (.c (.int .i64 1))),qM 13 49]))))
def ir_thread_days_L1:IC:=(.seq (.seq (.reg [qM 33 12,qO 34 (.ld 1 false (.t 3)),qO 35 (.bin .lss (.t 33) (.t 34))]) (.cond (.t 35) .skip (.exit 2))) (.seq (.block 3 (.seq (.reg [qM 38 10,qO 39 (.bin .add (.t 38) (.c (.int .i64 365))),qM 10 39]) (.seq (.reg [qO 40 (.ld 1 false (.t 8)),qM 41 12,qO 42 (.callv (.t 40) [.t 41])]) (.cond (.t 42) (.reg [qM 43 10,qO 44 (.bin .add (.t 43) (.c (.int .i64 1))),qM 10 44]) .skip)))) (.cut (.reg [qM 36 12,qO 37 (.bin .add (.t 36) (.c (.int .i64 1))),qM 12 37]))))
def ir_thread_days_L0:IC:=(.seq (.seq (.reg [qM 23 11,qM 24 1,qO 25 (.bin .lss (.t 23) (.t 24))]) (.cond (.t 25) .skip (.exit 0))) (.seq (.block 1 (.reg [qM 28 10,qM 29 9,qM 30 11,qO 31 (.callv (.t 29) [.t 30]),qO 32 (.bin .add (.t 28) (.t 31)),qM 10 32])) (.reg [qM 26 11,qO 27 (.bin .add (.t 26) (.c (.int .i64 1))),qM 11 27])))
def ir_thread_days:IC:=(.seq (.reg [qO 3 (.box 3 (.t 0)),qO 6 (.mov (.c (.int .i64 0))),qO 7 (.mov (.c (.bool false)))]) (.seq (.reg [qO 8 (.alc 32 [.raw .nilFunc]),⟨none,.st 1 (.t 8) (.f 246),none⟩]) (.seq (.reg [qO 14 (.mkf 247 [.t 8,.t 3]),qM 9 14]) (.seq (.seq (.reg [qM 15 2,qM 16 9,qM 17 1,qO 18 (.callv (.t 16) [.t 17]),qO 19 (.call 51 [.t 15,.c (.int .i64 1),.t 18]),qO 20 (.not (.t 19))]) (.cond (.t 20) (.seq (.reg [qO 6 (.mov (.c (.int .i64 0))),qO 7 (.mov (.c (.bool false)))]) .ret) .skip)) (.seq (.reg [qM 21 2,qO 22 (.bin .sub (.t 21) (.c (.int .i64 1))),qM 10 22]) (.seq (.seq (.reg [qO 11 (.mov (.c (.int .i64 1)))]) (.block 0 (.loop ir_thread_days_L0))) (.seq (.seq (.reg [qO 12 (.mov (.c (.int .i64 2024)))]) (.block 2 (.loop ir_thread_days_L1))) (.seq (.seq (.reg [qO 45 (.ld 1 false (.t 3)),qM 13 45]) (.block 4 (.loop ir_thread_days_L2))) (.seq (.reg [qM 57 10,qM 6 57,qO 7 (.mov (.c (.bool true)))]) .ret)))))))))
def rs_thread_days:List IRes:=[.t 6,.t 7]
theorem ck_thread_days:chkF Tryz.prog Tryz.f187 ir_thread_days rs_thread_days 58=true:=by kernel_rfl
def ir_thread_days_1:IC:=(.seq (.reg [qO 2 (.mov (.c (.bool false)))]) (.seq (.reg [qM 3 0,qO 4 (.bin .rem (.t 3) (.c (.int .i64 4))),qO 5 (.bin .eql (.t 4) (.c (.int .i64 0))),qM 6 5,⟨some 7,.mov (.t 0),(some (6,true))⟩,⟨some 8,.bin .rem (.t 7) (.c (.int .i64 100)),(some (6,true))⟩,⟨some 9,.bin .neq (.t 8) (.c (.int .i64 0)),(some (6,true))⟩,qO 10 (.pick (.t 6) (.t 9) (.c (.bool false))),qM 11 10,⟨some 12,.mov (.t 0),(some (11,false))⟩,⟨some 13,.bin .rem (.t 12) (.c (.int .i64 400)),(some (11,false))⟩,⟨some 14,.bin .eql (.t 13) (.c (.int .i64 0)),(some (11,false))⟩,qO 15 (.pick (.t 11) (.c (.bool true)) (.t 14)),qM 2 15]) .ret))
def rs_thread_days_1:List IRes:=[.t 2]
theorem ck_thread_days_1:chkF Tryz.prog Tryz.f246 ir_thread_days_1 rs_thread_days_1 16=true:=by kernel_rfl
def ir_thread_days_2:IC:=(.seq (.reg [qO 4 (.mov (.c (.int .i64 0)))]) (.seq (.seq (.reg [qM 5 0]) (.block 0 (.seq (.reg [qO 7 (.bin .eql (.t 5) (.c (.int .i64 2))),qM 6 7]) (.cond (.t 6) (.seq (.seq (.reg [qO 8 (.ld 1 false (.t 1)),qO 9 (.ld 1 false (.t 2)),qO 10 (.callv (.t 8) [.t 9])]) (.cond (.t 10) (.seq (.reg [qO 4 (.mov (.c (.int .i64 29)))]) .ret) .skip)) (.seq (.reg [qO 4 (.mov (.c (.int .i64 28)))]) .ret)) (.seq (.seq (.reg [qO 12 (.bin .eql (.t 5) (.c (.int .i64 4))),qM 11 12]) (.cond (.t 11) .skip (.seq (.reg [qO 13 (.bin .eql (.t 5) (.c (.int .i64 6))),qM 11 13]) (.cond (.t 11) .skip (.seq (.reg [qO 14 (.bin .eql (.t 5) (.c (.int .i64 9))),qM 11 14]) (.cond (.t 11) .skip (.reg [qO 15 (.bin .eql (.t 5) (.c (.int .i64 11))),qM 11 15]))))))) (.cut (.cond (.t 11) (.seq (.reg [qO 4 (.mov (.c (.int .i64 30)))]) .ret) .skip))))))) (.seq (.reg [qO 4 (.mov (.c (.int .i64 31)))]) .ret)))
def rs_thread_days_2:List IRes:=[.t 4]
theorem ck_thread_days_2:chkF Tryz.prog Tryz.f247 ir_thread_days_2 rs_thread_days_2 16=true:=by kernel_rfl
def ir_chaseref1_leap:IC:=(.seq (.reg [qO 2 (.mov (.c (.bool false)))]) (.seq (.reg [qM 3 0,qO 4 (.bin .rem (.t 3) (.c (.int .i64 4))),qO 5 (.bin .eql (.t 4) (.c (.int .i64 0))),qM 6 5,⟨some 7,.mov (.t 0),(some (6,true))⟩,⟨some 8,.bin .rem (.t 7) (.c (.int .i64 100)),(some (6,true))⟩,⟨some 9,.bin .neq (.t 8) (.c (.int .i64 0)),(some (6,true))⟩,qO 10 (.pick (.t 6) (.t 9) (.c (.bool false))),qM 11 10,⟨some 12,.mov (.t 0),(some (11,false))⟩,⟨some 13,.bin .rem (.t 12) (.c (.int .i64 400)),(some (11,false))⟩,⟨some 14,.bin .eql (.t 13) (.c (.int .i64 0)),(some (11,false))⟩,qO 15 (.pick (.t 11) (.c (.bool true)) (.t 14)),qM 2 15]) .ret))
def rs_chaseref1_leap:List IRes:=[.t 2]
theorem ck_chaseref1_leap:chkF Tryz.prog Tryz.f255 ir_chaseref1_leap rs_chaseref1_leap 16=true:=by kernel_rfl
def ir_chaseref1_monthLong:IC:=(.seq (.reg [qO 4 (.mov (.c (.int .i64 0)))]) (.seq (.seq (.reg [qM 5 1,qO 6 (.bin .eql (.t 5) (.c (.int .i64 2))),qM 7 6,⟨some 8,.mov (.t 0),(some (7,true))⟩,⟨some 9,.call 255 [.t 8],(some (7,true))⟩,qO 10 (.pick (.t 7) (.t 9) (.c (.bool false)))]) (.cond (.t 10) (.seq (.reg [qO 4 (.mov (.c (.int .i64 29)))]) .ret) .skip)) (.seq (.reg [qO 11 (.bsl 1 [.c (.int .i64 31),.c (.int .i64 28),.c (.int .i64 31),.c (.int .i64 30),.c (.int .i64 31),.c (.int .i64 30),.c (.int .i64 31),.c (.int .i64 31),.c (.int .i64 30),.c (.int .i64 31),.c (.int .i64 30),.c (.int .i64 31)]),qM 12 1,qO 13 (.bin .sub (.t 12) (.c (.int .i64 1))),qO 14 (.ixa 1 (.t 11) (.t 13)),qO 15 (.ld 1 false (.t 14)),qM 4 15]) .ret)))
def rs_chaseref1_monthLong:List IRes:=[.t 4]
theorem ck_chaseref1_monthLong:chkF Tryz.prog Tryz.f194 ir_chaseref1_monthLong rs_chaseref1_monthLong 16=true:=by kernel_rfl
def ir_base_Moment:IC:=(.seq (.reg [qO 2 (.mov (.c (.bool false)))]) (.seq (.reg [qM 3 0,qO 4 (.call 51 [.t 3,.c (.int .i64 0),.c (.int .i64 5761439)]),qM 2 4]) .ret))
def rs_base_Moment:List IRes:=[.t 2]
theorem ck_base_Moment:chkF Tryz.prog Tryz.f106 ir_base_Moment rs_base_Moment 5=true:=by kernel_rfl
def ir_chaseref1_Moment:IC:=(.seq (.reg [qO 2 (.mov (.c (.bool false)))]) (.seq (.reg [qM 3 0,qO 4 (.bin .geq (.t 3) (.c (.int .i64 0))),qM 5 4,⟨some 6,.mov (.t 0),(some (5,true))⟩,⟨some 7,.bin .lss (.t 6) (.c (.int .i64 5761440)),(some (5,true))⟩,qO 8 (.pick (.t 5) (.t 7) (.c (.bool false))),qM 2 8]) .ret))
def rs_chaseref1_Moment:List IRes:=[.t 2]
theorem ck_chaseref1_Moment:chkF Tryz.prog Tryz.f99 ir_chaseref1_Moment rs_chaseref1_Moment 9=true:=by kernel_rfl
def leapY (y:Int):Bool:=decide (y.tmod 4=0) && !decide (y.tmod 100=0) || decide (y.tmod 400=0)
def mlen (y m:Int):Int:=if m=2 then (if leapY y=true then 29 else 28) else if m=4∨m=6∨m=9∨m=11 then 30 else 31
def ylen (y:Int):Int:=if leapY y=true then 366 else 365
theorem mlen_b (y m:Int):28≤mlen y m∧mlen y m≤31:=by
 unfold mlen
 repeat' split
 all_goals omega
theorem ylen_b (y:Int):365≤ylen y∧ylen y≤366:=by
 unfold ylen
 split<;>omega
def mS (y:Int):Nat→Int
 |0=>0
 |k+1=>mS y k+mlen y ((k+1:Nat):Int)
def yS (y:Int):Nat→Int
 |0=>0
 |k+1=>yS y k+ylen (y+(k:Nat))
theorem mS_b (y:Int):∀ k:Nat,0≤mS y k∧mS y k≤31 * (k:Int)
 |0=>by simp [mS]
 |k+1=>by
  have h:=mS_b y k
  have h2:=mlen_b y ((k+1:Nat):Int)
  rw [mS]
  omega
theorem yS_b (y:Int):∀ k:Nat,0≤yS y k∧yS y k≤366 * (k:Int)
 |0=>by simp [yS]
 |k+1=>by
  have h:=yS_b y k
  have h2:=ylen_b (y+(k:Nat))
  rw [yS]
  omega
def daysN (y m d:Int):Int:=d - 1+mS y (m - 1).toNat+yS 2024 (y - 2024).toNat - yS y (2024 - y).toNat
section
variable {E:Envt}
theorem leapT_ok (y:Int):PCall Tryz.prog E 246 [int y] (·=.bool (leapY y)):=by
 refine pcallF mixed Tryz.func246 ck_thread_days_1 ?_
 simp only [a0,l0,OS.ao,List.map_cons,List.map_nil,List.length_cons,List.length_nil,List.cons_append,List.nil_append,Nat.reduceSub,Nat.reduceAdd,List.replicate_succ,List.replicate_zero,ir_thread_days_1,rs_thread_days_1,ZZ,WW,Ze,reduceCtorEq,Nat.reduceAdd,Nat.reduceMul,Nat.reduceLeDiff,Nat.reduceLT,Nat.reduceEqDiff]
 exact ⟨by decide,fun h=>⟨h,by decide⟩,fun h=>⟨h,by decide⟩,fun h=>by rw [h];rfl,rfl⟩
theorem leapR_ok (y:Int):PCall Tryz.prog E 255 [int y] (·=.bool (leapY y)):=by
 refine pcallF mixed Tryz.func255 ck_chaseref1_leap ?_
 simp only [a0,l0,OS.ao,List.map_cons,List.map_nil,List.length_cons,List.length_nil,List.cons_append,List.nil_append,Nat.reduceSub,Nat.reduceAdd,List.replicate_succ,List.replicate_zero,ir_chaseref1_leap,rs_chaseref1_leap,ZZ,WW,Ze,reduceCtorEq,Nat.reduceAdd,Nat.reduceMul,Nat.reduceLeDiff,Nat.reduceLT,Nat.reduceEqDiff]
 exact ⟨by decide,fun h=>⟨h,by decide⟩,fun h=>⟨h,by decide⟩,fun h=>by rw [h];rfl,rfl⟩
theorem mlenT_ok (y m:Int):PCall Tryz.prog E 247 [int m,.ptr [.clo 246 []],.ptr [int y]] (·=int (mlen y m)):=by
 refine pcallF mixed Tryz.func247 ck_thread_days_2 ?_
 simp only [a0,l0,OS.ao,List.map_cons,List.map_nil,List.length_cons,List.length_nil,List.cons_append,List.nil_append,Nat.reduceSub,Nat.reduceAdd,List.replicate_succ,List.replicate_zero,ir_thread_days_2,rs_thread_days_2,ZZ,WW,Ze,reduceCtorEq,Nat.reduceAdd,Nat.reduceMul,Nat.reduceLeDiff,Nat.reduceLT,Nat.reduceEqDiff]
 unfold mlen
 refine br ?_ ?_
 ·intro h
  have h:=of_decide_eq_true h
  simp only [ZZ,WW,Ze,reduceCtorEq,Nat.reduceAdd,Nat.reduceMul,Nat.reduceLeDiff,Nat.reduceLT,Nat.reduceEqDiff]
  refine ⟨by kernel_rfl,?_⟩
  refine use1 (leapT_ok y) rfl (.inl rfl) ?_
  simp only [ZZ,WW,Ze,reduceCtorEq,Nat.reduceAdd,Nat.reduceMul,Nat.reduceLeDiff,Nat.reduceLT,Nat.reduceEqDiff]
  rw [if_pos h]
  refine br ?_ ?_
  ·intro hl
   simp only [ZZ,WW,Ze,reduceCtorEq,Nat.reduceAdd,Nat.reduceMul,Nat.reduceLeDiff,Nat.reduceLT,Nat.reduceEqDiff]
   rw [if_pos hl]
  ·intro hl
   simp only [ZZ,WW,Ze,reduceCtorEq,Nat.reduceAdd,Nat.reduceMul,Nat.reduceLeDiff,Nat.reduceLT,Nat.reduceEqDiff]
   rw [if_neg (by rw [hl];simp)]
 ·intro h
  have h2:=of_decide_eq_false h
  rw [if_neg h2]
  simp only [ZZ,WW,Ze,reduceCtorEq,Nat.reduceAdd,Nat.reduceMul,Nat.reduceLeDiff,Nat.reduceLT,Nat.reduceEqDiff]
  refine br ?_ ?_
  ·intro h4
   simp only [ZZ,WW,Ze,reduceCtorEq,Nat.reduceAdd,Nat.reduceMul,Nat.reduceLeDiff,Nat.reduceLT,Nat.reduceEqDiff]
   refine cut_re _ _ ReOk.refl ?_
   simp only [ZZ,WW,Ze,reduceCtorEq,Nat.reduceAdd,Nat.reduceMul,Nat.reduceLeDiff,Nat.reduceLT,Nat.reduceEqDiff,h4]
   rw [if_pos (.inl (of_decide_eq_true h4))]
  ·intro h4
   simp only [ZZ,WW,Ze,reduceCtorEq,Nat.reduceAdd,Nat.reduceMul,Nat.reduceLeDiff,Nat.reduceLT,Nat.reduceEqDiff]
   refine br ?_ ?_
   ·intro h6
    simp only [ZZ,WW,Ze,reduceCtorEq,Nat.reduceAdd,Nat.reduceMul,Nat.reduceLeDiff,Nat.reduceLT,Nat.reduceEqDiff]
    refine cut_re _ _ ReOk.refl ?_
    simp only [ZZ,WW,Ze,reduceCtorEq,Nat.reduceAdd,Nat.reduceMul,Nat.reduceLeDiff,Nat.reduceLT,Nat.reduceEqDiff,h6]
    rw [if_pos (.inr (.inl (of_decide_eq_true h6)))]
   ·intro h6
    simp only [ZZ,WW,Ze,reduceCtorEq,Nat.reduceAdd,Nat.reduceMul,Nat.reduceLeDiff,Nat.reduceLT,Nat.reduceEqDiff]
    refine br ?_ ?_
    ·intro h9
     simp only [ZZ,WW,Ze,reduceCtorEq,Nat.reduceAdd,Nat.reduceMul,Nat.reduceLeDiff,Nat.reduceLT,Nat.reduceEqDiff]
     refine cut_re _ _ ReOk.refl ?_
     simp only [ZZ,WW,Ze,reduceCtorEq,Nat.reduceAdd,Nat.reduceMul,Nat.reduceLeDiff,Nat.reduceLT,Nat.reduceEqDiff,h9]
     rw [if_pos (.inr (.inr (.inl (of_decide_eq_true h9))))]
    ·intro h9
     simp only [ZZ,WW,Ze,reduceCtorEq,Nat.reduceAdd,Nat.reduceMul,Nat.reduceLeDiff,Nat.reduceLT,Nat.reduceEqDiff]
     refine cut_re _ _ ReOk.refl ?_
     simp only [ZZ,WW,Ze,reduceCtorEq,Nat.reduceAdd,Nat.reduceMul,Nat.reduceLeDiff,Nat.reduceLT,Nat.reduceEqDiff]
     refine br ?_ ?_
     ·intro h11
      simp only [ZZ,WW,Ze,reduceCtorEq,Nat.reduceAdd,Nat.reduceMul,Nat.reduceLeDiff,Nat.reduceLT,Nat.reduceEqDiff]
      rw [if_pos (.inr (.inr (.inr (of_decide_eq_true h11))))]
     ·intro h11
      simp only [ZZ,WW,Ze,reduceCtorEq,Nat.reduceAdd,Nat.reduceMul,Nat.reduceLeDiff,Nat.reduceLT,Nat.reduceEqDiff]
      rw [if_neg]
      rintro (e|e|e|e)
      ·exact of_decide_eq_false h4 e
      ·exact of_decide_eq_false h6 e
      ·exact of_decide_eq_false h9 e
      ·exact of_decide_eq_false h11 e
theorem mlenR_ok (y m:Int) (h1:1≤m) (h2:m≤12):PCall Tryz.prog E 194 [int y,int m] (·=int (mlen y m)):=by
 refine pcallF mixed Tryz.func194 ck_chaseref1_monthLong ?_
 simp only [a0,l0,OS.ao,List.map_cons,List.map_nil,List.length_cons,List.length_nil,List.cons_append,List.nil_append,Nat.reduceSub,Nat.reduceAdd,List.replicate_succ,List.replicate_zero,ir_chaseref1_monthLong,rs_chaseref1_monthLong,ZZ,WW,Ze,reduceCtorEq,Nat.reduceAdd,Nat.reduceMul,Nat.reduceLeDiff,Nat.reduceLT,Nat.reduceEqDiff]
 refine useG (fun _=>leapR_ok y) rfl (.inl rfl) ?_
 simp only [ZZ,WW,Ze,reduceCtorEq,Nat.reduceAdd,Nat.reduceMul,Nat.reduceLeDiff,Nat.reduceLT,Nat.reduceEqDiff]
 refine br ?_ ?_
 ·intro h
  simp only [Bool.and_eq_true,decide_eq_true_eq] at h
  simp only [ZZ,WW,Ze,reduceCtorEq,Nat.reduceAdd,Nat.reduceMul,Nat.reduceLeDiff,Nat.reduceLT,Nat.reduceEqDiff]
  rw [mlen,if_pos h.1,if_pos h.2]
 ·intro h
  simp only [ZZ,WW,Ze,reduceCtorEq,Nat.reduceAdd,Nat.reduceMul,Nat.reduceLeDiff,Nat.reduceLT,Nat.reduceEqDiff]
  have hm:m=1∨m=2∨m=3∨m=4∨m=5∨m=6∨m=7∨m=8∨m=9∨m=10∨m=11∨m=12:=by omega
  rcases hm with rfl|rfl|rfl|rfl|rfl|rfl|rfl|rfl|rfl|rfl|rfl|rfl
  all_goals refine ⟨i64_of (by decide) (by decide),⟨by decide,by decide⟩,by decide,?_⟩
  all_goals first
   |rfl
   |(have hl:leapY y=false:=by simpa using h
     show int 28=int (mlen y 2)
     rw [mlen,if_pos rfl,if_neg (by rw [hl];simp)])
theorem Moment_ok (n:Int):PCall Tryz.prog E 106 [int n] (·=.bool (inE n 0 5761439)):=by
 refine pcallF mixed Tryz.func106 ck_base_Moment ?_
 simp only [a0,l0,OS.ao,List.map_cons,List.map_nil,List.length_cons,List.length_nil,List.cons_append,List.nil_append,Nat.reduceSub,Nat.reduceAdd,List.replicate_succ,List.replicate_zero,ir_base_Moment,rs_base_Moment,ZZ,WW,Ze,reduceCtorEq,Nat.reduceAdd,Nat.reduceMul,Nat.reduceLeDiff,Nat.reduceLT,Nat.reduceEqDiff]
 refine use1 (In_ok n 0 5761439) rfl (.inl rfl) ?_
 simp only [ZZ,WW,Ze,reduceCtorEq,Nat.reduceAdd,Nat.reduceMul,Nat.reduceLeDiff,Nat.reduceLT,Nat.reduceEqDiff]
theorem MomentR_ok (n:Int):PCall Tryz.prog E 99 [int n] (·=.bool (inE n 0 5761439)):=by
 refine pcallF mixed Tryz.func99 ck_chaseref1_Moment ?_
 simp only [a0,l0,OS.ao,List.map_cons,List.map_nil,List.length_cons,List.length_nil,List.cons_append,List.nil_append,Nat.reduceSub,Nat.reduceAdd,List.replicate_succ,List.replicate_zero,ir_chaseref1_Moment,rs_chaseref1_Moment,ZZ,WW,Ze,reduceCtorEq,Nat.reduceAdd,Nat.reduceMul,Nat.reduceLeDiff,Nat.reduceLT,Nat.reduceEqDiff]
 have:(decide (0≤n) && decide (n < 5761440))=inE n 0 5761439:=by
  unfold inE
  rw [Bool.eq_iff_iff]
  simp only [Bool.and_eq_true,decide_eq_true_eq]
  omega
 rw [this]
abbrev fMl:Nat:=247
abbrev fLp:Nat:=246
abbrev tLp:Nat:=32
set_option maxHeartbeats 4000000 in
theorem days_ok (y m d:Int) (hy0:0≤y) (hy1:y≤10000) (hm0:1≤m) (hm1:m≤12):PCall Tryz.prog E 187 [int y,int m,int d] (·=if inE d 1 (mlen y m)=true then .tup [int (daysN y m d),.bool true] else .tup [int 0,.bool false]):=by
 refine pcallF mixed Tryz.func187 ck_thread_days ?_
 simp only [a0,l0,OS.ao,List.map_cons,List.map_nil,List.length_cons,List.length_nil,List.cons_append,List.nil_append,Nat.reduceSub,Nat.reduceAdd,List.replicate_succ,List.replicate_zero,ir_thread_days,rs_thread_days,ZZ,WW,Ze,reduceCtorEq,Nat.reduceAdd,Nat.reduceMul,Nat.reduceLeDiff,Nat.reduceLT,Nat.reduceEqDiff]
 refine ⟨by kernel_rfl,?_⟩
 refine use1 (mlenT_ok y m) rfl (.inr rfl) ?_
 simp only [ZZ,WW,Ze,reduceCtorEq,Nat.reduceAdd,Nat.reduceMul,Nat.reduceLeDiff,Nat.reduceLT,Nat.reduceEqDiff]
 refine use1 (In_ok d 1 (mlen y m)) rfl (.inl rfl) ?_
 simp only [ZZ,WW,Ze,reduceCtorEq,Nat.reduceAdd,Nat.reduceMul,Nat.reduceLeDiff,Nat.reduceLT,Nat.reduceEqDiff]
 refine br ?_ ?_
 ·intro h
  have h:inE d 1 (mlen y m)=false:=by rwa [Bool.not_eq_true'] at h
  simp only [ZZ,WW,Ze,reduceCtorEq,Nat.reduceAdd,Nat.reduceMul,Nat.reduceLeDiff,Nat.reduceLT,Nat.reduceEqDiff]
  rw [if_neg (by rw [h];simp)]
 ·intro h
  have h:inE d 1 (mlen y m)=true:=by rwa [Bool.not_eq_false'] at h
  rw [if_pos h]
  have hd:1≤d∧d≤31:=by
   have:=mlen_b y m
   simp only [inE,Bool.and_eq_true,decide_eq_true_eq] at h
   omega
  simp only [ZZ,WW,Ze,reduceCtorEq,Nat.reduceAdd,Nat.reduceMul,Nat.reduceLeDiff,Nat.reduceLT,Nat.reduceEqDiff]
  ((repeat' (with_reducible apply And.intro))<;>try ((exact sc_)))
  obtain ⟨M,rfl⟩:∃ M:Nat,m=(M:Nat):=⟨m.toNat,by omega⟩
  have hM:((M:Int) - 1).toNat=M - 1:=by omega
  refine loop_intro (fun n fr L=>∃ (k:Nat) (g:Int),M - k=n∧(1≤k)∧(k≤M)∧(g=d - 1+mS y (k - 1))∧fr=[oo,.p (int (M:Nat)),oo,.adr (.l 3) 0,oo,oo,oo,oo,.adr (.l 8) 0,.fn fMl [.l 8,.l 3],.p (int g),.p (int (k:Nat)),oo,oo,oo,oo,oo,oo,oo,oo,oo,oo,oo,oo,oo,oo,oo,oo,oo,oo,oo,oo,oo,oo,oo,oo,oo,oo,oo,oo,oo,oo,oo,oo,oo,oo,oo,oo,oo,oo,oo,oo,oo,oo,oo,oo,oo,oo]∧L=[(.l 3,.box [.p (int y)] 3),(.l 8,.box [.p (.clo fLp [])] tLp)]) (M - 1) [oo,.p (int (M:Nat)),oo,.adr (.l 3) 0,oo,oo,oo,oo,.adr (.l 8) 0,.fn fMl [.l 8,.l 3],.p (int (d - 1)),.p (int (1:Nat)),oo,oo,oo,oo,oo,oo,oo,oo,oo,oo,oo,oo,oo,oo,oo,oo,oo,oo,oo,oo,oo,oo,oo,oo,oo,oo,oo,oo,oo,oo,oo,oo,oo,oo,oo,oo,oo,oo,oo,oo,oo,oo,oo,oo,oo,oo] [(.l 3,.box [.p (int y)] 3),(.l 8,.box [.p (.clo fLp [])] tLp)] (by (simp only [ZZ,WW,Ze,reduceCtorEq,Nat.reduceAdd,Nat.reduceMul,Nat.reduceLeDiff,Nat.reduceLT,Nat.reduceEqDiff];try trivial)) (by (simp only [ZZ,WW,Ze,reduceCtorEq,Nat.reduceAdd,Nat.reduceMul,Nat.reduceLeDiff,Nat.reduceLT,Nat.reduceEqDiff];try trivial)) ⟨1,d - 1,rfl,Nat.le_refl _,by omega,by simp [mS],rfl,rfl⟩ ?_
  rintro n fr L ⟨k,g,rfl,hk0,hk,hn,rfl,rfl⟩
  simp only [ir_thread_days_L0,ZZ,WW,Ze,reduceCtorEq,Nat.reduceAdd,Nat.reduceMul,Nat.reduceLeDiff,Nat.reduceLT,Nat.reduceEqDiff]
  refine br ?_ ?_
  ·intro hlt
   have hlt:k < M:=by have:=of_decide_eq_true hlt;omega
   have hb:=mS_b y (k - 1)
   have hb2:=mlen_b y (k:Nat)
   have hnx:g+mlen y (k:Nat)=d - 1+mS y (k+1 - 1):=by
    obtain ⟨j,rfl⟩:∃ j,k=j+1:=⟨k - 1,by omega⟩
    rw [hn,show j+1 - 1=j from rfl,show j+1+1 - 1=j+1 from rfl,mS]
    omega
   simp only [ZZ,WW,Ze,reduceCtorEq,Nat.reduceAdd,Nat.reduceMul,Nat.reduceLeDiff,Nat.reduceLT,Nat.reduceEqDiff]
   refine ⟨by kernel_rfl,?_⟩
   refine use1 (mlenT_ok y (k:Nat)) rfl (.inr rfl) ?_
   simp only [ZZ,WW,Ze,reduceCtorEq,Nat.reduceAdd,Nat.reduceMul,Nat.reduceLeDiff,Nat.reduceLT,Nat.reduceEqDiff]
   ((repeat' (with_reducible apply And.intro))<;>try ((exact sc_)))
   refine end_round (M - (k+1)) [oo,.p (int (M:Nat)),oo,.adr (.l 3) 0,oo,oo,oo,oo,.adr (.l 8) 0,.fn fMl [.l 8,.l 3],.p (int (g+mlen y (k:Nat))),.p (int ((k+1):Nat)),oo,oo,oo,oo,oo,oo,oo,oo,oo,oo,oo,oo,oo,oo,oo,oo,oo,oo,oo,oo,oo,oo,oo,oo,oo,oo,oo,oo,oo,oo,oo,oo,oo,oo,oo,oo,oo,oo,oo,oo,oo,oo,oo,oo,oo,oo] [(.l 3,.box [.p (int y)] 3),(.l 8,.box [.p (.clo fLp [])] tLp)] (by omega) (by (simp only [ZZ,WW,Ze,reduceCtorEq,Nat.reduceAdd,Nat.reduceMul,Nat.reduceLeDiff,Nat.reduceLT,Nat.reduceEqDiff];try trivial)) (by (simp only [ZZ,WW,Ze,reduceCtorEq,Nat.reduceAdd,Nat.reduceMul,Nat.reduceLeDiff,Nat.reduceLT,Nat.reduceEqDiff];try trivial)) ⟨k+1,g+mlen y (k:Nat),rfl,by omega,by omega,hnx,rfl,rfl⟩
  intro hge
  have hkM:k=M:=by have:=of_decide_eq_false hge;omega
  subst hkM
  have hb:=mS_b y (k - 1)
  simp only [ZZ,WW,Ze,reduceCtorEq,Nat.reduceAdd,Nat.reduceMul,Nat.reduceLeDiff,Nat.reduceLT,Nat.reduceEqDiff]
  refine loop_intro (fun n fr L=>∃ (j:Nat) (q:Int),(y - 2024).toNat - j=n∧(j≤(y - 2024).toNat)∧(q=g+yS 2024 j)∧fr=[oo,oo,oo,.adr (.l 3) 0,oo,oo,oo,oo,.adr (.l 8) 0,oo,.p (int q),oo,.p (int (2024+(j:Nat))),oo,oo,oo,oo,oo,oo,oo,oo,oo,oo,oo,oo,oo,oo,oo,oo,oo,oo,oo,oo,oo,oo,oo,oo,oo,oo,oo,oo,oo,oo,oo,oo,oo,oo,oo,oo,oo,oo,oo,oo,oo,oo,oo,oo,oo]∧L=[(.l 3,.box [.p (int y)] 3),(.l 8,.box [.p (.clo fLp [])] tLp)]) ((y - 2024).toNat - 0) [oo,oo,oo,.adr (.l 3) 0,oo,oo,oo,oo,.adr (.l 8) 0,oo,.p (int g),oo,.p (int (2024+(0:Nat))),oo,oo,oo,oo,oo,oo,oo,oo,oo,oo,oo,oo,oo,oo,oo,oo,oo,oo,oo,oo,oo,oo,oo,oo,oo,oo,oo,oo,oo,oo,oo,oo,oo,oo,oo,oo,oo,oo,oo,oo,oo,oo,oo,oo,oo] [(.l 3,.box [.p (int y)] 3),(.l 8,.box [.p (.clo fLp [])] tLp)] (by (simp only [ZZ,WW,Ze,reduceCtorEq,Nat.reduceAdd,Nat.reduceMul,Nat.reduceLeDiff,Nat.reduceLT,Nat.reduceEqDiff];try trivial)) (by (simp only [ZZ,WW,Ze,reduceCtorEq,Nat.reduceAdd,Nat.reduceMul,Nat.reduceLeDiff,Nat.reduceLT,Nat.reduceEqDiff];try trivial)) ⟨0,g,rfl,Nat.zero_le _,by simp [yS],rfl,rfl⟩ ?_
  rintro n fr L ⟨j,q,rfl,hj,hq,rfl,rfl⟩
  simp only [ir_thread_days_L1,ZZ,WW,Ze,reduceCtorEq,Nat.reduceAdd,Nat.reduceMul,Nat.reduceLeDiff,Nat.reduceLT,Nat.reduceEqDiff]
  refine br ?_ ?_
  ·intro hlt
   have hlt:2024+(j:Int) < y:=of_decide_eq_true hlt
   have hb1:=yS_b 2024 j
   have hnx:q+ylen (2024+(j:Nat))=g+yS 2024 (j+1):=by rw [hq,yS];omega
   have he:2024+(j:Int)+1=2024+((j+1:Nat):Int):=by omega
   simp only [ZZ,WW,Ze,reduceCtorEq,Nat.reduceAdd,Nat.reduceMul,Nat.reduceLeDiff,Nat.reduceLT,Nat.reduceEqDiff]
   refine ⟨i64_of (by omega) (by omega),by kernel_rfl,?_⟩
   refine use1 (leapT_ok (2024+(j:Nat))) rfl (.inl rfl) ?_
   simp only [ZZ,WW,Ze,reduceCtorEq,Nat.reduceAdd,Nat.reduceMul,Nat.reduceLeDiff,Nat.reduceLT,Nat.reduceEqDiff]
   refine br ?_ ?_
   ·intro hl
    have hyl:ylen (2024+(j:Nat))=366:=by rw [ylen,if_pos hl]
    have he2:q+365+1=q+ylen (2024+(j:Nat)):=by omega
    simp only [ZZ,WW,Ze,reduceCtorEq,Nat.reduceAdd,Nat.reduceMul,Nat.reduceLeDiff,Nat.reduceLT,Nat.reduceEqDiff,he2]
    refine ⟨i64_of (by omega) (by omega),?_⟩
    refine cut_re _ _ ReOk.refl ?_
    simp only [ZZ,WW,Ze,reduceCtorEq,Nat.reduceAdd,Nat.reduceMul,Nat.reduceLeDiff,Nat.reduceLT,Nat.reduceEqDiff,he]
    ((repeat' (with_reducible apply And.intro))<;>try ((exact sc_)))
    refine end_round ((y - 2024).toNat - (j+1)) [oo,oo,oo,.adr (.l 3) 0,oo,oo,oo,oo,.adr (.l 8) 0,oo,.p (int (q+ylen (2024+(j:Nat)))),oo,.p (int (2024+((j+1):Nat))),oo,oo,oo,oo,oo,oo,oo,oo,oo,oo,oo,oo,oo,oo,oo,oo,oo,oo,oo,oo,oo,oo,oo,oo,oo,oo,oo,oo,oo,oo,oo,oo,oo,oo,oo,oo,oo,oo,oo,oo,oo,oo,oo,oo,oo] [(.l 3,.box [.p (int y)] 3),(.l 8,.box [.p (.clo fLp [])] tLp)] (by omega) (by (simp only [ZZ,WW,Ze,reduceCtorEq,Nat.reduceAdd,Nat.reduceMul,Nat.reduceLeDiff,Nat.reduceLT,Nat.reduceEqDiff];try trivial)) (by (simp only [ZZ,WW,Ze,reduceCtorEq,Nat.reduceAdd,Nat.reduceMul,Nat.reduceLeDiff,Nat.reduceLT,Nat.reduceEqDiff];try trivial)) ⟨j+1,q+ylen (2024+(j:Nat)),rfl,by omega,hnx,rfl,rfl⟩
   ·intro hl
    have hyl:ylen (2024+(j:Nat))=365:=by rw [ylen,if_neg (by rw [hl];simp)]
    have he2:q+365=q+ylen (2024+(j:Nat)):=by omega
    simp only [ZZ,WW,Ze,reduceCtorEq,Nat.reduceAdd,Nat.reduceMul,Nat.reduceLeDiff,Nat.reduceLT,Nat.reduceEqDiff,he2]
    refine cut_re _ _ ReOk.refl ?_
    simp only [ZZ,WW,Ze,reduceCtorEq,Nat.reduceAdd,Nat.reduceMul,Nat.reduceLeDiff,Nat.reduceLT,Nat.reduceEqDiff,he]
    ((repeat' (with_reducible apply And.intro))<;>try ((exact sc_)))
    refine end_round ((y - 2024).toNat - (j+1)) [oo,oo,oo,.adr (.l 3) 0,oo,oo,oo,oo,.adr (.l 8) 0,oo,.p (int (q+ylen (2024+(j:Nat)))),oo,.p (int (2024+((j+1):Nat))),oo,oo,oo,oo,oo,oo,oo,oo,oo,oo,oo,oo,oo,oo,oo,oo,oo,oo,oo,oo,oo,oo,oo,oo,oo,oo,oo,oo,oo,oo,oo,oo,oo,oo,oo,oo,oo,oo,oo,oo,oo,oo,oo,oo,oo] [(.l 3,.box [.p (int y)] 3),(.l 8,.box [.p (.clo fLp [])] tLp)] (by omega) (by (simp only [ZZ,WW,Ze,reduceCtorEq,Nat.reduceAdd,Nat.reduceMul,Nat.reduceLeDiff,Nat.reduceLT,Nat.reduceEqDiff];try trivial)) (by (simp only [ZZ,WW,Ze,reduceCtorEq,Nat.reduceAdd,Nat.reduceMul,Nat.reduceLeDiff,Nat.reduceLT,Nat.reduceEqDiff];try trivial)) ⟨j+1,q+ylen (2024+(j:Nat)),rfl,by omega,hnx,rfl,rfl⟩
  intro hge
  have hjy:j=(y - 2024).toNat:=by have:=of_decide_eq_false hge;omega
  have hb1:=yS_b 2024 j
  simp only [ZZ,WW,Ze,reduceCtorEq,Nat.reduceAdd,Nat.reduceMul,Nat.reduceLeDiff,Nat.reduceLT,Nat.reduceEqDiff]
  refine loop_intro (fun n fr L=>∃ (i:Nat) (r:Int) (z:Int),(2024 - y).toNat - i=n∧(i≤(2024 - y).toNat)∧(r=q - yS y i)∧(z=y+(i:Nat))∧fr=[oo,oo,oo,.adr (.l 3) 0,oo,oo,oo,oo,.adr (.l 8) 0,oo,.p (int r),oo,oo,.p (int z),oo,oo,oo,oo,oo,oo,oo,oo,oo,oo,oo,oo,oo,oo,oo,oo,oo,oo,oo,oo,oo,oo,oo,oo,oo,oo,oo,oo,oo,oo,oo,oo,oo,oo,oo,oo,oo,oo,oo,oo,oo,oo,oo,oo]∧L=[(.l 3,.box [.p (int y)] 3),(.l 8,.box [.p (.clo fLp [])] tLp)]) ((2024 - y).toNat - 0) [oo,oo,oo,.adr (.l 3) 0,oo,oo,oo,oo,.adr (.l 8) 0,oo,.p (int q),oo,oo,.p (int y),oo,oo,oo,oo,oo,oo,oo,oo,oo,oo,oo,oo,oo,oo,oo,oo,oo,oo,oo,oo,oo,oo,oo,oo,oo,oo,oo,oo,oo,oo,oo,oo,oo,oo,oo,oo,oo,oo,oo,oo,oo,oo,oo,oo] [(.l 3,.box [.p (int y)] 3),(.l 8,.box [.p (.clo fLp [])] tLp)] (by (simp only [ZZ,WW,Ze,reduceCtorEq,Nat.reduceAdd,Nat.reduceMul,Nat.reduceLeDiff,Nat.reduceLT,Nat.reduceEqDiff];try trivial)) (by (simp only [ZZ,WW,Ze,reduceCtorEq,Nat.reduceAdd,Nat.reduceMul,Nat.reduceLeDiff,Nat.reduceLT,Nat.reduceEqDiff];try trivial)) ⟨0,q,y,rfl,Nat.zero_le _,by simp [yS],by simp,rfl,rfl⟩ ?_
  rintro n fr L ⟨i,r,z,rfl,hi,hr,hz,rfl,rfl⟩
  simp only [ir_thread_days_L2,ZZ,WW,Ze,reduceCtorEq,Nat.reduceAdd,Nat.reduceMul,Nat.reduceLeDiff,Nat.reduceLT,Nat.reduceEqDiff]
  refine br ?_ ?_
  ·intro hlt
   have hlt:z < 2024:=of_decide_eq_true hlt
   have hb2:=yS_b y i
   have hnx:r - ylen z=q - yS y (i+1):=by rw [hr,yS,hz];omega
   have he:z+1=y+((i+1:Nat):Int):=by omega
   have hyb:=ylen_b z
   simp only [ZZ,WW,Ze,reduceCtorEq,Nat.reduceAdd,Nat.reduceMul,Nat.reduceLeDiff,Nat.reduceLT,Nat.reduceEqDiff]
   refine ⟨i64_of (by omega) (by omega),by kernel_rfl,?_⟩
   refine use1 (leapT_ok z) rfl (.inl rfl) ?_
   simp only [ZZ,WW,Ze,reduceCtorEq,Nat.reduceAdd,Nat.reduceMul,Nat.reduceLeDiff,Nat.reduceLT,Nat.reduceEqDiff]
   refine br ?_ ?_
   ·intro hl
    have hyl:ylen z=366:=by rw [ylen,if_pos hl]
    have he2:r - 365 - 1=r - ylen z:=by omega
    simp only [ZZ,WW,Ze,reduceCtorEq,Nat.reduceAdd,Nat.reduceMul,Nat.reduceLeDiff,Nat.reduceLT,Nat.reduceEqDiff,he2]
    refine ⟨i64_of (by omega) (by omega),?_⟩
    refine cut_re _ _ ReOk.refl ?_
    simp only [ZZ,WW,Ze,reduceCtorEq,Nat.reduceAdd,Nat.reduceMul,Nat.reduceLeDiff,Nat.reduceLT,Nat.reduceEqDiff]
    ((repeat' (with_reducible apply And.intro))<;>try ((exact sc_)))
    refine end_round ((2024 - y).toNat - (i+1)) [oo,oo,oo,.adr (.l 3) 0,oo,oo,oo,oo,.adr (.l 8) 0,oo,.p (int (r - ylen z)),oo,oo,.p (int (z+1)),oo,oo,oo,oo,oo,oo,oo,oo,oo,oo,oo,oo,oo,oo,oo,oo,oo,oo,oo,oo,oo,oo,oo,oo,oo,oo,oo,oo,oo,oo,oo,oo,oo,oo,oo,oo,oo,oo,oo,oo,oo,oo,oo,oo] [(.l 3,.box [.p (int y)] 3),(.l 8,.box [.p (.clo fLp [])] tLp)] (by omega) (by (simp only [ZZ,WW,Ze,reduceCtorEq,Nat.reduceAdd,Nat.reduceMul,Nat.reduceLeDiff,Nat.reduceLT,Nat.reduceEqDiff];try trivial)) (by (simp only [ZZ,WW,Ze,reduceCtorEq,Nat.reduceAdd,Nat.reduceMul,Nat.reduceLeDiff,Nat.reduceLT,Nat.reduceEqDiff];try trivial)) ⟨i+1,r - ylen z,z+1,rfl,by omega,hnx,he,rfl,rfl⟩
   ·intro hl
    have hyl:ylen z=365:=by rw [ylen,if_neg (by rw [hl];simp)]
    have he2:r - 365=r - ylen z:=by omega
    simp only [ZZ,WW,Ze,reduceCtorEq,Nat.reduceAdd,Nat.reduceMul,Nat.reduceLeDiff,Nat.reduceLT,Nat.reduceEqDiff,he2]
    refine cut_re _ _ ReOk.refl ?_
    simp only [ZZ,WW,Ze,reduceCtorEq,Nat.reduceAdd,Nat.reduceMul,Nat.reduceLeDiff,Nat.reduceLT,Nat.reduceEqDiff]
    ((repeat' (with_reducible apply And.intro))<;>try ((exact sc_)))
    refine end_round ((2024 - y).toNat - (i+1)) [oo,oo,oo,.adr (.l 3) 0,oo,oo,oo,oo,.adr (.l 8) 0,oo,.p (int (r - ylen z)),oo,oo,.p (int (z+1)),oo,oo,oo,oo,oo,oo,oo,oo,oo,oo,oo,oo,oo,oo,oo,oo,oo,oo,oo,oo,oo,oo,oo,oo,oo,oo,oo,oo,oo,oo,oo,oo,oo,oo,oo,oo,oo,oo,oo,oo,oo,oo,oo,oo] [(.l 3,.box [.p (int y)] 3),(.l 8,.box [.p (.clo fLp [])] tLp)] (by omega) (by (simp only [ZZ,WW,Ze,reduceCtorEq,Nat.reduceAdd,Nat.reduceMul,Nat.reduceLeDiff,Nat.reduceLT,Nat.reduceEqDiff];try trivial)) (by (simp only [ZZ,WW,Ze,reduceCtorEq,Nat.reduceAdd,Nat.reduceMul,Nat.reduceLeDiff,Nat.reduceLT,Nat.reduceEqDiff];try trivial)) ⟨i+1,r - ylen z,z+1,rfl,by omega,hnx,he,rfl,rfl⟩
  intro hge2
  have hiy:i=(2024 - y).toNat:=by have:=of_decide_eq_false hge2;omega
  have hfin:r=daysN y (k:Nat) d:=by rw [hr,hq,hn,hiy,hjy,daysN,hM]
  rw [hfin]
  simp only [ZZ,WW,Ze,reduceCtorEq,Nat.reduceAdd,Nat.reduceMul,Nat.reduceLeDiff,Nat.reduceLT,Nat.reduceEqDiff]
end
def ir_base_Digit:IC:=(.seq (.reg [qO 2 (.mov (.c (.bool false)))]) (.seq (.reg [qM 3 0,qO 4 (.bin .geq (.t 3) (.c (.int .u8 48))),qM 5 4,⟨some 6,.mov (.t 0),(some (5,true))⟩,⟨some 7,.bin .leq (.t 6) (.c (.int .u8 57)),(some (5,true))⟩,qO 8 (.pick (.t 5) (.t 7) (.c (.bool false))),qM 2 8]) .ret))
def rs_base_Digit:List IRes:=[.t 2]
theorem ck_base_Digit:chkF Tryz.prog Tryz.f139 ir_base_Digit rs_base_Digit 9=true:=by kernel_rfl
abbrev tStr:Nat:=9
def digB (c:UInt8):Bool:=decide (48≤(c.toNat:Int)) && decide ((c.toNat:Int)≤57)
section
variable {E:Envt}
theorem Digit_ok (c:UInt8):PCall Tryz.prog E 139 [.int .u8 (c.toNat:Nat)] (·=.bool (digB c)):=by
 refine pcallF mixed Tryz.func139 ck_base_Digit ?_
 simp only [a0,l0,OS.ao,List.map_cons,List.map_nil,List.length_cons,List.length_nil,List.cons_append,List.nil_append,Nat.reduceSub,Nat.reduceAdd,List.replicate_succ,List.replicate_zero,ir_base_Digit,rs_base_Digit,ZZ,WW,Ze,reduceCtorEq,Nat.reduceAdd,Nat.reduceMul,Nat.reduceLeDiff,Nat.reduceLT,Nat.reduceEqDiff]
 ((repeat' (with_reducible apply And.intro))<;>try ((exact sc_)))
def strE (l:List (List UInt8)):List (List PV):=l.map fun x=>[PV.str x]
theorem strE_len (l:List (List UInt8)):(strE l).length=l.length:=by simp [strE]
theorem strE_app (l m:List (List UInt8)):strE (l++m)=strE l++strE m:=by simp [strE]
theorem strs_eq (l:List (List UInt8)):strs l=.sl 1 (strE l):=rfl
theorem strE_get {l:List (List UInt8)} {k:Nat} {x:List UInt8} (h:l[k]?=some x):(strE l).getD k []=[.str x]:=getD_map h
end
section
variable {E:Envt}
end
end Go.Proofs.YtehfjlpenlffmaaGreatDoor
namespace Go.Proofs.YtehfjlpenlffmaaGreatDoor
open Go.Lib Go.RowKit Go.Shelf
theorem get_bang {s:ByteArray} {j:Nat} (h:j < s.size):s.get! j=s[j]'h:=by
 simp [ByteArray.get!,getElem!_pos,h]
 rfl
theorem decode_high (s:ByteArray) (pos:Nat) (h:pos < s.size) (ha:128≤(s[pos]'h).toNat) :
  128≤(Utf8.decode s pos).1∧(Utf8.decode s pos).1≤1114111∧1≤(Utf8.decode s pos).2∧pos+(Utf8.decode s pos).2≤s.size∧∀ j (hj:j < s.size),pos≤j→j < pos+(Utf8.decode s pos).2→128≤(s[j]'hj).toNat:=by
 have g0:s.get! (pos+0)=s[pos]'h:=get_bang h
 have hb:(s[pos]'h).toNat < 256:=(s[pos]'h).toNat_lt
 have hc:∀ k,(decide (pos+k < s.size) && ((s.get! (pos+k)).toNat / 64 == 2))=true→∃ hk:pos+k < s.size,128≤(s[pos+k]'hk).toNat:=by
  intro k hk
  simp only [Bool.and_eq_true,decide_eq_true_eq,beq_iff_eq] at hk
  refine ⟨hk.1,?_⟩
  have:=hk.2
  rw [get_bang hk.1] at this
  omega
 have one:∀ j (hj:j < s.size),pos≤j→j < pos+1→128≤(s[j]'hj).toNat:=by
  intro j hj h1 h2
  obtain rfl:j=pos:=by omega
  exact ha
 have hw:∀ n,n≤4→(∀ k,1≤k→k < n→(decide (pos+k < s.size) && ((s.get! (pos+k)).toNat / 64 == 2))=true)→1≤n→pos+n≤s.size∧∀ j (hj:j < s.size),pos≤j→j < pos+n→128≤(s[j]'hj).toNat:=by
  intro n hn hk h1
  constructor
  ·by_cases e:n=1
   ·omega
   ·obtain ⟨hx,_⟩:=hc (n - 1) (hk (n - 1) (by omega) (by omega))
    omega
  ·intro j hj j1 j2
   by_cases e:j=pos
   ·subst e;exact ha
   ·obtain ⟨k,rfl⟩:∃ k,j=pos+k:=⟨j - pos,by omega⟩
    obtain ⟨_,hx⟩:=hc k (hk k (by omega) (by omega))
    exact hx
 unfold Utf8.decode
 simp only [g0]
 rw [if_neg (by omega)]
 split
 ·rename_i h1
  simp only [Bool.and_eq_true] at h1
  split
  ·rename_i h2
   refine ⟨by omega,by omega,(by show 1≤2;decide),?_⟩
   exact hw 2 (by decide) (fun k k1 k2=>by obtain rfl:k=1:=by omega
                                           simpa using h1.2) (by decide)
  ·exact ⟨by decide,by decide,by decide,by omega,one⟩
 ·split
  ·rename_i h1
   simp only [Bool.and_eq_true] at h1
   split
   ·rename_i h2
    simp only [Bool.and_eq_true,decide_eq_true_eq] at h2
    refine ⟨by omega,?_,(by show 1≤3;decide),?_⟩
    ·have:=h2.2
     rw [Utf8.valid] at this
     simp only [Bool.or_eq_true,Bool.and_eq_true,decide_eq_true_eq] at this
     omega
    ·exact hw 3 (by decide) (fun k k1 k2=>by
      rcases (show k=1∨k=2 by omega) with rfl|rfl
      ·simpa using h1.1.2
      ·simpa using h1.2) (by decide)
   ·exact ⟨by decide,by decide,by decide,by omega,one⟩
  ·split
   ·rename_i h1
    simp only [Bool.and_eq_true] at h1
    split
    ·rename_i h2
     simp only [Bool.and_eq_true,decide_eq_true_eq] at h2
     refine ⟨by omega,?_,(by show 1≤4;decide),?_⟩
     ·have:=h2.2
      rw [Utf8.valid] at this
      simp only [Bool.or_eq_true,Bool.and_eq_true,decide_eq_true_eq] at this
      omega
     ·exact hw 4 (by decide) (fun k k1 k2=>by
       rcases (show k=1∨k=2∨k=3 by omega) with rfl|rfl|rfl
       ·simpa using h1.1.1.2
       ·simpa using h1.1.2
       ·simpa using h1.2) (by decide)
    ·exact ⟨by decide,by decide,by decide,by omega,one⟩
   ·exact ⟨by decide,by decide,by decide,by omega,one⟩
theorem run_next_any {P:Program} (w:World) (g:Nat) (s:ByteArray) (pos:Nat) (ty:TypeId) (hg:w.heap[g]?=some (.stringIter s pos)) (h:pos < s.size) :
  (Instr.next (.pointer (some ⟨g,0,none⟩)) true ty).run P w=.ok (.tuple #[.bool true,.int .i64 pos,.int .i32 (Utf8.decode s pos).1]) { w with heap:=w.heap.setIfInBounds g (.stringIter s (pos+(Utf8.decode s pos).2)) }:=by
 simp only [Instr.next,getObj,setObj,Sem.run_bind,Sem.run,hg,Result.andThen,h,if_true]
 rfl
theorem run_next_over {P:Program} (w:World) (g:Nat) (s:ByteArray) (pos:Nat) (ty:TypeId) (hg:w.heap[g]?=some (.stringIter s pos)) (h:¬ pos < s.size) :
  (Instr.next (.pointer (some ⟨g,0,none⟩)) true ty).run P w=.ok (.tuple #[.bool false]) w:=by
 simp only [Instr.next,getObj,Sem.run_bind,Sem.run,hg,Result.andThen,h,if_false]
 rfl
theorem indexByte_absent {l:List UInt8} {c:UInt8} (h:∀ b∈l,b≠c):Lib.indexByte l c=-1:=by
 have h1:=Lib.contains_iff_indexByte l c
 have h2:l.contains c=false:=by
  rw [Bool.eq_false_iff]
  intro h3
  exact h c (by simpa using h3) rfl
 rw [h2] at h1
 have h3:¬ (0:Int)≤Lib.indexByte l c:=of_decide_eq_false h1.symm
 have h4:-1≤Lib.indexByte l c:=by rw [← Lib.indexAny_one];exact Lib.indexAny_ge _ _
 omega
def Asc (s:ByteArray):Prop:=∀ (j:Nat) (b:UInt8),s.data.toList[j]?=some b→b.toNat < 128
theorem Asc.at' {s:ByteArray} (h:Asc s) {j:Nat} (hj:j < s.size):(s[j]'hj).toNat < 128:=h j _ (Lib.data_getElem? s j hj)
theorem Asc.rest {s:ByteArray} (h:Asc s) (i:Nat) {c:UInt8} (hc:128≤c.toNat):Lib.indexByte (s.extract i s.size).data.toList c=-1:=by
 refine indexByte_absent fun b hb e=>?_
 have hb:=mem_extract hb
 obtain ⟨j,hj⟩:=List.getElem?_of_mem hb
 have:=h j b hj
 rw [e] at this
 omega
theorem iter_step {w wx:World} {s:ByteArray} {i:Nat} (hit:wx.heap[w.heap.size]?=some (.stringIter s i)) (hbl:Below w.heap.size w wx) (j:Nat) :
  ({ wx with heap:=wx.heap.setIfInBounds w.heap.size (.stringIter s j) }:World).heap[w.heap.size]?=some (.stringIter s j)∧Below w.heap.size w { wx with heap:=wx.heap.setIfInBounds w.heap.size (.stringIter s j) }:=by
 have hlt:w.heap.size < wx.heap.size:=(Array.getElem?_eq_some_iff.1 hit).1
 refine ⟨by simp [hlt],hbl.os,hbl.tape,hbl.output,by simpa using hbl.size,fun b hb=>?_⟩
 rw [← hbl.block b hb]
 exact Array.getElem?_setIfInBounds_ne (by omega)
theorem noAny_high {s chars:ByteArray} (ha:Asc chars) {i n:Nat} (h:Lib.NoAny s.data.toList chars.data.toList i) (hn:∀ j (hj:j < s.size),i≤j→j < i+n→128≤(s[j]'hj).toNat):Lib.NoAny s.data.toList chars.data.toList (i+n):=by
 intro j b hj hb
 by_cases hji:j < i
 ·exact h j b hji hb
 ·have hjs:j < s.size:=by
   have:=(List.getElem?_eq_some_iff.1 hb).1
   rwa [← Lib.size_eq] at this
  have h1:=hn j hjs (by omega) hj
  have h2:s[j]'hjs=b:=by
   have:=Lib.data_getElem? s j hjs
   rw [this] at hb;exact Option.some.inj hb
  rw [h2] at h1
  rw [Bool.eq_false_iff]
  intro h3
  have h3:b∈chars.data.toList:=by simpa using h3
  obtain ⟨k,hk⟩:=List.getElem?_of_mem h3
  have:=ha k b hk
  omega
theorem below_drewN {B:Nat} {a w:World} {n:Nat} (h:Below B a w):Below B a (w.drewN n):=⟨h.os,h.tape,h.output,h.size,h.block⟩
section
variable {P:Program} {ρ:Ren}
set_option maxHeartbeats 4000000 in
set_option maxRecDepth 1000000 in
theorem IndexRune_err (L:Lays.n152 P ρ) (s:ByteArray) (w:World) (hs:Asc s) :
  Calls P (ρ.f 152) #[.string s,.int .i32 65533] w fun e w'=>e=.returned (.int .i64 (-1))∧Below w.heap.size w w':=by
 have HA:Aside (Asc s):=hs
 clear hs
 have t3:=L.t3;have a3:=L.a3;have z3:=L.z3;have v3:=L.v3
 have t4:=L.t4;have a4:=L.a4;have z4:=L.z4;have v4:=L.v4
 have t5:=L.t5;have a5:=L.a5;have z5:=L.z5;have v5:=L.v5
 have t9:=L.t9;have a9:=L.a9;have z9:=L.z9;have v9:=L.v9
 have t21:=L.t21;have a21:=L.a21;have z21:=L.z21;have v21:=L.v21
 go_enter L.f152,Body.n152_ntmps ρ
 go_wp2
 go_loopg [5,6] s.size (fun g _ _ wx=>∃ i:Nat,i+g=s.size∧wx=w.iter s i)
 case atStart=>exact ⟨0,by omega,rfl⟩
 case round=>
  obtain ⟨i,hig,rfl⟩:=hrel
  cases gk with
  |zero=>
   obtain rfl:i=s.size:=by omega
   have hnx:=run_next_end (P:=P) w s s.size
   go_wp2
   go_ret
   exact ⟨rfl,(Below.refl _ _).alloc (Nat.le_refl _) _⟩
  |succ g=>
   have hi:i < s.size:=by omega
   have hx128:=HA.out.at' hi
   have hnx:=fun ty=>run_next_ascii (P:=P) w s i ty hi hx128
   have hne:(((s[i]'hi).toNat:Int) == 65533)=false:=beq_eq_false_iff_ne.2 (by omega)
   go_wp2
   go_roundg g
   case measure=>omega
   case rel=>exact ⟨i+1,by omega,rfl⟩
set_option maxHeartbeats 8000000 in
set_option maxRecDepth 1000000 in
theorem IndexRune_val (L:Lays.n152 P ρ) (s:ByteArray) (r:Int) (w:World) (hs:Asc s) (hz:s.size < 4611686018427387904) (h1:128≤r) (h2:r≤1114111) (h3:r≠65533) :
  Calls P (ρ.f 152) #[.string s,.int .i32 r] w fun e w'=>e=.returned (.int .i64 (-1))∧Below w.heap.size w w':=by
 have HA:Aside (Asc s):=hs
 clear hs
 have hne:(r == 65533)=false:=beq_eq_false_iff_ne.2 h3
 have hlt:decide (r < 128)=false:=decide_eq_false (by omega)
 have hle:decide (0≤r)=true:=decide_eq_true (by omega)
 have t3:=L.t3;have a3:=L.a3;have z3:=L.z3;have v3:=L.v3
 have t4:=L.t4;have a4:=L.a4;have z4:=L.z4;have v4:=L.v4
 have t5:=L.t5;have a5:=L.a5;have z5:=L.z5;have v5:=L.v5
 have t9:=L.t9;have a9:=L.a9;have z9:=L.z9;have v9:=L.v9
 have t21:=L.t21;have a21:=L.a21;have z21:=L.z21;have v21:=L.v21
 have mixed:=L.mixed
 have e119:∀ args w,(callFunc (ρ.f 119) args).run P w=.ok (.enter (ρ.f 119) args) w:=enters_of L.f119 (by kernel_rfl) rfl
 have e137:∀ args w,(callFunc (ρ.f 137) args).run P w=.ok (.enter (ρ.f 137) args) w:=enters_of L.f137 (by kernel_rfl) rfl
 by_cases hv:Lib.validRune r=true
 ·have hv2:Utf8.valid r=true:=by
   unfold Utf8.valid
   have h:=hv
   unfold Lib.validRune at h
   simp at h ⊢
   omega
  obtain ⟨m1,m2,m3⟩:=encode_facts r hv2 h1
  generalize hE:Utf8.encode r=rs at *
  obtain ⟨m,hm⟩:∃ m,rs.size=m+1:=⟨rs.size - 1,by omega⟩
  have hmr:m < rs.size:=by omega
  have m3':128≤(rs[m]'hmr).toNat:=by
   have h:=m3 (by omega)
   have e:rs.size - 1=m:=by omega
   simpa only [e] using h
  clear m3
  have w1:IntKind.i64.wrap ((rs.size:Int) - 1)=(m:Int):=by rw [wrap_small _ (by omega) (by omega)];omega
  have hx:=HA.out.rest (m+1) m3'
  have w4:m < s.size→IntKind.i64.wrap ((m:Int)+1)=(m:Int)+1:=fun _=>wrap_small _ (by omega) (by omega)
  clear hm m1 m2
  go_enter L.f152,Body.n152_ntmps ρ
  go_wp2_with (go_at_fn (ρ.f 119);refine (Any.utf8_ValidRune { L with } _ _).mono ?_;rintro e w' ⟨rfl,hw⟩;rw [hw])
  go_step3
  go_wp2
  go_loopg [9] 1 (fun g s9 wx=>g=1∧s9=.int .i64 (m:Int)∧wx=w)
  case atStart=>exact ⟨rfl,rfl,rfl⟩
  case round=>
   obtain ⟨rfl,rfl,rfl⟩:=hrel
   by_cases hin:m < s.size
   ·have w3:decide ((m:Int) < (s.size:Int))=true:=decide_eq_true (by omega)
    have hb:(((s[m]'hin).toNat:Int) == ((rs[m]'hmr).toNat:Int))=false:=beq_eq_false_iff_ne.2 (by have:=HA.out.at' hin;omega)
    have w4:=w4 hin
    have i3:(m:Int)+1≤(s.size:Int):=by omega
    have i4:¬ (s.size:Int) < (m:Int)+1:=by omega
    have i5:(0:Int)≤(m:Int)+1:=by omega
    have i6:((m:Int)+1).toNat=m+1:=by omega
    have i7:¬ (s.size:Int) < (m:Int):=by omega
    go_wp2_with fail
    go_step3
    go_wp2_with fail
    go_quiet_o (fail)
    go_wp2_with fail
    have hc:∀ W,Calls P (ρ.f 137) #[.string (s.extract (m+1) s.size),.int .u8 ((rs[m]'hmr).toNat:Int)] W fun e w'=>e=.returned (.int .i64 (-1))∧w'=W:=fun W=>by
     have h:=Any.strings_IndexByte (P:=P) (ρ:=ρ) { L with } (s.extract (m+1) s.size) ((rs[m]'hmr).toNat:Int) W
     rwa [show (((rs[m]'hmr).toNat:Int)).toNat.toUInt8=rs[m]'hmr from by simp,hx] at h
    go_quiet_o (exact (hc _).mono fun _ _ h=>⟨h.1,_,h.2⟩)
    go_wp2_with fail
    simp only [Exit.noGoto,Exit.inBlock,Exit.then]
    go_ret
    exact ⟨rfl,below_drewN (Below.refl _ _)⟩
   ·have w3:decide ((m:Int) < (s.size:Int))=false:=decide_eq_false (by omega)
    go_wp2
    rw [Exit.noGoto_ret]
    go_ret
    exact ⟨rfl,Below.refl _ _⟩
 ·have hv':Lib.validRune r=false:=Bool.eq_false_iff.2 hv
  go_enter L.f152,Body.n152_ntmps ρ
  go_wp2_with (go_at_fn (ρ.f 119);refine (Any.utf8_ValidRune { L with } _ _).mono ?_;rintro e w' ⟨rfl,rfl⟩)
  go_ret
  exact ⟨rfl,Below.refl _ _⟩
theorem IndexRune_high (L:Lays.n152 P ρ) (s:ByteArray) (r:Int) (w:World) (hs:Asc s) (hz:s.size < 4611686018427387904) (h1:128≤r) (h2:r≤1114111) :
  Calls P (ρ.f 152) #[.string s,.int .i32 r] w fun e w'=>e=.returned (.int .i64 (-1))∧Below w.heap.size w w':=by
 by_cases h3:r=65533
 ·subst h3;exact IndexRune_err L s w hs
 ·exact IndexRune_val L s r w hs hz h1 h2 h3
set_option maxHeartbeats 8000000 in
set_option maxRecDepth 1000000 in
theorem IndexAny_short (L:Lays.n153 P ρ) (s chars:ByteArray) (w:World) (h2:2≤chars.size) (h8:s.size≤8) (hz:chars.size < 4611686018427387904) (hascii:Asc chars) :
  Calls P (ρ.f 153) #[.string s,.string chars] w fun e w'=>e=.returned (.int .i64 (Lib.indexAny s.data.toList chars.data.toList))∧Below w.heap.size w w':=by
 have HA:Aside (Asc chars):=hascii
 clear hascii
 have hemp:chars.toList.isEmpty=false:=by
  rw [Lib.toList_data]
  cases h:chars.data.toList with
  |nil=>have:=Lib.size_eq chars;rw [h,List.length_nil] at this;omega
  |cons _ _=>rfl
 have hn1:((chars.size:Int) == 1)=false:=beq_eq_false_iff_ne.2 (by omega)
 have h8z:decide ((8:Int) < (s.size:Int))=false:=decide_eq_false (by omega)
 have t3:=L.t3;have a3:=L.a3;have z3:=L.z3;have v3:=L.v3
 have t4:=L.t4;have a4:=L.a4;have z4:=L.z4;have v4:=L.v4
 have t5:=L.t5;have a5:=L.a5;have z5:=L.z5;have v5:=L.v5
 have t9:=L.t9;have a9:=L.a9;have z9:=L.z9;have v9:=L.v9
 have t21:=L.t21;have a21:=L.a21;have z21:=L.z21;have v21:=L.v21
 have e152:∀ args w,(callFunc (ρ.f 152) args).run P w=.ok (.enter (ρ.f 152) args) w:=enters_of L.f152 (by kernel_rfl) rfl
 have e226:∀ args w,(callFunc (ρ.f 226) args).run P w=.ok (.enter (ρ.f 226) args) w:=enters_of L.f226 (by kernel_rfl) rfl
 go_enter L.f153,Body.n153_ntmps ρ
 go_wp2_with (go_at_fn (ρ.f 226);refine (Any.strings_shouldUseASCIISet { L with } _ _).mono ?_;rintro e w' ⟨rfl,hw⟩;rw [hw,h8z])
 go_loopg [9,10] s.size (fun g _ _ wx=>∃ i:Nat,i≤s.size∧s.size - i≤g∧wx.heap[w.heap.size]?=some (.stringIter s i)∧Below w.heap.size w wx∧Lib.NoAny s.data.toList chars.data.toList i)
 case atStart=>exact ⟨0,by omega,by omega,by rw [World.iter_heap],(Below.refl _ _).alloc (Nat.le_refl _) _,Lib.NoAny.zero _ _⟩
 case round=>
  obtain ⟨i,his,hig,hit,hbl,hno⟩:=hrel
  have HN:Aside (Lib.NoAny s.data.toList chars.data.toList i):=hno
  clear hno
  by_cases hi:i < s.size
  ·obtain ⟨g,rfl⟩:∃ g,gk=g+1:=⟨gk - 1,by omega⟩
   by_cases hx128:(s[i]'hi).toNat < 128
   ·obtain ⟨x,hx⟩:∃ x:UInt8,s[i]'hi=x:=⟨_,rfl⟩
    have hnx:=fun ty=>run_next_any (P:=P) wr w.heap.size s i ty hit hi
    obtain ⟨k1,k2⟩:=iter_step hit hbl (i+1)
    rw [decode_ascii s i hi hx128] at hnx
    simp only [hx] at hnx hx128
    have hxl:s.data.toList[i]?=some x:=by rw [← hx];exact Lib.data_getElem? s i hi
    generalize hW:({ wr with heap:=wr.heap.setIfInBounds w.heap.size (.stringIter s (i+1)) }:World)=W1 at *
    have Hx:Aside (s.data.toList[i]?=some x):=hxl
    clear hxl hx hW
    have hcon:=Lib.contains_iff_indexByte chars.data.toList x
    have hback:((x.toNat:Int)).toNat.toUInt8=x:=by simp
    cases hin:chars.data.toList.contains x
    ·rw [hin] at hcon
     have hlt:¬ ((0:Int)≤Lib.indexByte chars.data.toList x):=of_decide_eq_false hcon.symm
     clear hcon
     go_wp2_with (go_at_fn (ρ.f 152);refine (Any.strings_IndexRune_ascii { L with } _ _ _ (by omega) (by omega)).mono ?_;rintro e w' ⟨rfl,hw⟩;rw [hw,hback])
     go_roundg g
     case measure=>omega
     case rel=>exact ⟨i+1,by omega,by omega,k1,k2,HN.out.succ Hx.out hin⟩
    ·rw [hin] at hcon
     have hge:(0:Int)≤Lib.indexByte chars.data.toList x:=of_decide_eq_true hcon.symm
     clear hcon
     go_wp2_with (go_at_fn (ρ.f 152);refine (Any.strings_IndexRune_ascii { L with } _ _ _ (by omega) (by omega)).mono ?_;rintro e w' ⟨rfl,hw⟩;rw [hw,hback])
     go_ret
     exact ⟨by rw [Lib.indexAny_hit HN.out Hx.out hin];rfl,k2⟩
   ·obtain ⟨d1,d2,d3,d4,d5⟩:=decode_high s i hi (by omega)
    have hnx:=fun ty=>run_next_any (P:=P) wr w.heap.size s i ty hit hi
    obtain ⟨k1,k2⟩:=iter_step hit hbl (i+(Utf8.decode s i).2)
    generalize hW:({ wr with heap:=wr.heap.setIfInBounds w.heap.size (.stringIter s (i+(Utf8.decode s i).2)) }:World)=W1 at *
    have H5:Aside (Lib.NoAny s.data.toList chars.data.toList (i+(Utf8.decode s i).2)):=noAny_high HA.out HN.out d5
    clear d5 hW
    generalize (Utf8.decode s i).2=wd at *
    generalize hcc:(((Utf8.decode s i).1:Nat):Int)=cc at *
    have hc1:128≤cc:=by omega
    have hc2:cc≤1114111:=by omega
    clear hcc d1 d2
    have hneg:¬ (0:Int)≤-1:=by decide
    go_wp2_with (go_at_fn (ρ.f 152);refine (IndexRune_high { L with } chars cc W1 HA.out hz hc1 hc2).mono ?_;rintro e w' ⟨rfl,hw⟩)
    go_roundg g
    case measure=>omega
    case rel=>exact ⟨i+wd,by omega,by omega,by rw [hw.block _ (Array.getElem?_eq_some_iff.1 k1).1];exact k1,k2.trans (hw.mono k2.size),H5.out⟩
  ·obtain rfl:i=s.size:=by omega
   have hnx:=fun ty=>run_next_over (P:=P) _ _ s s.size ty hit (by omega)
   go_wp2
   go_ret
   exact ⟨by rw [Lib.indexAny_none (by rw [← Lib.size_eq];exact HN.out)];rfl,hbl⟩
theorem IndexAny_all (L:Lays.n153 P ρ) (h116:(P.info? (ρ.t 116)).map (fun i=>(i.zero,i.size))=some (some (.agg (Array.replicate 256 (.bool false))),256)) (s chars:ByteArray) (w:World) (hs:s.size < 4294967281) (hcs:chars.size < 4294967281) (hac:Asc chars) :
  Calls P (ρ.f 153) #[.string s,.string chars] w fun e w'=>e=.returned (.int .i64 (Lib.indexAny s.data.toList chars.data.toList))∧Below w.heap.size w w':=by
 by_cases h0:chars.size=0
 ·exact (Any.strings_IndexAny_none L s chars w h0).mono fun e w' ⟨h1,h2⟩=>⟨h1,h2 ▸ Below.refl _ _⟩
 by_cases h1:chars.size=1
 ·exact (Any.strings_IndexAny_one L s chars w h1 hac).mono fun e w' ⟨h1,h2⟩=>⟨h1,h2 ▸ Below.refl _ _⟩
 by_cases h8:s.size≤8
 ·exact IndexAny_short L s chars w (by omega) h8 (by omega) hac
 ·refine (Any.strings_IndexAny_long L (zero_of_info h116).1 (zero_of_info h116).2 s chars w (by omega) (by omega) hs hcs hac).mono fun e w' ⟨h1,h2⟩=>⟨h1,?_⟩
  rw [h2]
  exact ((Below.refl _ _).alloc (Nat.le_refl _) _).alloc (by simp) _
end
end Go.Proofs.YtehfjlpenlffmaaGreatDoor
namespace Go.Proofs.YtehfjlpenlffmaaGreatDoor
open Go.RowKit
def splF (s:List UInt8) (c:UInt8):List (List UInt8):=(Lib.splitB ⟨#[c]⟩ 0 (Lib.countB ⟨s.toArray⟩ ⟨#[c]⟩) ⟨s.toArray⟩).map (·.data.toList)
theorem splitB_sizes (sep:ByteArray):∀ (k:Nat) (s:ByteArray),(Lib.splitB sep 0 k s).length≤k+1∧∀ x∈Lib.splitB sep 0 k s,x.size≤s.size:=by
 intro k
 induction k with
 |zero=>intro s;simp [Lib.splitB]
 |succ k ih=>
  intro s
  unfold Lib.splitB
  split
  ·simp
  ·have:=ih (s.extract ((Lib.indexB s sep).toNat+sep.size) s.size)
   refine ⟨by simp;omega,fun x hx=>?_⟩
   simp only [List.mem_cons] at hx
   rcases hx with rfl|hx
   ·simp;omega
   ·have:=this.2 x hx;simp at this;omega
theorem splF_len (s:List UInt8) (c:UInt8):(splF s c).length≤s.length+1:=by
 have h1:=(splitB_sizes ⟨#[c]⟩ (Lib.countB ⟨s.toArray⟩ ⟨#[c]⟩) ⟨s.toArray⟩).1
 have h2:=Lib.countB_le ⟨#[c]⟩ (Nat.le_refl 1) (⟨s.toArray⟩:ByteArray).size ⟨s.toArray⟩ (Nat.le_refl _)
 rw [ba_size] at h2
 simp only [splF,List.length_map]
 omega
theorem splF_mem (s:List UInt8) (c:UInt8):∀ x∈splF s c,x.length≤s.length:=by
 intro x hx
 simp only [splF,List.mem_map] at hx
 obtain ⟨y,hy,rfl⟩:=hx
 have:=(splitB_sizes ⟨#[c]⟩ (Lib.countB ⟨s.toArray⟩ ⟨#[c]⟩) ⟨s.toArray⟩).2 y hy
 rw [ba_size] at this
 rw [Array.length_toList]
 exact this
theorem repE_strs' {w:World} {U:Nat→Prop} {b:Nat}:∀ (l:List ByteArray) (off:Nat),(∀ i x,l[i]?=some x→w.cell? ⟨b,off+i,none⟩=some (.string x))→PRepE w U b 1 off ((l.map (·.data.toList)).map fun x=>[.str x])
 |[],off,h=>trivial
 |x :: r,off,h=>by
  refine ⟨rfl,⟨⟨.string x,by simpa using h 0 _ rfl,rfl,?_⟩,trivial⟩,repE_strs' r (off+1) fun i u hu=>?_⟩
  ·simp [PRep]
  ·have:=h (i+1) u (by simpa using hu)
   rwa [show off+(i+1)=off+1+i from by omega] at this
theorem splInfo:(Tryz.prog.info? 9).map (fun i=>(i.zero,i.size,i.bytes))=some (some (.string ByteArray.empty),1,16):=by kernel_rfl
theorem Split_ok (s:List UInt8) (c:UInt8) (hs:s.length≤1000000000):PCall Tryz.prog E0 242 [.str s,.str [c]] (·=strs (splF s c)):=by
 intro w U vs hU hE hEb hA
 obtain ⟨_,m,hm⟩:=hE
 simp only [PRepL,PRep] at hA
 obtain ⟨v,r,rfl,rfl,v2,r2,rfl,rfl,rfl⟩:=hA
 refine (Any.strings_Split Tryz.laySplit splInfo ⟨s.toArray⟩ ⟨#[c]⟩ m w (by rw [ba_size];omega) hm (Nat.le_refl 1)).mono ?_
 rintro e w' ⟨rfl,rfl⟩
 have hl:=Lib.splitB_all ⟨#[c]⟩ (Nat.le_refl 1) 0 _ (⟨s.toArray⟩:ByteArray) rfl
 refine ⟨_,_,rfl,rfl,?_,⟨rfl,rfl,rfl,by simp,fun k hk _=>Lib.alloc_old w _ k hk⟩⟩
 have hln:(List.map (fun x=>[PV.str x]) (splF s c)).length=Lib.countB ⟨s.toArray⟩ ⟨#[c]⟩+1:=by simp [splF,hl]
 refine ⟨some ⟨w.heap.size,0,none⟩,Lib.countB ⟨s.toArray⟩ ⟨#[c]⟩+1,by rw [hln],by rw [hln];exact Nat.le_refl _,fun _=>⟨w.heap.size,0,rfl,by simp,fun h=>by have:=hU _ h;omega,?_⟩⟩
 ·refine repE_strs' _ 0 fun i x hx=>?_
  rw [Lib.cell_of_heap (heap_alloc_new w _)]
  simp [hx]
def ir_chaseref1_made:IC:=(.seq (.reg [qO 4 (.mov (.c (.bool false)))]) (.seq (.reg [qM 5 0,qM 6 1,qO 7 (.call 155 [.t 5,.t 6]),qO 8 (.bin .eql (.t 7) (.c (.str []))),qM 4 8]) .ret))
def rs_chaseref1_made:List IRes:=[.t 4]
theorem ck_chaseref1_made:chkF Tryz.prog Tryz.f143 ir_chaseref1_made rs_chaseref1_made 9=true:=by kernel_rfl
def madeF (s of:List UInt8):Bool:=decide (Lib.trimS s of=[])
theorem dropW_nil {p:UInt8→Bool}:∀ {l:List UInt8},l.dropWhile p=[]↔l.all p=true
 |[]=>by simp
 |x :: r=>by
  simp only [List.dropWhile,List.all_cons]
  cases h:p x
  ·simp
  ·simpa using dropW_nil (l:=r)
theorem madeF_all (s of:List UInt8):madeF s of=s.all (fun c=>of.contains c):=by
 rw [Bool.eq_iff_iff,madeF,decide_eq_true_iff,Lib.trimS,Lib.trimLeftS,Lib.trimRightS,dropW_nil]
 constructor
 ·intro h
  have h2:∀ l:List UInt8,(l.dropWhile fun c=>of.contains c).all (fun c=>of.contains c)=true→l.all (fun c=>of.contains c)=true:=by
   intro l
   induction l with
   |nil=>simp
   |cons x r ih=>
    simp only [List.dropWhile]
    cases hx:of.contains x
    ·intro h;exact h
    ·intro h;simp only [List.all_cons,hx,Bool.true_and];exact ih h
  have:=h2 s.reverse (by simpa [List.all_reverse] using h)
  simpa [List.all_reverse] using this
 ·intro h
  have:(s.reverse.dropWhile fun c=>of.contains c)=[]:=dropW_nil.2 (by simpa [List.all_reverse] using h)
  rw [this]
  simp
section
variable {E:Envt}
def asc (l:List UInt8):Bool:=l.all fun b=>decide (b.toNat < 128)
theorem asc_at {l:List UInt8} (h:asc l=true):∀ (j:Nat) b,(⟨l.toArray⟩:ByteArray).data.toList[j]?=some b→b.toNat < 128:=
 fun _ b hb=>of_decide_eq_true (List.all_eq_true.1 h b (List.mem_of_getElem? (by simpa using hb)))
theorem IndexAny_ok (s cs:List UInt8) (hs:s.length≤1000000000) (hcs:cs.length≤1000000) (h2:asc cs=true):PCall Tryz.prog E 292 [.str s,.str cs] (·=int (Lib.indexAny s cs)):=
 pcall_flat rfl rfl fun w _=>(IndexAny_all Tryz.layIndexAny (by kernel_rfl) ⟨s.toArray⟩ ⟨cs.toArray⟩ w (by rw [ba_size];omega) (by rw [ba_size];omega) (asc_at h2)).mono fun e w' h=>⟨h.1,grow_below h.2⟩
theorem TrimSet_ok (s cs:List UInt8) (hs:s.length≤1000000000) (hcs:cs.length≤1000000) (h2:asc cs=true):PCall Tryz.prog E 155 [.str s,.str cs] (·=.str (Lib.trimS s cs)):=
 pcall_flat rfl rfl fun w _=>(Any.strings_Trim_laid Tryz.layTrim (by kernel_rfl) ⟨s.toArray⟩ ⟨cs.toArray⟩ w (by rw [ba_size];omega) (by rw [ba_size];omega) (asc_at h2)).mono fun e w' h=>⟨h.1,grow_below h.2⟩
theorem made_ok (s of:List UInt8) (hs:s.length≤1000000000) (ho:of.length≤1000) (ha:asc of=true):PCall Tryz.prog E 143 [.str s,.str of] (·=.bool (madeF s of)):=by
 refine pcallF mixed Tryz.func143 ck_chaseref1_made ?_
 simp only [a0,l0,OS.ao,List.map_cons,List.map_nil,List.length_cons,List.length_nil,List.cons_append,List.nil_append,Nat.reduceSub,Nat.reduceAdd,List.replicate_succ,List.replicate_zero,ir_chaseref1_made,rs_chaseref1_made,ZZ,WW,Ze,reduceCtorEq,Nat.reduceAdd,Nat.reduceMul,Nat.reduceLeDiff,Nat.reduceLT,Nat.reduceEqDiff]
 refine use1 (TrimSet_ok s of hs (by omega) ha) rfl (.inl rfl) ?_
 simp only [ZZ,WW,Ze,reduceCtorEq,Nat.reduceAdd,Nat.reduceMul,Nat.reduceLeDiff,Nat.reduceLT,Nat.reduceEqDiff]
 rfl
def cutF (s p:List UInt8):List UInt8×List UInt8×Bool:=if 0≤Lib.index s p then (s.take (Lib.index s p).toNat,s.drop ((Lib.index s p).toNat+p.length),true) else (s,[],false)
end
theorem Cut_ok (s p:List UInt8) (hs:s.length≤1000000000):PCall Tryz.prog E0 241 [.str s,.str p] (·=.tup [.str (cutF s p).1,.str (cutF s p).2.1,.bool (cutF s p).2.2]):=by
 intro w U vs hU hE hEb hA
 obtain ⟨_,m,hm⟩:=hE
 simp only [PRepL,PRep] at hA
 obtain ⟨v,r,rfl,rfl,v2,r2,rfl,rfl,rfl⟩:=hA
 refine (Any.strings_Cut Tryz.layCut ⟨s.toArray⟩ ⟨p.toArray⟩ m w (by rw [ba_size];omega) hm).mono ?_
 rintro e w' ⟨rfl,n,rfl⟩
 exact ⟨_,_,rfl,rfl,⟨[_,_,_],rfl,_,_,rfl,rfl,_,_,rfl,rfl,_,_,rfl,rfl,rfl⟩,⟨rfl,rfl,rfl,Nat.le_refl _,fun _ _ _=>rfl⟩⟩
theorem cutF_len (s p:List UInt8):(cutF s p).1.length≤s.length∧(cutF s p).2.1.length≤s.length:=by
 unfold cutF
 split
 ·exact ⟨by simp;omega,by simp⟩
 ·simp
def ir_thread_all_L0:IC:=(.seq (.reg [qO 14 (.bin .lss (.t 13) (.t 12))]) (.seq (.cond (.t 14) .skip (.exit 0)) (.seq (.block 1 (.seq (.reg [qM 15 13,qM 9 15]) (.seq (.reg [qM 16 0,qM 17 9,qO 18 (.idx (.t 16) (.t 17)),qM 10 18]) (.seq (.reg [qM 19 10,qO 20 (.bin .geq (.t 19) (.c (.int .u8 97))),qM 21 20,⟨some 22,.mov (.t 10),(some (21,true))⟩,⟨some 23,.bin .leq (.t 22) (.c (.int .u8 122)),(some (21,true))⟩,qO 24 (.pick (.t 21) (.t 23) (.c (.bool false))),qO 25 (.not (.t 24)),qM 26 25,⟨some 27,.mov (.t 10),(some (26,true))⟩,⟨some 28,.call 139 [.t 27],(some (26,true))⟩,⟨some 29,.not (.t 28),(some (26,true))⟩,qO 30 (.pick (.t 26) (.t 29) (.c (.bool false))),qM 31 30,⟨some 32,.mov (.t 1),(some (31,true))⟩,⟨some 33,.mov (.t 10),(some (31,true))⟩,⟨some 34,.call 295 [.t 32,.t 33],(some (31,true))⟩,⟨some 35,.bin .lss (.t 34) (.c (.int .i64 0)),(some (31,true))⟩,qO 36 (.pick (.t 31) (.t 35) (.c (.bool false)))]) (.cond (.t 36) (.seq (.reg [qO 8 (.mov (.c (.bool false)))]) .ret) .skip))))) (.reg [qO 37 (.bin .add (.t 13) (.c (.int .i64 1))),qM 13 37]))))
def ir_thread_all:IC:=(.seq (.reg [qO 8 (.mov (.c (.bool false)))]) (.seq (.seq (.reg [qM 11 0,qO 12 (.sln (.t 11)),qO 13 (.mov (.c (.int .i64 0)))]) (.block 0 (.loop ir_thread_all_L0))) (.seq (.reg [qM 38 0,qO 39 (.sln (.t 38)),qM 40 2,qM 41 3,qO 42 (.call 51 [.t 39,.t 40,.t 41]),qM 8 42]) .ret)))
def rs_thread_all:List IRes:=[.t 8]
theorem ck_thread_all:chkF Tryz.prog Tryz.f243 ir_thread_all rs_thread_all 43=true:=by kernel_rfl
def ir_thread_IsDomain_L0:IC:=(.seq (.reg [qO 11 (.bin .lss (.t 10) (.t 9))]) (.seq (.cond (.t 11) .skip (.exit 0)) (.seq (.block 1 (.seq (.reg [qO 12 (.ixa 1 (.t 8) (.t 10)),qO 13 (.ld 1 false (.t 12)),qM 5 13]) (.seq (.reg [qM 14 5,qO 15 (.call 243 [.t 14,.c (.str [45]),.c (.int .i64 1),.c (.int .i64 30)]),qO 16 (.not (.t 15))]) (.cond (.t 16) (.seq (.reg [qO 2 (.mov (.c (.bool false)))]) .ret) .skip)))) (.reg [qO 17 (.bin .add (.t 10) (.c (.int .i64 1))),qM 10 17]))))
def ir_thread_IsDomain:IC:=(.seq (.reg [qO 2 (.mov (.c (.bool false)))]) (.seq (.reg [qM 6 0,qO 7 (.call 242 [.t 6,.c (.str [46])]),qM 3 7]) (.seq (.seq (.reg [qM 8 3,qO 9 (.len (.t 8)),qO 10 (.mov (.c (.int .i64 0)))]) (.block 0 (.loop ir_thread_IsDomain_L0))) (.seq (.reg [qM 18 3,qO 19 (.len (.t 18)),qO 20 (.bin .gtr (.t 19) (.c (.int .i64 1))),qM 2 20]) .ret))))
def rs_thread_IsDomain:List IRes:=[.t 2]
theorem ck_thread_IsDomain:chkF Tryz.prog Tryz.f244 ir_thread_IsDomain rs_thread_IsDomain 21=true:=by kernel_rfl
def ir_thread_IsMail:IC:=(.seq (.reg [qO 2 (.mov (.c (.bool false)))]) (.seq (.reg [qM 7 0,qO 8 (.call 241 [.t 7,.c (.str [64])]),qM 6 8,qO 9 (.ext 0 (.t 6)),qO 10 (.ext 1 (.t 6)),qO 11 (.ext 2 (.t 6)),qM 3 9,qM 4 10,qM 5 11]) (.seq (.seq (.reg [qM 12 5,qO 13 (.not (.t 12)),qM 14 13,⟨some 15,.mov (.t 0),(some (14,false))⟩,⟨some 16,.sln (.t 15),(some (14,false))⟩,⟨some 17,.bin .gtr (.t 16) (.c (.int .i64 80)),(some (14,false))⟩,qO 18 (.pick (.t 14) (.c (.bool true)) (.t 17)),qM 19 18,⟨some 20,.mov (.t 3),(some (19,false))⟩,⟨some 21,.call 243 [.t 20,.c (.str [46,45,95,43]),.c (.int .i64 1),.c (.int .i64 40)],(some (19,false))⟩,⟨some 22,.not (.t 21),(some (19,false))⟩,qO 23 (.pick (.t 19) (.c (.bool true)) (.t 22))]) (.cond (.t 23) (.seq (.reg [qO 2 (.mov (.c (.bool false)))]) .ret) .skip)) (.seq (.reg [qM 24 4,qO 25 (.call 244 [.t 24]),qM 2 25]) .ret))))
def rs_thread_IsMail:List IRes:=[.t 2]
theorem ck_thread_IsMail:chkF Tryz.prog Tryz.f184 ir_thread_IsMail rs_thread_IsMail 26=true:=by kernel_rfl
def ir_chaseref1_MailOf_L0:IC:=(.seq (.reg [qO 42 (.bin .lss (.t 41) (.t 40))]) (.seq (.cond (.t 42) .skip (.exit 0)) (.seq (.block 1 (.seq (.reg [qO 43 (.ixa 1 (.t 39) (.t 41)),qO 44 (.ld 1 false (.t 43)),qM 8 44]) (.seq (.reg [qM 45 8,qO 46 (.sln (.t 45)),qO 47 (.bin .lss (.t 46) (.c (.int .i64 1))),qM 48 47,⟨some 49,.mov (.t 8),(some (48,false))⟩,⟨some 50,.sln (.t 49),(some (48,false))⟩,⟨some 51,.bin .gtr (.t 50) (.c (.int .i64 30)),(some (48,false))⟩,qO 52 (.pick (.t 48) (.c (.bool true)) (.t 51)),qM 53 52,⟨some 54,.mov (.t 8),(some (53,false))⟩,⟨some 55,.call 143 [.t 54,.c (.str [97,98,99,100,101,102,103,104,105,106,107,108,109,110,111,112,113,114,115,116,117,118,119,120,121,122,48,49,50,51,52,53,54,55,56,57,45])],(some (53,false))⟩,⟨some 56,.not (.t 55),(some (53,false))⟩,qO 57 (.pick (.t 53) (.c (.bool true)) (.t 56))]) (.cond (.t 57) (.seq (.reg [qO 2 (.mov (.c (.bool false)))]) .ret) .skip)))) (.reg [qO 58 (.bin .add (.t 41) (.c (.int .i64 1))),qM 41 58]))))
def ir_chaseref1_MailOf:IC:=(.seq (.reg [qO 2 (.mov (.c (.bool false)))]) (.seq (.reg [qM 10 0,qO 11 (.call 241 [.t 10,.c (.str [64])]),qM 9 11,qO 12 (.ext 0 (.t 9)),qO 13 (.ext 1 (.t 9)),qO 14 (.ext 2 (.t 9)),qM 3 12,qM 4 13,qM 5 14]) (.seq (.seq (.reg [qM 15 5,qO 16 (.not (.t 15)),qM 17 16,⟨some 18,.mov (.t 0),(some (17,false))⟩,⟨some 19,.sln (.t 18),(some (17,false))⟩,⟨some 20,.bin .gtr (.t 19) (.c (.int .i64 80)),(some (17,false))⟩,qO 21 (.pick (.t 17) (.c (.bool true)) (.t 20)),qM 22 21,⟨some 23,.mov (.t 3),(some (22,false))⟩,⟨some 24,.sln (.t 23),(some (22,false))⟩,⟨some 25,.bin .lss (.t 24) (.c (.int .i64 1)),(some (22,false))⟩,qO 26 (.pick (.t 22) (.c (.bool true)) (.t 25)),qM 27 26,⟨some 28,.mov (.t 3),(some (27,false))⟩,⟨some 29,.sln (.t 28),(some (27,false))⟩,⟨some 30,.bin .gtr (.t 29) (.c (.int .i64 40)),(some (27,false))⟩,qO 31 (.pick (.t 27) (.c (.bool true)) (.t 30)),qM 32 31,⟨some 33,.mov (.t 3),(some (32,false))⟩,⟨some 34,.call 143 [.t 33,.c (.str [97,98,99,100,101,102,103,104,105,106,107,108,109,110,111,112,113,114,115,116,117,118,119,120,121,122,48,49,50,51,52,53,54,55,56,57,46,45,95,43])],(some (32,false))⟩,⟨some 35,.not (.t 34),(some (32,false))⟩,qO 36 (.pick (.t 32) (.c (.bool true)) (.t 35))]) (.cond (.t 36) (.seq (.reg [qO 2 (.mov (.c (.bool false)))]) .ret) .skip)) (.seq (.reg [qM 37 4,qO 38 (.call 242 [.t 37,.c (.str [46])]),qM 6 38]) (.seq (.seq (.reg [qM 39 6,qO 40 (.len (.t 39)),qO 41 (.mov (.c (.int .i64 0)))]) (.block 0 (.loop ir_chaseref1_MailOf_L0))) (.seq (.reg [qM 59 6,qO 60 (.len (.t 59)),qO 61 (.bin .gtr (.t 60) (.c (.int .i64 1))),qM 2 61]) .ret))))))
def rs_chaseref1_MailOf:List IRes:=[.t 2]
theorem ck_chaseref1_MailOf:chkF Tryz.prog Tryz.f178 ir_chaseref1_MailOf rs_chaseref1_MailOf 62=true:=by kernel_rfl
def inB (o:List UInt8) (c:UInt8):Bool:=((decide (97≤(c.toNat:Int)) && decide ((c.toNat:Int)≤122)) || digB c) || decide (0≤Lib.indexByte o c)
def allB (s o:List UInt8):Bool:=s.all (inB o)
def domF (s:List UInt8):Bool:=(splF s 46).all (fun x=>allB x [45] && inE x.length 1 30) && decide (1 < (splF s 46).length)
def mailF (s:List UInt8):Bool:=(((cutF s [64]).2.2 && decide ((s.length:Int)≤80)) && (allB (cutF s [64]).1 [46,45,95,43] && inE (cutF s [64]).1.length 1 40)) && domF (cutF s [64]).2.1
theorem all_snoc {l:List UInt8} {p:UInt8→Bool} {k:Nat} {c:UInt8} (h:l[k]?=some c):(l.take (k+1)).all p=((l.take k).all p && p c):=all_take h
theorem all_false {α:Type} {l:List α} {p:α→Bool} {k:Nat} {c:α} (h:l[k]?=some c) (hp:p c=false):l.all p=false:=by
 rw [List.all_eq_false]
 exact ⟨c,List.mem_of_getElem? h,by simp [hp]⟩
section
variable {E:Envt}
theorem all_ok (s o:List UInt8) (lo hi:Int) (hs:s.length≤1000000000):PCall Tryz.prog E 243 [.str s,.str o,int lo,int hi] (·=.bool (allB s o && inE s.length lo hi)):=by
 refine pcallF mixed Tryz.func243 ck_thread_all ?_
 simp only [a0,l0,OS.ao,List.map_cons,List.map_nil,List.length_cons,List.length_nil,List.cons_append,List.nil_append,Nat.reduceSub,Nat.reduceAdd,List.replicate_succ,List.replicate_zero,ir_thread_all,rs_thread_all,ZZ,WW,Ze,reduceCtorEq,Nat.reduceAdd,Nat.reduceMul,Nat.reduceLeDiff,Nat.reduceLT,Nat.reduceEqDiff]
 refine loop_intro (fun n fr L=>∃ (k:Nat),k≤s.length∧n=s.length - k∧((s.take k).all (inB o)=true)∧fr=[.p (.str s),.p (.str o),.p (int lo),.p (int hi),oo,oo,oo,oo,oo,oo,oo,oo,.p (int (s.length:Nat)),.p (int (k:Nat)),oo,oo,oo,oo,oo,oo,oo,oo,oo,oo,oo,oo,oo,oo,oo,oo,oo,oo,oo,oo,oo,oo,oo,oo,oo,oo,oo,oo,oo]∧L=[]) (s.length) [.p (.str s),.p (.str o),.p (int lo),.p (int hi),oo,oo,oo,oo,oo,oo,oo,oo,.p (int (s.length:Nat)),.p (int (0:Nat)),oo,oo,oo,oo,oo,oo,oo,oo,oo,oo,oo,oo,oo,oo,oo,oo,oo,oo,oo,oo,oo,oo,oo,oo,oo,oo,oo,oo,oo] [] (by (simp only [ZZ,WW,Ze,reduceCtorEq,Nat.reduceAdd,Nat.reduceMul,Nat.reduceLeDiff,Nat.reduceLT,Nat.reduceEqDiff];try trivial)) (by (simp only [ZZ,WW,Ze,reduceCtorEq,Nat.reduceAdd,Nat.reduceMul,Nat.reduceLeDiff,Nat.reduceLT,Nat.reduceEqDiff];try trivial)) ⟨0,by omega,by omega,by simp,rfl,rfl⟩ ?_
 rintro n fr L ⟨k,hk,rfl,ha,rfl,rfl⟩
 simp only [ir_thread_all_L0,ZZ,WW,Ze,reduceCtorEq,Nat.reduceAdd,Nat.reduceMul,Nat.reduceLeDiff,Nat.reduceLT,Nat.reduceEqDiff]
 refine br ?_ ?_
 ·intro h
  have hlt:k < s.length:=by have:=of_decide_eq_true h;omega
  obtain ⟨c,hc⟩:∃ c,s[k]?=some c:=⟨_,List.getElem?_eq_getElem hlt⟩
  have hg:s.getD k 0=c:=by simp [List.getD,hc]
  simp only [ZZ,WW,Ze,reduceCtorEq,Nat.reduceAdd,Nat.reduceMul,Nat.reduceLeDiff,Nat.reduceLT,Nat.reduceEqDiff,hg]
  ((repeat' (with_reducible apply And.intro))<;>try ((exact sc_)))
  refine useG (fun _=>Digit_ok c) rfl (.inl rfl) ?_
  simp only [ZZ,WW,Ze,reduceCtorEq,Nat.reduceAdd,Nat.reduceMul,Nat.reduceLeDiff,Nat.reduceLT,Nat.reduceEqDiff]
  ((repeat' (with_reducible apply And.intro))<;>try ((exact sc_)))
  refine useG (fun _=>IndexByte_ok o c) rfl (.inl rfl) ?_
  simp only [ZZ,WW,Ze,reduceCtorEq,Nat.reduceAdd,Nat.reduceMul,Nat.reduceLeDiff,Nat.reduceLT,Nat.reduceEqDiff]
  ((repeat' (with_reducible apply And.intro))<;>try ((exact sc_)))
  have hB:(((!(decide (97≤(c.toNat:Int)) && decide ((c.toNat:Int)≤122)) && !digB c)) && decide (Lib.indexByte o c < 0))=!inB o c:=by
   unfold inB
   have:decide (Lib.indexByte o c < 0)=!decide (0≤Lib.indexByte o c):=by
    by_cases h:0≤Lib.indexByte o c<;>simp [h]<;>omega
   rw [this]
   cases (decide (97≤(c.toNat:Int)) && decide ((c.toNat:Int)≤122))<;>cases digB c<;>simp
  refine br ?_ ?_
  ·intro hx
   have hf:inB o c=false:=by rw [hB] at hx;simpa using hx
   simp only [ZZ,WW,Ze,reduceCtorEq,Nat.reduceAdd,Nat.reduceMul,Nat.reduceLeDiff,Nat.reduceLT,Nat.reduceEqDiff]
   rw [allB,all_false hc hf]
   rfl
  ·intro hx
   have hf:inB o c=true:=by rw [hB] at hx;simpa using hx
   simp only [ZZ,WW,Ze,reduceCtorEq,Nat.reduceAdd,Nat.reduceMul,Nat.reduceLeDiff,Nat.reduceLT,Nat.reduceEqDiff]
   refine ⟨i64_of (by omega) (by omega),?_⟩
   refine end_round (s.length - (k+1)) [.p (.str s),.p (.str o),.p (int lo),.p (int hi),oo,oo,oo,oo,oo,oo,oo,oo,.p (int (s.length:Nat)),.p (int ((k+1):Nat)),oo,oo,oo,oo,oo,oo,oo,oo,oo,oo,oo,oo,oo,oo,oo,oo,oo,oo,oo,oo,oo,oo,oo,oo,oo,oo,oo,oo,oo] [] (by omega) (by (simp only [ZZ,WW,Ze,reduceCtorEq,Nat.reduceAdd,Nat.reduceMul,Nat.reduceLeDiff,Nat.reduceLT,Nat.reduceEqDiff];try trivial)) (by (simp only [ZZ,WW,Ze,reduceCtorEq,Nat.reduceAdd,Nat.reduceMul,Nat.reduceLeDiff,Nat.reduceLT,Nat.reduceEqDiff];try trivial)) ⟨k+1,by omega,rfl,by rw [all_snoc hc,ha,hf];rfl,rfl,rfl⟩
 ·intro h
  have hge:k=s.length:=by have:=of_decide_eq_false h;omega
  subst hge
  rw [List.take_length] at ha
  simp only [ZZ,WW,Ze,reduceCtorEq,Nat.reduceAdd,Nat.reduceMul,Nat.reduceLeDiff,Nat.reduceLT,Nat.reduceEqDiff]
  refine use1 (In_ok _ _ _) rfl (.inl rfl) ?_
  simp only [ZZ,WW,Ze,reduceCtorEq,Nat.reduceAdd,Nat.reduceMul,Nat.reduceLeDiff,Nat.reduceLT,Nat.reduceEqDiff]
  rw [allB,ha]
  rfl
end
theorem IsDomain_ok (s:List UInt8) (hs:s.length≤1000000000):PCall Tryz.prog E0 244 [.str s] (·=.bool (domF s)):=by
 refine pcallF mixed Tryz.func244 ck_thread_IsDomain ?_
 simp only [a0,l0,OS.ao,List.map_cons,List.map_nil,List.length_cons,List.length_nil,List.cons_append,List.nil_append,Nat.reduceSub,Nat.reduceAdd,List.replicate_succ,List.replicate_zero,ir_thread_IsDomain,rs_thread_IsDomain,ZZ,WW,Ze,reduceCtorEq,Nat.reduceAdd,Nat.reduceMul,Nat.reduceLeDiff,Nat.reduceLT,Nat.reduceEqDiff]
 refine use1 (Split_ok s 46 hs) rfl (.inl rfl) ?_
 rw [strs_eq]
 have hD:domF s=((splF s 46).all (fun x=>allB x [45] && inE x.length 1 30) && decide (1 < (splF s 46).length)):=rfl
 rw [hD]
 have hmem:=splF_mem s 46
 have hlen:=splF_len s 46
 generalize splF s 46=ls at *
 simp only [ZZ,WW,Ze,reduceCtorEq,Nat.reduceAdd,Nat.reduceMul,Nat.reduceLeDiff,Nat.reduceLT,Nat.reduceEqDiff,strE_len]
 refine loop_intro (fun n fr L=>∃ (k:Nat),k≤ls.length∧n=ls.length - k∧((ls.take k).all (fun x=>allB x [45] && inE x.length 1 30)=true)∧fr=[oo,oo,oo,.p (.sl 1 (strE ls)),oo,oo,oo,oo,.p (.sl 1 (strE ls)),.p (int (ls.length:Nat)),.p (int (k:Nat)),oo,oo,oo,oo,oo,oo,oo,oo,oo,oo]∧L=[]) (ls.length) [oo,oo,oo,.p (.sl 1 (strE ls)),oo,oo,oo,oo,.p (.sl 1 (strE ls)),.p (int (ls.length:Nat)),.p (int (0:Nat)),oo,oo,oo,oo,oo,oo,oo,oo,oo,oo] [] (by simp only [ZZ,WW,Ze,reduceCtorEq,Nat.reduceAdd,Nat.reduceMul,Nat.reduceLeDiff,Nat.reduceLT,Nat.reduceEqDiff,strE_len];try trivial) (by (simp only [ZZ,WW,Ze,reduceCtorEq,Nat.reduceAdd,Nat.reduceMul,Nat.reduceLeDiff,Nat.reduceLT,Nat.reduceEqDiff];try trivial)) ⟨0,by omega,by omega,by simp,rfl,rfl⟩ ?_
 rintro n fr L ⟨k,hk,rfl,ha,rfl,rfl⟩
 simp only [ir_thread_IsDomain_L0,ZZ,WW,Ze,reduceCtorEq,Nat.reduceAdd,Nat.reduceMul,Nat.reduceLeDiff,Nat.reduceLT,Nat.reduceEqDiff]
 refine br ?_ ?_
 ·intro h
  have hlt:k < ls.length:=by have:=of_decide_eq_true h;omega
  obtain ⟨x,hx⟩:∃ x,ls[k]?=some x:=⟨_,List.getElem?_eq_getElem hlt⟩
  have hg:=strE_get hx
  have hxl:=hmem x (List.mem_of_getElem? hx)
  simp only [ZZ,WW,Ze,reduceCtorEq,Nat.reduceAdd,Nat.reduceMul,Nat.reduceLeDiff,Nat.reduceLT,Nat.reduceEqDiff,hg,strE_len]
  ((repeat' (with_reducible apply And.intro))<;>try ((exact sc_)))
  refine use1 (all_ok x [45] 1 30 (by omega)) rfl (.inl rfl) ?_
  simp only [ZZ,WW,Ze,reduceCtorEq,Nat.reduceAdd,Nat.reduceMul,Nat.reduceLeDiff,Nat.reduceLT,Nat.reduceEqDiff]
  refine br ?_ ?_
  ·intro hf
   have hf:(allB x [45] && inE x.length 1 30)=false:=by rwa [Bool.not_eq_true'] at hf
   simp only [ZZ,WW,Ze,reduceCtorEq,Nat.reduceAdd,Nat.reduceMul,Nat.reduceLeDiff,Nat.reduceLT,Nat.reduceEqDiff]
   rw [all_false hx hf]
   rfl
  ·intro hf
   have hf:(allB x [45] && inE x.length 1 30)=true:=by rwa [Bool.not_eq_false'] at hf
   simp only [ZZ,WW,Ze,reduceCtorEq,Nat.reduceAdd,Nat.reduceMul,Nat.reduceLeDiff,Nat.reduceLT,Nat.reduceEqDiff]
   refine ⟨i64_of (by omega) (by omega),?_⟩
   refine end_round (ls.length - (k+1)) [oo,oo,oo,.p (.sl 1 (strE ls)),oo,oo,oo,oo,.p (.sl 1 (strE ls)),.p (int (ls.length:Nat)),.p (int ((k+1):Nat)),oo,oo,oo,oo,oo,oo,oo,oo,oo,oo] [] (by omega) (by (simp only [ZZ,WW,Ze,reduceCtorEq,Nat.reduceAdd,Nat.reduceMul,Nat.reduceLeDiff,Nat.reduceLT,Nat.reduceEqDiff];try trivial)) (by (simp only [ZZ,WW,Ze,reduceCtorEq,Nat.reduceAdd,Nat.reduceMul,Nat.reduceLeDiff,Nat.reduceLT,Nat.reduceEqDiff];try trivial)) ⟨k+1,by omega,rfl,by rw [List.take_succ_eq_append_getElem hlt,List.all_append,ha,(List.getElem?_eq_some_iff.1 hx).2];simpa using hf,rfl,rfl⟩
 ·intro h
  have hge:k=ls.length:=by have:=of_decide_eq_false h;omega
  subst hge
  rw [List.take_length] at ha
  simp only [ZZ,WW,Ze,reduceCtorEq,Nat.reduceAdd,Nat.reduceMul,Nat.reduceLeDiff,Nat.reduceLT,Nat.reduceEqDiff,strE_len]
  rw [ha]
  simp
  omega
theorem IsMail_ok (s:List UInt8) (hs:s.length≤1000000000):PCall Tryz.prog E0 184 [.str s] (·=.bool (mailF s)):=by
 refine pcallF mixed Tryz.func184 ck_thread_IsMail ?_
 simp only [a0,l0,OS.ao,List.map_cons,List.map_nil,List.length_cons,List.length_nil,List.cons_append,List.nil_append,Nat.reduceSub,Nat.reduceAdd,List.replicate_succ,List.replicate_zero,ir_thread_IsMail,rs_thread_IsMail,ZZ,WW,Ze,reduceCtorEq,Nat.reduceAdd,Nat.reduceMul,Nat.reduceLeDiff,Nat.reduceLT,Nat.reduceEqDiff]
 refine use1 (Cut_ok s [64] hs) rfl (.inl rfl) ?_
 have hc:=cutF_len s [64]
 unfold mailF
 generalize cutF s [64]=q at *
 simp only [ZZ,WW,Ze,reduceCtorEq,Nat.reduceAdd,Nat.reduceMul,Nat.reduceLeDiff,Nat.reduceLT,Nat.reduceEqDiff]
 ((repeat' (with_reducible apply And.intro))<;>try ((exact sc_)))
 refine useG (fun _=>all_ok q.1 [46,45,95,43] 1 40 (by omega)) rfl (.inl rfl) ?_
 simp only [ZZ,WW,Ze,reduceCtorEq,Nat.reduceAdd,Nat.reduceMul,Nat.reduceLeDiff,Nat.reduceLT,Nat.reduceEqDiff]
 ((repeat' (with_reducible apply And.intro))<;>try ((exact sc_)))
 refine br ?_ ?_
 ·intro h
  simp only [ZZ,WW,Ze,reduceCtorEq,Nat.reduceAdd,Nat.reduceMul,Nat.reduceLeDiff,Nat.reduceLT,Nat.reduceEqDiff]
  congr 1
  symm
  cases h1:q.2.2<;>cases h2:(allB q.1 [46,45,95,43] && inE q.1.length 1 40)<;>simp [h1,h2] at h ⊢
  omega
 ·intro h
  simp only [ZZ,WW,Ze,reduceCtorEq,Nat.reduceAdd,Nat.reduceMul,Nat.reduceLeDiff,Nat.reduceLT,Nat.reduceEqDiff]
  refine use1 (IsDomain_ok q.2.1 (by omega)) rfl (.inl rfl) ?_
  simp only [ZZ,WW,Ze,reduceCtorEq,Nat.reduceAdd,Nat.reduceMul,Nat.reduceLeDiff,Nat.reduceLT,Nat.reduceEqDiff]
  congr 1
  cases h1:q.2.2<;>cases h2:(allB q.1 [46,45,95,43] && inE q.1.length 1 40)<;>simp [h1,h2] at h ⊢
  omega
def nsL:List UInt8:=smallL++[48,49,50,51,52,53,54,55,56,57]
theorem made_loc (s:List UInt8):madeF s (nsL++[46,45,95,43])=allB s [46,45,95,43]:=by
 rw [madeF_all,allB]
 congr 1
 funext c
 exact all256 (p:=fun c=>(nsL++[46,45,95,43]).contains c=inB [46,45,95,43] c) (by decide +kernel) c
theorem made_lab (s:List UInt8):madeF s (nsL++[45])=allB s [45]:=by
 rw [madeF_all,allB]
 congr 1
 funext c
 exact all256 (p:=fun c=>(nsL++[45]).contains c=inB [45] c) (by decide +kernel) c
theorem MailOf_ok (s:List UInt8) (hs:s.length≤1000000000):PCall Tryz.prog E0 178 [.str s] (·=.bool (mailF s)):=by
 refine pcallF mixed Tryz.func178 ck_chaseref1_MailOf ?_
 simp only [a0,l0,OS.ao,List.map_cons,List.map_nil,List.length_cons,List.length_nil,List.cons_append,List.nil_append,Nat.reduceSub,Nat.reduceAdd,List.replicate_succ,List.replicate_zero,ir_chaseref1_MailOf,rs_chaseref1_MailOf,ZZ,WW,Ze,reduceCtorEq,Nat.reduceAdd,Nat.reduceMul,Nat.reduceLeDiff,Nat.reduceLT,Nat.reduceEqDiff]
 refine use1 (Cut_ok s [64] hs) rfl (.inl rfl) ?_
 have hc:=cutF_len s [64]
 unfold mailF
 generalize cutF s [64]=q at *
 simp only [ZZ,WW,Ze,reduceCtorEq,Nat.reduceAdd,Nat.reduceMul,Nat.reduceLeDiff,Nat.reduceLT,Nat.reduceEqDiff]
 ((repeat' (with_reducible apply And.intro))<;>try ((exact sc_)))
 refine useG (fun _=>made_ok q.1 (nsL++[46,45,95,43]) (by omega) (by decide) (by decide)) rfl (.inl rfl) ?_
 rw [made_loc]
 simp only [ZZ,WW,Ze,reduceCtorEq,Nat.reduceAdd,Nat.reduceMul,Nat.reduceLeDiff,Nat.reduceLT,Nat.reduceEqDiff]
 ((repeat' (with_reducible apply And.intro))<;>try ((exact sc_)))
 refine br ?_ ?_
 ·intro h
  simp only [ZZ,WW,Ze,reduceCtorEq,Nat.reduceAdd,Nat.reduceMul,Nat.reduceLeDiff,Nat.reduceLT,Nat.reduceEqDiff]
  congr 1
  symm
  cases h1:q.2.2<;>cases h2:allB q.1 [46,45,95,43]<;>simp [h1,h2,inE] at h ⊢
  omega
 intro h
 have hq:(((q.2.2 && decide ((s.length:Int)≤80)) && (allB q.1 [46,45,95,43] && inE q.1.length 1 40)) && domF q.2.1)=domF q.2.1:=by
  cases h1:q.2.2<;>cases h2:allB q.1 [46,45,95,43]<;>simp [h1,h2,inE] at h ⊢
  omega
 rw [hq]
 simp only [ZZ,WW,Ze,reduceCtorEq,Nat.reduceAdd,Nat.reduceMul,Nat.reduceLeDiff,Nat.reduceLT,Nat.reduceEqDiff]
 refine use1 (Split_ok q.2.1 46 (by omega)) rfl (.inl rfl) ?_
 rw [strs_eq]
 have hD:domF q.2.1=((splF q.2.1 46).all (fun x=>allB x [45] && inE x.length 1 30) && decide (1 < (splF q.2.1 46).length)):=rfl
 rw [hD]
 have hmem:=splF_mem q.2.1 46
 have hlen:=splF_len q.2.1 46
 generalize splF q.2.1 46=ls at *
 simp only [ZZ,WW,Ze,reduceCtorEq,Nat.reduceAdd,Nat.reduceMul,Nat.reduceLeDiff,Nat.reduceLT,Nat.reduceEqDiff,strE_len]
 refine loop_intro (fun n fr L=>∃ (k:Nat),k≤ls.length∧n=ls.length - k∧((ls.take k).all (fun x=>allB x [45] && inE x.length 1 30)=true)∧fr=[oo,oo,oo,oo,oo,oo,.p (.sl 1 (strE ls)),oo,oo,oo,oo,oo,oo,oo,oo,oo,oo,oo,oo,oo,oo,oo,oo,oo,oo,oo,oo,oo,oo,oo,oo,oo,oo,oo,oo,oo,oo,oo,oo,.p (.sl 1 (strE ls)),.p (int (ls.length:Nat)),.p (int (k:Nat)),oo,oo,oo,oo,oo,oo,oo,oo,oo,oo,oo,oo,oo,oo,oo,oo,oo,oo,oo,oo]∧L=[]) (ls.length) [oo,oo,oo,oo,oo,oo,.p (.sl 1 (strE ls)),oo,oo,oo,oo,oo,oo,oo,oo,oo,oo,oo,oo,oo,oo,oo,oo,oo,oo,oo,oo,oo,oo,oo,oo,oo,oo,oo,oo,oo,oo,oo,oo,.p (.sl 1 (strE ls)),.p (int (ls.length:Nat)),.p (int (0:Nat)),oo,oo,oo,oo,oo,oo,oo,oo,oo,oo,oo,oo,oo,oo,oo,oo,oo,oo,oo,oo] [] (by simp only [ZZ,WW,Ze,reduceCtorEq,Nat.reduceAdd,Nat.reduceMul,Nat.reduceLeDiff,Nat.reduceLT,Nat.reduceEqDiff,strE_len];try trivial) (by (simp only [ZZ,WW,Ze,reduceCtorEq,Nat.reduceAdd,Nat.reduceMul,Nat.reduceLeDiff,Nat.reduceLT,Nat.reduceEqDiff];try trivial)) ⟨0,by omega,by omega,by simp,rfl,rfl⟩ ?_
 rintro n fr L ⟨k,hk,rfl,ha,rfl,rfl⟩
 simp only [ir_chaseref1_MailOf_L0,ZZ,WW,Ze,reduceCtorEq,Nat.reduceAdd,Nat.reduceMul,Nat.reduceLeDiff,Nat.reduceLT,Nat.reduceEqDiff]
 refine br ?_ ?_
 ·intro h
  have hlt:k < ls.length:=by have:=of_decide_eq_true h;omega
  obtain ⟨x,hx⟩:∃ x,ls[k]?=some x:=⟨_,List.getElem?_eq_getElem hlt⟩
  have hg:=strE_get hx
  have hxl:=hmem x (List.mem_of_getElem? hx)
  simp only [ZZ,WW,Ze,reduceCtorEq,Nat.reduceAdd,Nat.reduceMul,Nat.reduceLeDiff,Nat.reduceLT,Nat.reduceEqDiff,hg,strE_len]
  ((repeat' (with_reducible apply And.intro))<;>try ((exact sc_)))
  refine useG (fun _=>made_ok x (nsL++[45]) (by omega) (by decide) (by decide)) rfl (.inl rfl) ?_
  rw [made_lab]
  simp only [ZZ,WW,Ze,reduceCtorEq,Nat.reduceAdd,Nat.reduceMul,Nat.reduceLeDiff,Nat.reduceLT,Nat.reduceEqDiff]
  ((repeat' (with_reducible apply And.intro))<;>try ((exact sc_)))
  refine br ?_ ?_
  ·intro hf
   have hf:(allB x [45] && inE x.length 1 30)=false:=by
    cases h2:allB x [45]<;>simp [h2,inE] at hf ⊢
    omega
   simp only [ZZ,WW,Ze,reduceCtorEq,Nat.reduceAdd,Nat.reduceMul,Nat.reduceLeDiff,Nat.reduceLT,Nat.reduceEqDiff]
   rw [all_false hx hf]
   rfl
  ·intro hf
   have hf:(allB x [45] && inE x.length 1 30)=true:=by
    cases h2:allB x [45]<;>simp [h2,inE] at hf ⊢
    omega
   simp only [ZZ,WW,Ze,reduceCtorEq,Nat.reduceAdd,Nat.reduceMul,Nat.reduceLeDiff,Nat.reduceLT,Nat.reduceEqDiff]
   refine ⟨i64_of (by omega) (by omega),?_⟩
   refine end_round (ls.length - (k+1)) [oo,oo,oo,oo,oo,oo,.p (.sl 1 (strE ls)),oo,oo,oo,oo,oo,oo,oo,oo,oo,oo,oo,oo,oo,oo,oo,oo,oo,oo,oo,oo,oo,oo,oo,oo,oo,oo,oo,oo,oo,oo,oo,oo,.p (.sl 1 (strE ls)),.p (int (ls.length:Nat)),.p (int ((k+1):Nat)),oo,oo,oo,oo,oo,oo,oo,oo,oo,oo,oo,oo,oo,oo,oo,oo,oo,oo,oo,oo] [] (by omega) (by (simp only [ZZ,WW,Ze,reduceCtorEq,Nat.reduceAdd,Nat.reduceMul,Nat.reduceLeDiff,Nat.reduceLT,Nat.reduceEqDiff];try trivial)) (by (simp only [ZZ,WW,Ze,reduceCtorEq,Nat.reduceAdd,Nat.reduceMul,Nat.reduceLeDiff,Nat.reduceLT,Nat.reduceEqDiff];try trivial)) ⟨k+1,by omega,rfl,by rw [List.take_succ_eq_append_getElem hlt,List.all_append,ha,(List.getElem?_eq_some_iff.1 hx).2];simpa using hf,rfl,rfl⟩
 ·intro h
  have hge:k=ls.length:=by have:=of_decide_eq_false h;omega
  subst hge
  rw [List.take_length] at ha
  simp only [ZZ,WW,Ze,reduceCtorEq,Nat.reduceAdd,Nat.reduceMul,Nat.reduceLeDiff,Nat.reduceLT,Nat.reduceEqDiff,strE_len]
  rw [ha]
  simp
  omega
def ir_slices_Clone_string_string:IC:=(.seq (.reg [qO 2 (.nilr 9 1)]) (.seq (.seq (.reg [qM 3 0,qO 4 (.isn (.t 3))]) (.cond (.t 4) (.seq (.reg [qO 2 (.nilr 9 1)]) .ret) .skip)) (.seq (.reg [qO 5 (.bsr 9 1 []),qM 6 0,qO 7 (.app 9 1 16 (.t 5) (.t 6)),qM 2 7]) .ret)))
def rs_slices_Clone_string_string:List IRes:=[.t 2]
theorem ck_slices_Clone_string_string:chkF Tryz.prog Tryz.f48 ir_slices_Clone_string_string rs_slices_Clone_string_string 8=true:=by kernel_rfl
section
variable {E:Envt}
abbrev tStrG:Nat:=9
theorem RepeatG_ok (s:List UInt8) (n:Nat) (hn:n≤1000000) (hs:s.length≤1000000):PCall Tryz.prog E 44 [.str s,int n] (·=.str (Lib.repeatL s n)):=
 pcall_flat rfl rfl fun w _=>(r_Repeat ⟨s.toArray⟩ n w (by omega) (by rw [show (⟨s.toArray⟩:ByteArray).size=s.length from by simp [ByteArray.size]];exact Nat.le_trans (Nat.mul_le_mul hs hn) (by decide))).mono fun e w' h=>⟨h.1,grow_below h.2⟩
theorem CloneS_ok (es:List (List PV)) (hn:es.length≤1000000):FCall Tryz.prog E 48 [.sl 1 es] tStrG 1 (·=es):=by
 unfold FCall
 refine gcallR mixed Tryz.func48 ck_slices_Clone_string_string ?_
 simp only [a0,l0,OS.ao,List.map_cons,List.map_nil,List.length_cons,List.length_nil,List.cons_append,List.nil_append,Nat.reduceSub,Nat.reduceAdd,List.replicate_succ,List.replicate_zero,ir_slices_Clone_string_string,rs_slices_Clone_string_string,ZZ,WW,Ze,reduceCtorEq,Nat.reduceAdd,Nat.reduceMul,Nat.reduceLeDiff,Nat.reduceLT,Nat.reduceEqDiff]
 intro b hb
 refine br ?_ ?_
 ·intro h
  have:=hb h
  simp only [ZZ,WW,Ze,reduceCtorEq,Nat.reduceAdd,Nat.reduceMul,Nat.reduceLeDiff,Nat.reduceLT,Nat.reduceEqDiff]
  exact fin_F 2 [] rfl rfl this.symm
 ·intro h
  simp only [ZZ,WW,Ze,reduceCtorEq,Nat.reduceAdd,Nat.reduceMul,Nat.reduceLeDiff,Nat.reduceLT,Nat.reduceEqDiff]
  exact ⟨by omega,fin_F 5 es rfl rfl rfl⟩
end
end Go.Proofs.YtehfjlpenlffmaaGreatDoor
namespace Go.Proofs.YtehfjlpenlffmaaGreatDoor
section
variable {E:Envt}
abbrev Par:=List UInt8×Int×Int
def t1:List UInt8:=[108,101,103,97,108,32,97,100,118,105,99,101]
def t0:List UInt8:=[99,97,114,101,102,117,108]
def t2:List UInt8:=[112,114,105,118,105,108,101,103,101,100,32,97,110,100,32,99,111,110,102,105,100,101,110,116,105,97,108]
def p0:List Par:=[([97,105,100,64,111,117,114,115,46,100,101],1,3),([97,110,110,64,102,105,114,109,46,100,101],1,2),([108,97,119,64,111,117,114,115,46,100,101],1,1)]
def d0 (y:Int):List Par:=[([102,105,114,109,46,100,101],1,4),([120,46,102,105,114,109,46,100,101],y,2),([111,117,114,115,46,100,101],1,4)]
end
section
variable {E:Envt}
end
def ir_chasemake_Stream_body_L0:IC:=(.seq (.reg [qO 7 (.bin .lss (.t 6) (.t 5))]) (.seq (.cond (.t 7) .skip (.exit 0)) (.seq (.block 1 (.seq (.reg [qM 8 3,qM 9 0,qO 10 (.bsl 1 [.c (.str []),.c (.str []),.c (.str [62,32]),.c (.str [62,32]),.c (.str [62,32,62,32]),.c (.str [62]),.c (.str [62,62,32])]),qO 11 (.call 42 [.t 9,.t 10]),qM 12 0,qO 13 (.bsl 1 [.c (.str [98,101,32,99,97,114,101,102,117,108]),.c (.str [116,104,105,115,32,105,115,32,108,101,103,97,108,32,97,100,118,105,99,101]),.c (.str [108,117,110,99,104,63]),.c (.str []),.c (.str [32]),.c (.str [66,101,32,32,67,97,114,101,102,117,108,32]),.c (.str [111,110,101,32,109,111,114,101]),.c (.str [112,114,105,118,105,108,101,103,101,100,32,97,110,100,32,99,111,110,102,105,100,101,110,116,105,97,108]),.c (.str [195,169,116,195,169,32,108,101,103,97,108,32,97,100,118,105,99,101])]),qO 14 (.call 42 [.t 12,.t 13]),qO 15 (.bin .add (.t 11) (.t 14)),qO 16 (.bin .add (.t 15) (.c (.str [10]))),qO 17 (.bin .add (.t 8) (.t 16)),qM 3 17]) (.seq (.reg [qM 18 0,qO 19 (.call 9 [.t 18,.c (.int .i64 5)])]) (.cond (.t 19) (.reg [qM 20 3,qM 21 0,qO 22 (.bsl 1 [.c (.str []),.c (.str [62,32])]),qO 23 (.call 42 [.t 21,.t 22]),qM 24 0,qO 25 (.bsl 1 [.c (.str [66,111,32,119,114,111,116,101,58]),.c (.str [79,110,32,77,111,110,100,97,121,32,65,110,110,32,119,114,111,116,101,58]),.c (.str [119,114,111,116,101,58]),.c (.str [67,121,32,115,99,104,114,105,101,98,58]),.c (.str [45,45,45,45,45,79,114,105,103,105,110,97,108,32,77,101,115,115,97,103,101,45,45,45,45,45])]),qO 26 (.call 42 [.t 24,.t 25]),qO 27 (.bin .add (.t 23) (.t 26)),qO 28 (.bin .add (.t 27) (.c (.str [10]))),qO 29 (.bin .add (.t 20) (.t 28)),qM 3 29]) .skip)))) (.cut (.reg [qO 30 (.bin .add (.t 6) (.c (.int .i64 1))),qM 6 30])))))
def ir_chasemake_Stream_body:IC:=(.seq (.reg [qO 2 (.mov (.c (.str [])))]) (.seq (.reg [qO 3 (.mov (.c (.str [])))]) (.seq (.seq (.reg [qM 4 0,qO 5 (.call 10 [.t 4,.c (.int .i64 7)]),qO 6 (.mov (.c (.int .i64 0)))]) (.block 0 (.loop ir_chasemake_Stream_body_L0))) (.seq (.reg [qM 31 3,qM 2 31]) .ret))))
def rs_chasemake_Stream_body:List IRes:=[.t 2]
theorem ck_chasemake_Stream_body:chkF Tryz.prog Tryz.f93 ir_chasemake_Stream_body rs_chasemake_Stream_body 32=true:=by kernel_rfl
section
variable {E:Envt}
def bA:List (List UInt8):=[[],[],[62,32],[62,32],[62,32,62,32],[62],[62,62,32]]
def bB:List (List UInt8):=[[98,101,32,99,97,114,101,102,117,108],[116,104,105,115,32,105,115,32,108,101,103,97,108,32,97,100,118,105,99,101],[108,117,110,99,104,63],[],[32],[66,101,32,32,67,97,114,101,102,117,108,32],[111,110,101,32,109,111,114,101],[112,114,105,118,105,108,101,103,101,100,32,97,110,100,32,99,111,110,102,105,100,101,110,116,105,97,108],[195,169,116,195,169,32,108,101,103,97,108,32,97,100,118,105,99,101]]
def bC:List (List UInt8):=[[],[62,32]]
def bD:List (List UInt8):=[[66,111,32,119,114,111,116,101,58],[79,110,32,77,111,110,100,97,121,32,65,110,110,32,119,114,111,116,101,58],[119,114,111,116,101,58],[67,121,32,115,99,104,114,105,101,98,58],[45,45,45,45,45,79,114,105,103,105,110,97,108,32,77,101,115,115,97,103,101,45,45,45,45,45]]
theorem bA_len:∀ s∈bA,s.length≤60:=by decide
theorem bB_len:∀ s∈bB,s.length≤60:=by decide
theorem bC_len:∀ s∈bC,s.length≤60:=by decide
theorem bD_len:∀ s∈bD,s.length≤60:=by decide
theorem body_ok (l:List Int) (k:Nat) (hk:k≤900000) (hl:l.length≤9223372036854775807) :
  SCall Tryz.prog E 93 T (stm l k) [] (fun x cs'=>∃ s k',x=.str s∧s.length≤2000∧cs'=stm l k'∧k'≤k+40):=by
 unfold SCall
 refine gcallP mixed Tryz.func93 ck_chasemake_Stream_body ?_
 simp only [a0,l0,OS.ao,List.map_cons,List.map_nil,List.length_cons,List.length_nil,List.cons_append,List.nil_append,Nat.reduceSub,Nat.reduceAdd,List.replicate_succ,List.replicate_zero,ir_chasemake_Stream_body,rs_chasemake_Stream_body,ZZ,WW,Ze,reduceCtorEq,Nat.reduceAdd,Nat.reduceMul,Nat.reduceLeDiff,Nat.reduceLT,Nat.reduceEqDiff]
 refine useS (Next_ok l k 7 (by omega) hl (by decide)) rfl rfl rfl zE_ ?_
 rintro x cs' ⟨y,rfl,rfl⟩
 have b1:=below_lo y 7
 have b2:=below_hi y 7 (by omega)
 generalize below y 7=m at *
 simp only [ZZ,WW,Ze,reduceCtorEq,Nat.reduceAdd,Nat.reduceMul,Nat.reduceLeDiff,Nat.reduceLT,Nat.reduceEqDiff]
 refine loop_intro (fun n fr L=>∃ (i k':Nat) (s:List UInt8),n=7 - i∧i≤7∧k'≤k+1+5 * i∧s.length≤250 * i∧fr=[.adr (.b 0) 0,oo,oo,.p (.str s),oo,.p (int m),.p (int (i:Nat)),oo,oo,oo,oo,oo,oo,oo,oo,oo,oo,oo,oo,oo,oo,oo,oo,oo,oo,oo,oo,oo,oo,oo,oo,oo]∧L=[(.b 0,.box ((stm l k').map .p) T)]) 7 [.adr (.b 0) 0,oo,oo,.p (.str []),oo,.p (int m),.p (int (0:Nat)),oo,oo,oo,oo,oo,oo,oo,oo,oo,oo,oo,oo,oo,oo,oo,oo,oo,oo,oo,oo,oo,oo,oo,oo,oo] [(.b 0,.box ((stm l (k+1)).map .p) T)] (by (simp only [ZZ,WW,Ze,reduceCtorEq,Nat.reduceAdd,Nat.reduceMul,Nat.reduceLeDiff,Nat.reduceLT,Nat.reduceEqDiff];try trivial)) zE_ ⟨0,k+1,[],by omega,by omega,by omega,by simp,rfl,rfl⟩ ?_
 rintro n fr L ⟨i,k',s,rfl,hi,hk',hs,rfl,rfl⟩
 simp only [ir_chasemake_Stream_body_L0,ZZ,WW,Ze,reduceCtorEq,Nat.reduceAdd,Nat.reduceMul,Nat.reduceLeDiff,Nat.reduceLT,Nat.reduceEqDiff]
 refine br ?_ ?_
 ·intro h
  have hlt:(i:Int) < m:=of_decide_eq_true h
  simp only [ZZ,WW,Ze,reduceCtorEq,Nat.reduceAdd,Nat.reduceMul,Nat.reduceLeDiff,Nat.reduceLT,Nat.reduceEqDiff]
  refine useS (one_ok l k' bA (by omega) hl (by decide) (by decide)) rfl rfl rfl zE_ ?_
  rintro x cs' ⟨u,rfl,hu,rfl⟩
  have hu:=bA_len u hu
  simp only [ZZ,WW,Ze,reduceCtorEq,Nat.reduceAdd,Nat.reduceMul,Nat.reduceLeDiff,Nat.reduceLT,Nat.reduceEqDiff]
  refine useS (one_ok l (k'+1) bB (by omega) hl (by decide) (by decide)) rfl rfl rfl zE_ ?_
  rintro x cs' ⟨v,rfl,hv,rfl⟩
  have hv:=bB_len v hv
  simp only [ZZ,WW,Ze,reduceCtorEq,Nat.reduceAdd,Nat.reduceMul,Nat.reduceLeDiff,Nat.reduceLT,Nat.reduceEqDiff]
  refine ⟨by simp;omega,by simp;omega,by simp;omega,?_⟩
  refine useS (Flip_ok l (k'+1+1) 5 (by omega) hl (by decide)) rfl rfl rfl zE_ ?_
  rintro x cs' ⟨b,rfl,rfl⟩
  simp only [ZZ,WW,Ze,reduceCtorEq,Nat.reduceAdd,Nat.reduceMul,Nat.reduceLeDiff,Nat.reduceLT,Nat.reduceEqDiff]
  refine br ?_ ?_
  ·intro _
   simp only [ZZ,WW,Ze,reduceCtorEq,Nat.reduceAdd,Nat.reduceMul,Nat.reduceLeDiff,Nat.reduceLT,Nat.reduceEqDiff]
   refine useS (one_ok l (k'+1+1+1) bC (by omega) hl (by decide) (by decide)) rfl rfl rfl zE_ ?_
   rintro x cs' ⟨u2,rfl,hu2,rfl⟩
   have hu2:=bC_len u2 hu2
   simp only [ZZ,WW,Ze,reduceCtorEq,Nat.reduceAdd,Nat.reduceMul,Nat.reduceLeDiff,Nat.reduceLT,Nat.reduceEqDiff]
   refine useS (one_ok l (k'+1+1+1+1) bD (by omega) hl (by decide) (by decide)) rfl rfl rfl zE_ ?_
   rintro x cs' ⟨v2,rfl,hv2,rfl⟩
   have hv2:=bD_len v2 hv2
   simp only [ZZ,WW,Ze,reduceCtorEq,Nat.reduceAdd,Nat.reduceMul,Nat.reduceLeDiff,Nat.reduceLT,Nat.reduceEqDiff]
   refine ⟨by simp;omega,by simp;omega,by simp;omega,?_⟩
   refine cut_same zE_ ?_
   simp only [ZZ,WW,Ze,reduceCtorEq,Nat.reduceAdd,Nat.reduceMul,Nat.reduceLeDiff,Nat.reduceLT,Nat.reduceEqDiff]
   refine ⟨i64_of (by omega) (by omega),end_round (7 - (i+1)) [.adr (.b 0) 0,oo,oo,.p (.str (s++(u++v++[10])++(u2++v2++[10]))),oo,.p (int m),.p (int ((i+1:Nat))),oo,oo,oo,oo,oo,oo,oo,oo,oo,oo,oo,oo,oo,oo,oo,oo,oo,oo,oo,oo,oo,oo,oo,oo,oo] [(.b 0,.box ((stm l (k'+1+1+1+1+1)).map .p) T)] (by omega) (by (simp only [ZZ,WW,Ze,reduceCtorEq,Nat.reduceAdd,Nat.reduceMul,Nat.reduceLeDiff,Nat.reduceLT,Nat.reduceEqDiff];try trivial)) zE_ ⟨i+1,k'+1+1+1+1+1,_,rfl,by omega,by omega,by simp;omega,rfl,rfl⟩⟩
  ·intro _
   simp only [ZZ,WW,Ze,reduceCtorEq,Nat.reduceAdd,Nat.reduceMul,Nat.reduceLeDiff,Nat.reduceLT,Nat.reduceEqDiff]
   refine cut_same zE_ ?_
   simp only [ZZ,WW,Ze,reduceCtorEq,Nat.reduceAdd,Nat.reduceMul,Nat.reduceLeDiff,Nat.reduceLT,Nat.reduceEqDiff]
   refine ⟨i64_of (by omega) (by omega),end_round (7 - (i+1)) [.adr (.b 0) 0,oo,oo,.p (.str (s++(u++v++[10]))),oo,.p (int m),.p (int ((i+1:Nat))),oo,oo,oo,oo,oo,oo,oo,oo,oo,oo,oo,oo,oo,oo,oo,oo,oo,oo,oo,oo,oo,oo,oo,oo,oo] [(.b 0,.box ((stm l (k'+1+1+1)).map .p) T)] (by omega) (by (simp only [ZZ,WW,Ze,reduceCtorEq,Nat.reduceAdd,Nat.reduceMul,Nat.reduceLeDiff,Nat.reduceLT,Nat.reduceEqDiff];try trivial)) zE_ ⟨i+1,k'+1+1+1,_,rfl,by omega,by omega,by simp;omega,rfl,rfl⟩⟩
 ·intro h
  simp only [ZZ,WW,Ze,reduceCtorEq,Nat.reduceAdd,Nat.reduceMul,Nat.reduceLeDiff,Nat.reduceLT,Nat.reduceEqDiff]
  exact fin_S (stm l k') rfl ⟨s,k',rfl,by omega,rfl,by omega⟩
end
section
variable {E:Envt}
end
def ir_strings_Contains:IC:=(.seq (.reg [qO 4 (.mov (.c (.bool false)))]) (.seq (.reg [qM 5 0,qM 6 1,qO 7 (.call 222 [.t 5,.t 6]),qO 8 (.bin .geq (.t 7) (.c (.int .i64 0))),qM 4 8]) .ret))
def rs_strings_Contains:List IRes:=[.t 4]
theorem ck_strings_Contains:chkF Tryz.prog Tryz.f156 ir_strings_Contains rs_strings_Contains 9=true:=by kernel_rfl
section
theorem Contains_ok (s t:List UInt8) (hs:s.length≤1000000000):PCall Tryz.prog E0 156 [.str s,.str t] (·=.bool (decide (0≤Lib.index s t))):=by
 refine pcallF mixed Tryz.func156 ck_strings_Contains ?_
 simp only [a0,l0,OS.ao,List.map_cons,List.map_nil,List.length_cons,List.length_nil,List.cons_append,List.nil_append,Nat.reduceSub,Nat.reduceAdd,List.replicate_succ,List.replicate_zero,ir_strings_Contains,rs_strings_Contains,ZZ,WW,Ze,reduceCtorEq,Nat.reduceAdd,Nat.reduceMul,Nat.reduceLeDiff,Nat.reduceLT,Nat.reduceEqDiff]
 refine use1 (Index_ok s t hs) rfl (.inl rfl) ?_
 simp only [ZZ,WW,Ze,reduceCtorEq,Nat.reduceAdd,Nat.reduceMul,Nat.reduceLeDiff,Nat.reduceLT,Nat.reduceEqDiff]
end
end Go.Proofs.YtehfjlpenlffmaaGreatDoor
