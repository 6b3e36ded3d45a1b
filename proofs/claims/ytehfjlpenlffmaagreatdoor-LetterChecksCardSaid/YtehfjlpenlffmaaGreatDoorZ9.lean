import Derived.Test.YtehfjlpenlffmaaGreatDoorZ8
import Derived.Lib.LastIndexByte
import Derived.Test.YtehfjlpenlffmaaGreatDoorLayLastIndex
import Derived.Test.YtehfjlpenlffmaaGreatDoorZ6
import Derived.Test.YtehfjlpenlffmaaGreatDoorZ7
import Derived.Test.YtehfjlpenlffmaaGreatDoorZ4
set_option linter.unusedVariables false
set_option linter.unusedSimpArgs false
set_option linter.defProp false
namespace Go.Proofs.YtehfjlpenlffmaaGreatDoor
open Go.RowKit
theorem suf1 (s:List UInt8) (c:UInt8):sufE s [c]=true↔∃ t,s=t++[c]:=by
 unfold sufE
 simp only [Bool.and_eq_true,decide_eq_true_eq,List.length_cons,List.length_nil,Nat.zero_add]
 constructor
 ·rintro ⟨_,h⟩
  exact ⟨s.take (s.length - 1),by rw [← h,List.take_append_drop]⟩
 ·rintro ⟨t,rfl⟩
  simp
  omega
def ir_thread_printed:IC:=(.seq (.reg [qO 1 (.box 56 (.t 0)),qO 2 (.mov (.c (.str [])))]) (.seq (.seq (.reg [qO 3 (.fla 0 (.t 1)),qO 4 (.ld 1 false (.t 3)),qO 5 (.bin .eql (.t 4) (.c (.str [])))]) (.cond (.t 5) (.seq (.reg [qO 6 (.fla 1 (.t 1)),qO 7 (.ld 1 false (.t 6)),qM 2 7]) .ret) .skip)) (.seq (.reg [qO 8 (.fla 0 (.t 1)),qO 9 (.ld 1 false (.t 8)),qO 10 (.bin .add (.t 9) (.c (.str [32,60]))),qO 11 (.fla 1 (.t 1)),qO 12 (.ld 1 false (.t 11)),qO 13 (.bin .add (.t 10) (.t 12)),qO 14 (.bin .add (.t 13) (.c (.str [62]))),qM 2 14]) .ret)))
def rs_thread_printed:List IRes:=[.t 2]
theorem ck_thread_printed:chkF Tryz.prog Tryz.f111 ir_thread_printed rs_thread_printed 15=true:=by kernel_rfl
def ir_chaseref1_nameOf:IC:=(.seq (.reg [qO 2 (.mov (.c (.bool false)))]) (.seq (.reg [qM 3 0,qO 4 (.sln (.t 3)),qO 5 (.bin .leq (.t 4) (.c (.int .i64 60))),qM 6 5,⟨some 7,.mov (.t 0),(some (6,true))⟩,⟨some 8,.call 76 [.t 7],(some (6,true))⟩,qO 9 (.pick (.t 6) (.t 8) (.c (.bool false))),qM 10 9,⟨some 11,.mov (.t 0),(some (10,true))⟩,⟨some 12,.call 240 [.t 11,.c (.str [34,60,62,44,59])],(some (10,true))⟩,⟨some 13,.not (.t 12),(some (10,true))⟩,qO 14 (.pick (.t 10) (.t 13) (.c (.bool false))),qM 2 14]) .ret))
def rs_chaseref1_nameOf:List IRes:=[.t 2]
theorem ck_chaseref1_nameOf:chkF Tryz.prog Tryz.f177 ir_chaseref1_nameOf rs_chaseref1_nameOf 15=true:=by kernel_rfl
def ir_chaseref1_AddressRight:IC:=(.seq (.reg [qO 1 (.box 56 (.t 0)),qO 2 (.mov (.c (.bool false)))]) (.seq (.reg [qO 3 (.fla 0 (.t 1)),qO 4 (.ld 1 false (.t 3)),qO 5 (.call 177 [.t 4]),qM 6 5,⟨some 7,.fla 1 (.t 1),(some (6,true))⟩,⟨some 8,.ld 1 false (.t 7),(some (6,true))⟩,⟨some 9,.call 178 [.t 8],(some (6,true))⟩,qO 10 (.pick (.t 6) (.t 9) (.c (.bool false))),qM 2 10]) .ret))
def rs_chaseref1_AddressRight:List IRes:=[.t 2]
theorem ck_chaseref1_AddressRight:chkF Tryz.prog Tryz.f100 ir_chaseref1_AddressRight rs_chaseref1_AddressRight 11=true:=by kernel_rfl
def ir_chaseref1_AddressText:IC:=(.seq (.reg [qO 1 (.box 56 (.t 0)),qO 2 (.mov (.c (.str [])))]) (.seq (.seq (.reg [qO 3 (.fla 0 (.t 1)),qO 4 (.ld 1 false (.t 3)),qO 5 (.bin .eql (.t 4) (.c (.str [])))]) (.cond (.t 5) (.seq (.reg [qO 6 (.fla 1 (.t 1)),qO 7 (.ld 1 false (.t 6)),qM 2 7]) .ret) .skip)) (.seq (.reg [qO 8 (.fla 0 (.t 1)),qO 9 (.ld 1 false (.t 8)),qO 10 (.bin .add (.t 9) (.c (.str [32,60]))),qO 11 (.fla 1 (.t 1)),qO 12 (.ld 1 false (.t 11)),qO 13 (.bin .add (.t 10) (.t 12)),qO 14 (.bin .add (.t 13) (.c (.str [62]))),qM 2 14]) .ret)))
def rs_chaseref1_AddressText:List IRes:=[.t 2]
theorem ck_chaseref1_AddressText:chkF Tryz.prog Tryz.f118 ir_chaseref1_AddressText rs_chaseref1_AddressText 15=true:=by kernel_rfl
theorem trimR_len (s:List UInt8) (cs:List UInt8):(Lib.trimRightS s cs).length≤s.length:=by
 unfold Lib.trimRightS
 have:=(List.dropWhile_suffix (l:=s.reverse) (fun x=>cs.contains x)).length_le
 simpa using this
theorem trimS_len (s:List UInt8) (cs:List UInt8):(Lib.trimS s cs).length≤s.length:=by
 unfold Lib.trimS Lib.trimLeftS
 exact Nat.le_trans (List.dropWhile_suffix _).length_le (trimR_len s cs)
theorem trimR_pre (s:List UInt8) (cs:List UInt8):Lib.trimRightS s cs <+: s:=by
 unfold Lib.trimRightS
 have:=List.reverse_prefix.2 (List.dropWhile_suffix (l:=s.reverse) (fun x=>cs.contains x))
 rwa [List.reverse_reverse] at this
theorem trim_id (s:List UInt8):decide (Lib.trimS s [32]=s)=(!Lib.hasPrefix s [32] && !sufE s [32]):=by
 by_cases h1:Lib.hasPrefix s [32]=true
 ·obtain ⟨t,rfl⟩:=(hp1 _ _).1 h1
  rw [h1,decide_eq_false]
  ·rfl
  ·intro h
   have hl:=congrArg List.length h
   have hp:=trimR_pre (32 :: t) [32]
   unfold Lib.trimS Lib.trimLeftS at hl
   cases hu:Lib.trimRightS (32 :: t) [32] with
   |nil=>rw [hu] at hl;simp at hl
   |cons y u=>
    rw [hu] at hl hp
    have hy:y=32:=by obtain ⟨r,hr⟩:=hp;simp at hr;exact hr.1
    subst hy
    have h2:=hp.length_le
    have h3:=(List.dropWhile_suffix (l:=u) (fun x=>[(32:UInt8)].contains x)).length_le
    simp [List.dropWhile_cons] at hl h2 h3
    omega
 ·have h1':Lib.hasPrefix s [32]=false:=Bool.eq_false_iff.2 h1
  rw [h1']
  by_cases h2:sufE s [32]=true
  ·rw [h2,decide_eq_false]
   ·rfl
   ·intro h
    obtain ⟨t,rfl⟩:=(suf1 _ _).1 h2
    have hl:=congrArg List.length h
    have h3:=trimS_len t [32]
    have e:Lib.trimS (t++[32]) [32]=Lib.trimS t [32]:=by
     unfold Lib.trimS Lib.trimRightS
     simp [List.dropWhile_cons]
    rw [e] at hl
    simp at hl
    omega
  ·have h2':sufE s [32]=false:=Bool.eq_false_iff.2 h2
   rw [h2',decide_eq_true]
   ·rfl
   ·have hr:Lib.trimRightS s [32]=s:=by
     unfold Lib.trimRightS
     cases hs:s.reverse with
     |nil=>simp at hs;subst hs;rfl
     |cons y r=>
      have hy:y≠32:=by
       rintro rfl
       apply h2
       refine (suf1 _ _).2 ⟨r.reverse,?_⟩
       have:=congrArg List.reverse hs
       simpa using this
      rw [List.dropWhile_cons,if_neg (by simp [hy]),← hs,List.reverse_reverse]
    unfold Lib.trimS
    rw [hr]
    unfold Lib.trimLeftS
    cases s with
    |nil=>rfl
    |cons y r=>
     have hy:y≠32:=by
      rintro rfl
      exact h1 ((hp1 _ _).2 ⟨r,rfl⟩)
     rw [List.dropWhile_cons,if_neg (by simp [hy])]
def ir_chaseref1_PlainOf:IC:=(.seq (.reg [qO 2 (.mov (.c (.bool false)))]) (.seq (.reg [qM 3 0,qO 4 (.call 147 [.t 3,.c (.bool false)]),qM 5 4,⟨some 6,.mov (.t 0),(some (5,true))⟩,⟨some 7,.call 155 [.t 6,.c (.str [32])],(some (5,true))⟩,⟨some 8,.mov (.t 0),(some (5,true))⟩,⟨some 9,.bin .eql (.t 7) (.t 8),(some (5,true))⟩,qO 10 (.pick (.t 5) (.t 9) (.c (.bool false))),qM 11 10,⟨some 12,.mov (.t 0),(some (11,true))⟩,⟨some 13,.call 156 [.t 12,.c (.str [32,32])],(some (11,true))⟩,⟨some 14,.not (.t 13),(some (11,true))⟩,qO 15 (.pick (.t 11) (.t 14) (.c (.bool false))),qM 2 15]) .ret))
def rs_chaseref1_PlainOf:List IRes:=[.t 2]
theorem ck_chaseref1_PlainOf:chkF Tryz.prog Tryz.f76 ir_chaseref1_PlainOf rs_chaseref1_PlainOf 16=true:=by kernel_rfl
theorem PlainOf_ok (s:List UInt8) (hs:s.length≤1000000000):PCall Tryz.prog E0 76 [.str s] (·=.bool (plainB s)):=by
 refine pcallF mixed Tryz.func76 ck_chaseref1_PlainOf ?_
 simp only [a0,l0,OS.ao,List.map_cons,List.map_nil,List.length_cons,List.length_nil,List.cons_append,List.nil_append,Nat.reduceSub,Nat.reduceAdd,List.replicate_succ,List.replicate_zero,ir_chaseref1_PlainOf,rs_chaseref1_PlainOf,ZZ,WW,Ze,reduceCtorEq,Nat.reduceAdd,Nat.reduceMul,Nat.reduceLeDiff,Nat.reduceLT,Nat.reduceEqDiff]
 refine use1 (wellFormed_ok s false hs) rfl (.inl rfl) ?_
 simp only [ZZ,WW,Ze,reduceCtorEq,Nat.reduceAdd,Nat.reduceMul,Nat.reduceLeDiff,Nat.reduceLT,Nat.reduceEqDiff]
 refine useG (fun _=>TrimSet_ok s [32] hs (by decide) (by decide)) rfl (.inl rfl) ?_
 simp only [ZZ,WW,Ze,reduceCtorEq,Nat.reduceAdd,Nat.reduceMul,Nat.reduceLeDiff,Nat.reduceLT,Nat.reduceEqDiff]
 refine useG (fun _=>Contains_ok s [32,32] hs) rfl (.inl rfl) ?_
 simp only [ZZ,WW,Ze,reduceCtorEq,Nat.reduceAdd,Nat.reduceMul,Nat.reduceLeDiff,Nat.reduceLT,Nat.reduceEqDiff]
 rw [plainB,trim_id]
 cases visE s false<;>cases Lib.hasPrefix s [32]<;>cases sufE s [32]<;>rfl
theorem nameOf_ok (s:List UInt8) (hs:s.length≤1000000000):PCall Tryz.prog E0 177 [.str s] (·=.bool (nameB s)):=by
 refine pcallF mixed Tryz.func177 ck_chaseref1_nameOf ?_
 simp only [a0,l0,OS.ao,List.map_cons,List.map_nil,List.length_cons,List.length_nil,List.cons_append,List.nil_append,Nat.reduceSub,Nat.reduceAdd,List.replicate_succ,List.replicate_zero,ir_chaseref1_nameOf,rs_chaseref1_nameOf,ZZ,WW,Ze,reduceCtorEq,Nat.reduceAdd,Nat.reduceMul,Nat.reduceLeDiff,Nat.reduceLT,Nat.reduceEqDiff]
 refine useG (fun _=>PlainOf_ok s (by omega)) rfl (.inl rfl) ?_
 simp only [ZZ,WW,Ze,reduceCtorEq,Nat.reduceAdd,Nat.reduceMul,Nat.reduceLeDiff,Nat.reduceLT,Nat.reduceEqDiff]
 refine useG (fun _=>ContainsAny_ok s nameS hs (by decide) (by decide)) rfl (.inl rfl) ?_
 simp only [ZZ,WW,Ze,reduceCtorEq,Nat.reduceAdd,Nat.reduceMul,Nat.reduceLeDiff,Nat.reduceLT,Nat.reduceEqDiff]
 ((repeat' (with_reducible apply And.intro))<;>try ((exact sc_)))
theorem AddressRight_ok (n m:List UInt8) (hn:n.length≤1000000000) (hm:m.length≤1000000000):PCall Tryz.prog E0 100 [.agg [.str n,.str m]] (·=.bool (nameB n && mailF m)):=by
 refine pcallF mixed Tryz.func100 ck_chaseref1_AddressRight ?_
 simp only [a0,l0,OS.ao,List.map_cons,List.map_nil,List.length_cons,List.length_nil,List.cons_append,List.nil_append,Nat.reduceSub,Nat.reduceAdd,List.replicate_succ,List.replicate_zero,ir_chaseref1_AddressRight,rs_chaseref1_AddressRight,ZZ,WW,Ze,reduceCtorEq,Nat.reduceAdd,Nat.reduceMul,Nat.reduceLeDiff,Nat.reduceLT,Nat.reduceEqDiff]
 refine use1 (nameOf_ok n hn) rfl (.inl rfl) ?_
 simp only [ZZ,WW,Ze,reduceCtorEq,Nat.reduceAdd,Nat.reduceMul,Nat.reduceLeDiff,Nat.reduceLT,Nat.reduceEqDiff]
 refine useG (fun _=>MailOf_ok m (by omega)) rfl (.inl rfl) ?_
 simp only [ZZ,WW,Ze,reduceCtorEq,Nat.reduceAdd,Nat.reduceMul,Nat.reduceLeDiff,Nat.reduceLT,Nat.reduceEqDiff]
def adT (n m:List UInt8):List UInt8:=if n=[] then m else n++[32,60]++m++[62]
theorem printed_ok {E:Envt} (n m:List UInt8) (hn:n.length≤1000000000) (hm:m.length≤1000000000):PCall Tryz.prog E 111 [.agg [.str n,.str m]] (·=.str (adT n m)):=by
 refine pcallF mixed Tryz.func111 ck_thread_printed ?_
 simp only [a0,l0,OS.ao,List.map_cons,List.map_nil,List.length_cons,List.length_nil,List.cons_append,List.nil_append,Nat.reduceSub,Nat.reduceAdd,List.replicate_succ,List.replicate_zero,ir_thread_printed,rs_thread_printed,ZZ,WW,Ze,reduceCtorEq,Nat.reduceAdd,Nat.reduceMul,Nat.reduceLeDiff,Nat.reduceLT,Nat.reduceEqDiff]
 rw [adT]
 refine br ?_ ?_
 ·intro h
  rw [if_pos (of_decide_eq_true h)]
  simp only [ZZ,WW,Ze,reduceCtorEq,Nat.reduceAdd,Nat.reduceMul,Nat.reduceLeDiff,Nat.reduceLT,Nat.reduceEqDiff]
 ·intro h
  rw [if_neg (of_decide_eq_false h)]
  simp only [ZZ,WW,Ze,reduceCtorEq,Nat.reduceAdd,Nat.reduceMul,Nat.reduceLeDiff,Nat.reduceLT,Nat.reduceEqDiff]
  exact ⟨by simp;omega,by simp;omega,by simp;omega⟩
theorem AddressText_ok {E:Envt} (n m:List UInt8) (hn:n.length≤1000000000) (hm:m.length≤1000000000):PCall Tryz.prog E 118 [.agg [.str n,.str m]] (·=.str (adT n m)):=by
 refine pcallF mixed Tryz.func118 ck_chaseref1_AddressText ?_
 simp only [a0,l0,OS.ao,List.map_cons,List.map_nil,List.length_cons,List.length_nil,List.cons_append,List.nil_append,Nat.reduceSub,Nat.reduceAdd,List.replicate_succ,List.replicate_zero,ir_chaseref1_AddressText,rs_chaseref1_AddressText,ZZ,WW,Ze,reduceCtorEq,Nat.reduceAdd,Nat.reduceMul,Nat.reduceLeDiff,Nat.reduceLT,Nat.reduceEqDiff]
 rw [adT]
 refine br ?_ ?_
 ·intro h
  rw [if_pos (of_decide_eq_true h)]
  simp only [ZZ,WW,Ze,reduceCtorEq,Nat.reduceAdd,Nat.reduceMul,Nat.reduceLeDiff,Nat.reduceLT,Nat.reduceEqDiff]
 ·intro h
  rw [if_neg (of_decide_eq_false h)]
  simp only [ZZ,WW,Ze,reduceCtorEq,Nat.reduceAdd,Nat.reduceMul,Nat.reduceLeDiff,Nat.reduceLT,Nat.reduceEqDiff]
  exact ⟨by simp;omega,by simp;omega,by simp;omega⟩
def ir_base_MessageId_L0:IC:=(.seq (.reg [qO 8 (.bin .lss (.t 7) (.t 6))]) (.seq (.cond (.t 8) .skip (.exit 0)) (.seq (.block 1 (.seq (.reg [qM 9 7,qM 3 9]) (.seq (.reg [qM 10 0,qM 11 3,qO 12 (.idx (.t 10) (.t 11)),qM 4 12]) (.seq (.reg [qM 13 4,qO 14 (.bin .lss (.t 13) (.c (.int .u8 33))),qM 15 14,⟨some 16,.mov (.t 4),(some (15,false))⟩,⟨some 17,.bin .gtr (.t 16) (.c (.int .u8 126)),(some (15,false))⟩,qO 18 (.pick (.t 15) (.c (.bool true)) (.t 17)),qM 19 18,⟨some 20,.mov (.t 4),(some (19,false))⟩,⟨some 21,.bin .eql (.t 20) (.c (.int .u8 60)),(some (19,false))⟩,qO 22 (.pick (.t 19) (.c (.bool true)) (.t 21)),qM 23 22,⟨some 24,.mov (.t 4),(some (23,false))⟩,⟨some 25,.bin .eql (.t 24) (.c (.int .u8 62)),(some (23,false))⟩,qO 26 (.pick (.t 23) (.c (.bool true)) (.t 25))]) (.cond (.t 26) (.seq (.reg [qO 2 (.mov (.c (.bool false)))]) .ret) .skip))))) (.reg [qO 27 (.bin .add (.t 7) (.c (.int .i64 1))),qM 7 27]))))
def ir_base_MessageId:IC:=(.seq (.reg [qO 2 (.mov (.c (.bool false)))]) (.seq (.seq (.reg [qM 5 0,qO 6 (.sln (.t 5)),qO 7 (.mov (.c (.int .i64 0)))]) (.block 0 (.loop ir_base_MessageId_L0))) (.seq (.reg [qM 28 0,qO 29 (.sln (.t 28)),qO 30 (.call 51 [.t 29,.c (.int .i64 1),.c (.int .i64 80)]),qM 2 30]) .ret)))
def rs_base_MessageId:List IRes:=[.t 2]
theorem ck_base_MessageId:chkF Tryz.prog Tryz.f182 ir_base_MessageId rs_base_MessageId 31=true:=by kernel_rfl
def ir_thread_isId:IC:=(.seq (.reg [qO 2 (.mov (.c (.bool false)))]) (.seq (.reg [qM 3 0,qO 4 (.call 182 [.t 3]),qM 2 4]) .ret))
def rs_thread_isId:List IRes:=[.t 2]
theorem ck_thread_isId:chkF Tryz.prog Tryz.f105 ir_thread_isId rs_thread_isId 5=true:=by kernel_rfl
def ir_chaseref1_messageId_L0:IC:=(.seq (.seq (.reg [qM 4 3,qM 5 0,qO 6 (.sln (.t 5)),qO 7 (.bin .lss (.t 4) (.t 6))]) (.cond (.t 7) .skip (.exit 0))) (.seq (.block 1 (.seq (.reg [qM 10 0,qM 11 3,qO 12 (.idx (.t 10) (.t 11)),qO 13 (.bin .lss (.t 12) (.c (.int .u8 33))),qM 14 13,⟨some 15,.mov (.t 0),(some (14,false))⟩,⟨some 16,.mov (.t 3),(some (14,false))⟩,⟨some 17,.idx (.t 15) (.t 16),(some (14,false))⟩,⟨some 18,.bin .gtr (.t 17) (.c (.int .u8 126)),(some (14,false))⟩,qO 19 (.pick (.t 14) (.c (.bool true)) (.t 18)),qM 20 19,⟨some 21,.mov (.t 0),(some (20,false))⟩,⟨some 22,.mov (.t 3),(some (20,false))⟩,⟨some 23,.idx (.t 21) (.t 22),(some (20,false))⟩,⟨some 24,.bin .eql (.t 23) (.c (.int .u8 60)),(some (20,false))⟩,qO 25 (.pick (.t 20) (.c (.bool true)) (.t 24)),qM 26 25,⟨some 27,.mov (.t 0),(some (26,false))⟩,⟨some 28,.mov (.t 3),(some (26,false))⟩,⟨some 29,.idx (.t 27) (.t 28),(some (26,false))⟩,⟨some 30,.bin .eql (.t 29) (.c (.int .u8 62)),(some (26,false))⟩,qO 31 (.pick (.t 26) (.c (.bool true)) (.t 30))]) (.cond (.t 31) (.seq (.reg [qO 2 (.mov (.c (.bool false)))]) .ret) .skip))) (.reg [qM 8 3,qO 9 (.bin .add (.t 8) (.c (.int .i64 1))),qM 3 9])))
def ir_chaseref1_messageId:IC:=(.seq (.reg [qO 2 (.mov (.c (.bool false)))]) (.seq (.seq (.reg [qO 3 (.mov (.c (.int .i64 0)))]) (.block 0 (.loop ir_chaseref1_messageId_L0))) (.seq (.reg [qM 32 0,qO 33 (.sln (.t 32)),qO 34 (.bin .geq (.t 33) (.c (.int .i64 1))),qM 35 34,⟨some 36,.mov (.t 0),(some (35,true))⟩,⟨some 37,.sln (.t 36),(some (35,true))⟩,⟨some 38,.bin .leq (.t 37) (.c (.int .i64 80)),(some (35,true))⟩,qO 39 (.pick (.t 35) (.t 38) (.c (.bool false))),qM 2 39]) .ret)))
def rs_chaseref1_messageId:List IRes:=[.t 2]
theorem ck_chaseref1_messageId:chkF Tryz.prog Tryz.f98 ir_chaseref1_messageId rs_chaseref1_messageId 40=true:=by kernel_rfl
def idC (c:UInt8):Bool:=!(((decide ((c.toNat:Int) < 33) || decide (126 < (c.toNat:Int))) || decide ((c.toNat:Int)=60)) || decide ((c.toNat:Int)=62))
def idB (s:List UInt8):Bool:=s.all idC && inE s.length 1 80
section
variable {E:Envt}
theorem MessageId_ok (s:List UInt8) (hs:s.length≤1000000000):PCall Tryz.prog E 182 [.str s] (·=.bool (idB s)):=by
 refine pcallF mixed Tryz.func182 ck_base_MessageId ?_
 simp only [a0,l0,OS.ao,List.map_cons,List.map_nil,List.length_cons,List.length_nil,List.cons_append,List.nil_append,Nat.reduceSub,Nat.reduceAdd,List.replicate_succ,List.replicate_zero,ir_base_MessageId,rs_base_MessageId,ZZ,WW,Ze,reduceCtorEq,Nat.reduceAdd,Nat.reduceMul,Nat.reduceLeDiff,Nat.reduceLT,Nat.reduceEqDiff]
 refine loop_intro (fun n fr L=>∃ (k:Nat),k≤s.length∧n=s.length - k∧((s.take k).all idC=true)∧fr=[.p (.str s),oo,oo,oo,oo,oo,.p (int (s.length:Nat)),.p (int (k:Nat)),oo,oo,oo,oo,oo,oo,oo,oo,oo,oo,oo,oo,oo,oo,oo,oo,oo,oo,oo,oo,oo,oo,oo]∧L=[]) (s.length) [.p (.str s),oo,oo,oo,oo,oo,.p (int (s.length:Nat)),.p (int (0:Nat)),oo,oo,oo,oo,oo,oo,oo,oo,oo,oo,oo,oo,oo,oo,oo,oo,oo,oo,oo,oo,oo,oo,oo] [] (by (simp only [ZZ,WW,Ze,reduceCtorEq,Nat.reduceAdd,Nat.reduceMul,Nat.reduceLeDiff,Nat.reduceLT,Nat.reduceEqDiff];try trivial)) (by (simp only [ZZ,WW,Ze,reduceCtorEq,Nat.reduceAdd,Nat.reduceMul,Nat.reduceLeDiff,Nat.reduceLT,Nat.reduceEqDiff];try trivial)) ⟨0,by omega,by omega,by simp,rfl,rfl⟩ ?_
 rintro n fr L ⟨k,hk,rfl,ha,rfl,rfl⟩
 simp only [ir_base_MessageId_L0,ZZ,WW,Ze,reduceCtorEq,Nat.reduceAdd,Nat.reduceMul,Nat.reduceLeDiff,Nat.reduceLT,Nat.reduceEqDiff]
 refine br ?_ ?_
 ·intro h
  have hlt:k < s.length:=by have:=of_decide_eq_true h;omega
  obtain ⟨c,hc⟩:∃ c,s[k]?=some c:=⟨_,List.getElem?_eq_getElem hlt⟩
  have hg:s.getD k 0=c:=by simp [List.getD,hc]
  simp only [ZZ,WW,Ze,reduceCtorEq,Nat.reduceAdd,Nat.reduceMul,Nat.reduceLeDiff,Nat.reduceLT,Nat.reduceEqDiff,hg]
  ((repeat' (with_reducible apply And.intro))<;>try ((exact sc_)))
  refine br ?_ ?_
  ·intro hx
   have hf:idC c=false:=by unfold idC;rw [hx];rfl
   simp only [ZZ,WW,Ze,reduceCtorEq,Nat.reduceAdd,Nat.reduceMul,Nat.reduceLeDiff,Nat.reduceLT,Nat.reduceEqDiff]
   rw [idB,all_false hc hf]
   rfl
  ·intro hx
   have hf:idC c=true:=by unfold idC;rw [hx];rfl
   simp only [ZZ,WW,Ze,reduceCtorEq,Nat.reduceAdd,Nat.reduceMul,Nat.reduceLeDiff,Nat.reduceLT,Nat.reduceEqDiff]
   refine ⟨i64_of (by omega) (by omega),?_⟩
   refine end_round (s.length - (k+1)) [.p (.str s),oo,oo,oo,oo,oo,.p (int (s.length:Nat)),.p (int ((k+1):Nat)),oo,oo,oo,oo,oo,oo,oo,oo,oo,oo,oo,oo,oo,oo,oo,oo,oo,oo,oo,oo,oo,oo,oo] [] (by omega) (by (simp only [ZZ,WW,Ze,reduceCtorEq,Nat.reduceAdd,Nat.reduceMul,Nat.reduceLeDiff,Nat.reduceLT,Nat.reduceEqDiff];try trivial)) (by (simp only [ZZ,WW,Ze,reduceCtorEq,Nat.reduceAdd,Nat.reduceMul,Nat.reduceLeDiff,Nat.reduceLT,Nat.reduceEqDiff];try trivial)) ⟨k+1,by omega,rfl,by rw [all_snoc hc,ha,hf];rfl,rfl,rfl⟩
 ·intro h
  have hge:k=s.length:=by have:=of_decide_eq_false h;omega
  subst hge
  rw [List.take_length] at ha
  simp only [ZZ,WW,Ze,reduceCtorEq,Nat.reduceAdd,Nat.reduceMul,Nat.reduceLeDiff,Nat.reduceLT,Nat.reduceEqDiff]
  refine use1 (In_ok _ _ _) rfl (.inl rfl) ?_
  simp only [ZZ,WW,Ze,reduceCtorEq,Nat.reduceAdd,Nat.reduceMul,Nat.reduceLeDiff,Nat.reduceLT,Nat.reduceEqDiff]
  rw [idB,ha]
  rfl
theorem messageIdR_ok (s:List UInt8) (hs:s.length≤1000000000):PCall Tryz.prog E 98 [.str s] (·=.bool (idB s)):=by
 refine pcallF mixed Tryz.func98 ck_chaseref1_messageId ?_
 simp only [a0,l0,OS.ao,List.map_cons,List.map_nil,List.length_cons,List.length_nil,List.cons_append,List.nil_append,Nat.reduceSub,Nat.reduceAdd,List.replicate_succ,List.replicate_zero,ir_chaseref1_messageId,rs_chaseref1_messageId,ZZ,WW,Ze,reduceCtorEq,Nat.reduceAdd,Nat.reduceMul,Nat.reduceLeDiff,Nat.reduceLT,Nat.reduceEqDiff]
 refine loop_intro (fun n fr L=>∃ (k:Nat),k≤s.length∧n=s.length - k∧((s.take k).all idC=true)∧fr=[.p (.str s),oo,oo,.p (int (k:Nat)),oo,oo,oo,oo,oo,oo,oo,oo,oo,oo,oo,oo,oo,oo,oo,oo,oo,oo,oo,oo,oo,oo,oo,oo,oo,oo,oo,oo,oo,oo,oo,oo,oo,oo,oo,oo]∧L=[]) (s.length) [.p (.str s),oo,oo,.p (int (0:Nat)),oo,oo,oo,oo,oo,oo,oo,oo,oo,oo,oo,oo,oo,oo,oo,oo,oo,oo,oo,oo,oo,oo,oo,oo,oo,oo,oo,oo,oo,oo,oo,oo,oo,oo,oo,oo] [] (by (simp only [ZZ,WW,Ze,reduceCtorEq,Nat.reduceAdd,Nat.reduceMul,Nat.reduceLeDiff,Nat.reduceLT,Nat.reduceEqDiff];try trivial)) (by (simp only [ZZ,WW,Ze,reduceCtorEq,Nat.reduceAdd,Nat.reduceMul,Nat.reduceLeDiff,Nat.reduceLT,Nat.reduceEqDiff];try trivial)) ⟨0,by omega,by omega,by simp,rfl,rfl⟩ ?_
 rintro n fr L ⟨k,hk,rfl,ha,rfl,rfl⟩
 simp only [ir_chaseref1_messageId_L0,ZZ,WW,Ze,reduceCtorEq,Nat.reduceAdd,Nat.reduceMul,Nat.reduceLeDiff,Nat.reduceLT,Nat.reduceEqDiff]
 refine br ?_ ?_
 ·intro h
  have hlt:k < s.length:=by have:=of_decide_eq_true h;omega
  obtain ⟨c,hc⟩:∃ c,s[k]?=some c:=⟨_,List.getElem?_eq_getElem hlt⟩
  have hg:s.getD k 0=c:=by simp [List.getD,hc]
  simp only [ZZ,WW,Ze,reduceCtorEq,Nat.reduceAdd,Nat.reduceMul,Nat.reduceLeDiff,Nat.reduceLT,Nat.reduceEqDiff,hg]
  ((repeat' (with_reducible apply And.intro))<;>try ((exact sc_)))
  refine br ?_ ?_
  ·intro hx
   have hf:idC c=false:=by unfold idC;rw [hx];rfl
   simp only [ZZ,WW,Ze,reduceCtorEq,Nat.reduceAdd,Nat.reduceMul,Nat.reduceLeDiff,Nat.reduceLT,Nat.reduceEqDiff]
   rw [idB,all_false hc hf]
   rfl
  ·intro hx
   have hf:idC c=true:=by unfold idC;rw [hx];rfl
   simp only [ZZ,WW,Ze,reduceCtorEq,Nat.reduceAdd,Nat.reduceMul,Nat.reduceLeDiff,Nat.reduceLT,Nat.reduceEqDiff]
   refine ⟨i64_of (by omega) (by omega),?_⟩
   refine end_round (s.length - (k+1)) [.p (.str s),oo,oo,.p (int ((k+1):Nat)),oo,oo,oo,oo,oo,oo,oo,oo,oo,oo,oo,oo,oo,oo,oo,oo,oo,oo,oo,oo,oo,oo,oo,oo,oo,oo,oo,oo,oo,oo,oo,oo,oo,oo,oo,oo] [] (by omega) (by (simp only [ZZ,WW,Ze,reduceCtorEq,Nat.reduceAdd,Nat.reduceMul,Nat.reduceLeDiff,Nat.reduceLT,Nat.reduceEqDiff];try trivial)) (by (simp only [ZZ,WW,Ze,reduceCtorEq,Nat.reduceAdd,Nat.reduceMul,Nat.reduceLeDiff,Nat.reduceLT,Nat.reduceEqDiff];try trivial)) ⟨k+1,by omega,rfl,by rw [all_snoc hc,ha,hf];rfl,rfl,rfl⟩
 ·intro h
  have hge:k=s.length:=by have:=of_decide_eq_false h;omega
  subst hge
  rw [List.take_length] at ha
  simp only [ZZ,WW,Ze,reduceCtorEq,Nat.reduceAdd,Nat.reduceMul,Nat.reduceLeDiff,Nat.reduceLT,Nat.reduceEqDiff]
  rw [idB,ha]
  rfl
theorem isId_ok (s:List UInt8) (hs:s.length≤1000000000):PCall Tryz.prog E 105 [.str s] (·=.bool (idB s)):=by
 refine pcallF mixed Tryz.func105 ck_thread_isId ?_
 simp only [a0,l0,OS.ao,List.map_cons,List.map_nil,List.length_cons,List.length_nil,List.cons_append,List.nil_append,Nat.reduceSub,Nat.reduceAdd,List.replicate_succ,List.replicate_zero,ir_thread_isId,rs_thread_isId,ZZ,WW,Ze,reduceCtorEq,Nat.reduceAdd,Nat.reduceMul,Nat.reduceLeDiff,Nat.reduceLT,Nat.reduceEqDiff]
 refine use1 (MessageId_ok s hs) rfl (.inl rfl) ?_
 simp only [ZZ,WW,Ze,reduceCtorEq,Nat.reduceAdd,Nat.reduceMul,Nat.reduceLeDiff,Nat.reduceLT,Nat.reduceEqDiff]
end
structure Ltr where
 id:List UInt8
 at_:Int
 fr:AdT
 tos:List AdT
 ccs:List AdT
 refs:List (List UInt8)
 sub:List UInt8
 body:List UInt8
def ltV (m:Ltr):List PV:=[.str m.id,int m.at_,.str m.fr.1,.str m.fr.2,.sl 2 (adrE m.tos),.sl 2 (adrE m.ccs),.sl 1 (strE m.refs),.str m.sub,.str m.body]
def adB (a:AdT):Bool:=nameB a.1 && mailF a.2
def adF1 (l:List AdT) (k:Nat):Int:=firstE [whenE (!adB (l.getD k ([],[]))) 3,whenE ((l.take k).any (fun p=>decide (p.2=(l.getD k ([],[])).2))) 6]
def adsErr (l:List AdT):Int:=firstE ((List.range l.length).map (adF1 l))
def refF1 (id:List UInt8) (l:List (List UInt8)) (k:Nat):Int:=firstE [whenE (!idB (l.getD k [])) 3,whenE (decide (l.getD k []∈l.take k)) 6,whenE (decide (l.getD k []=id)) 14]
def refsErr (id:List UInt8) (l:List (List UInt8)):Int:=firstE ((List.range l.length).map (refF1 id l))
def subErr (s:List UInt8):Int:=whenE (decide (200 < (s.length:Int)) || !plainB s) 3
def tailF (m:Ltr):Int:=if 50 < (m.refs.length:Int) then 2 else firstE [refsErr m.id m.refs,subErr m.sub,bodyE m.body]
def letF (m:Ltr):Int:=
 if idB m.id=false then 3 else if inE m.at_ 0 5761439=false then 1 else if adB m.fr=false then 3 else
 if 100 < (m.tos.length:Int)+m.ccs.length then 2 else firstE [adsErr (m.tos++m.ccs),tailF m]
def LtB (m:Ltr):Prop:=m.id.length≤1000000∧m.fr.1.length≤1000000∧m.fr.2.length≤1000000∧m.tos.length≤100000∧(∀ a∈m.tos,a.1.length≤1000000∧a.2.length≤1000000)∧m.ccs.length≤100000∧(∀ a∈m.ccs,a.1.length≤1000000∧a.2.length≤1000000)∧m.refs.length≤1000000∧(∀ r∈m.refs,r.length≤1000000)∧m.sub.length≤1000000∧m.body.length≤1000000
theorem firstE_cons (e:Int) (r:List Int):firstE (e :: r)=if e=0 then firstE r else e:=rfl
theorem firstE_nil:firstE []=0:=rfl
def ptsOf (m:Ltr):List (List UInt8):=m.fr.2 :: (m.tos++m.ccs).map (·.2)
theorem any_mem {α:Type} (l:List α) (f:α→List UInt8) (s:List UInt8):decide (s∈l.map f)=l.any (fun p=>decide (f p=s)):=by
 rw [Bool.eq_iff_iff,decide_eq_true_iff,List.any_eq_true,List.mem_map]
 simp
theorem tab_getI {n:Nat} (f:Nat→Int) {k:Nat} (h:k < n):((List.range n).map f)[k]?=some (f k):=by simp [h]
theorem map_take_succ {α β:Type} {l:List α} {k:Nat} {x:α} (f:α→β) (h:l[k]?=some x):(l.take (k+1)).map f=(l.take k).map f++[f x]:=by
 obtain ⟨hk,hx⟩:=List.getElem?_eq_some_iff.1 h
 rw [List.take_succ_eq_append_getElem hk,List.map_append,hx]
 rfl
def ir_slices_Grow_api_Address_api_Address:IC:=(.seq (.reg [qO 4 (.mov (.c (.nl 2)))]) (.seq (.seq (.reg [qM 5 1,qO 6 (.bin .lss (.t 5) (.c (.int .i64 0)))]) (.cond (.t 6) (.reg [qO 7 (.dead),⟨none,.dead,none⟩]) .skip)) (.cut (.seq (.seq (.reg [qM 8 1,qM 9 0,qO 10 (.cap0 (.t 9)),qM 11 0,qO 12 (.len (.t 11)),qO 13 (.bin .sub (.t 10) (.t 12)),qO 14 (.bin .sub (.t 8) (.t 13)),qM 1 14]) (.seq (.reg [qM 15 1,qO 16 (.bin .gtr (.t 15) (.c (.int .i64 0)))]) (.cond (.t 16) (.reg [qM 17 0,qM 18 0,qO 19 (.cap0 (.t 18)),qO 20 (.vsn (.t 17) (.t 19)),qM 21 1,qO 22 (.apz 56 2 32 [.str [],.str []] (.t 20) (.t 21)),qM 23 0,qO 24 (.len (.t 23)),qO 25 (.trn 2 (.t 22) (.t 24)),qM 0 25]) .skip))) (.cut (.seq (.reg [qM 26 0,qM 4 26]) .ret))))))
def rs_slices_Grow_api_Address_api_Address:List IRes:=[.t 4]
theorem ck_slices_Grow_api_Address_api_Address:chkF Tryz.prog Tryz.f179 ir_slices_Grow_api_Address_api_Address rs_slices_Grow_api_Address_api_Address 27=true:=by kernel_rfl
def ir_slices_Concat_api_Address_api_Address_L1:IC:=(.seq (.reg [qO 28 (.bin .lss (.t 27) (.t 26))]) (.seq (.cond (.t 28) .skip (.exit 2)) (.seq (.block 3 (.seq (.reg [qO 29 (.ixa 1 (.t 25) (.t 27)),qO 30 (.ld 1 false (.t 29)),qM 8 30]) (.reg [qM 31 6,qM 32 8,qO 33 (.app 56 2 32 (.t 31) (.t 32)),qM 6 33]))) (.reg [qO 34 (.bin .add (.t 27) (.c (.int .i64 1))),qM 27 34]))))
def ir_slices_Concat_api_Address_api_Address_L0:IC:=(.seq (.reg [qO 12 (.bin .lss (.t 11) (.t 10))]) (.seq (.cond (.t 12) .skip (.exit 0)) (.seq (.block 1 (.seq (.reg [qO 13 (.ixa 1 (.t 9) (.t 11)),qO 14 (.ld 1 false (.t 13)),qM 5 14]) (.seq (.reg [qM 15 3,qM 16 5,qO 17 (.len (.t 16)),qO 18 (.bin .add (.t 15) (.t 17)),qM 3 18]) (.seq (.reg [qM 19 3,qO 20 (.bin .lss (.t 19) (.c (.int .i64 0)))]) (.cond (.t 20) (.reg [qO 21 (.dead),⟨none,.dead,none⟩]) .skip))))) (.cut (.reg [qO 22 (.bin .add (.t 11) (.c (.int .i64 1))),qM 11 22])))))
def ir_slices_Concat_api_Address_api_Address:IC:=(.seq (.reg [qO 2 (.mov (.c (.nl 2)))]) (.seq (.reg [qO 3 (.mov (.c (.int .i64 0)))]) (.seq (.seq (.reg [qM 9 0,qO 10 (.len (.t 9)),qO 11 (.mov (.c (.int .i64 0)))]) (.block 0 (.loop ir_slices_Concat_api_Address_api_Address_L0))) (.seq (.reg [qM 23 3,qO 24 (.call 179 [.c (.nl 2),.t 23]),qM 6 24]) (.seq (.seq (.reg [qM 25 0,qO 26 (.len (.t 25)),qO 27 (.mov (.c (.int .i64 0)))]) (.block 2 (.loop ir_slices_Concat_api_Address_api_Address_L1))) (.seq (.reg [qM 35 6,qM 2 35]) .ret))))))
def rs_slices_Concat_api_Address_api_Address:List IRes:=[.t 2]
theorem ck_slices_Concat_api_Address_api_Address:chkF Tryz.prog Tryz.f101 ir_slices_Concat_api_Address_api_Address rs_slices_Concat_api_Address_api_Address 36=true:=by kernel_rfl
abbrev tAdr:Nat:=56
section
variable {E:Envt}
theorem GrowA_ok (n:Nat) (hn:n≤1000000000):FCall Tryz.prog E 179 [.nl 2,int n] tAdr 2 (·=[]):=by
 unfold FCall
 refine gcallR mixed Tryz.func179 ck_slices_Grow_api_Address_api_Address ?_
 simp only [a0,l0,OS.ao,List.map_cons,List.map_nil,List.length_cons,List.length_nil,List.cons_append,List.nil_append,Nat.reduceSub,Nat.reduceAdd,List.replicate_succ,List.replicate_zero,ir_slices_Grow_api_Address_api_Address,rs_slices_Grow_api_Address_api_Address,ZZ,WW,Ze,reduceCtorEq,Nat.reduceAdd,Nat.reduceMul,Nat.reduceLeDiff,Nat.reduceLT,Nat.reduceEqDiff]
 refine br ?_ ?_
 ·intro h
  have:=of_decide_eq_true h
  omega
 ·intro h
  simp only [ZZ,WW,Ze,reduceCtorEq,Nat.reduceAdd,Nat.reduceMul,Nat.reduceLeDiff,Nat.reduceLT,Nat.reduceEqDiff]
  refine cut_same zE_ ?_
  simp only [ZZ,WW,Ze,reduceCtorEq,Nat.reduceAdd,Nat.reduceMul,Nat.reduceLeDiff,Nat.reduceLT,Nat.reduceEqDiff]
  ((repeat' (with_reducible apply And.intro))<;>try ((exact sc_)))
  refine br ?_ ?_
  ·intro h2
   have h2:=of_decide_eq_true h2
   simp only [ZZ,WW,Ze,reduceCtorEq,Nat.reduceAdd,Nat.reduceMul,Nat.reduceLeDiff,Nat.reduceLT,Nat.reduceEqDiff]
   ((repeat' (with_reducible apply And.intro))<;>try ((exact sc_)))
   refine cut_same zE_ ?_
   simp only [ZZ,WW,Ze,reduceCtorEq,Nat.reduceAdd,Nat.reduceMul,Nat.reduceLeDiff,Nat.reduceLT,Nat.reduceEqDiff]
   exact fin_F 22 [] rfl rfl rfl
  ·intro h2
   simp only [ZZ,WW,Ze,reduceCtorEq,Nat.reduceAdd,Nat.reduceMul,Nat.reduceLeDiff,Nat.reduceLT,Nat.reduceEqDiff]
   refine cut_same zE_ ?_
   simp only [ZZ,WW,Ze,reduceCtorEq,Nat.reduceAdd,Nat.reduceMul,Nat.reduceLeDiff,Nat.reduceLT,Nat.reduceEqDiff]
   exact fin_Fn rfl rfl
def lenSA (ls:List (List AdT)):Nat:=(ls.map List.length).sum
theorem lenSA_take {ls:List (List AdT)} {k:Nat} {x:List AdT} (h:ls[k]?=some x):lenSA (ls.take (k+1))=lenSA (ls.take k)+x.length:=by
 obtain ⟨hk,hx⟩:=List.getElem?_eq_some_iff.1 h
 unfold lenSA
 rw [List.take_succ_eq_append_getElem hk,List.map_append,List.sum_append,hx]
 simp
theorem flat_takeA {ls:List (List AdT)} {k:Nat} {x:List AdT} (h:ls[k]?=some x):(ls.take (k+1)).flatten=(ls.take k).flatten++x:=by
 obtain ⟨hk,hx⟩:=List.getElem?_eq_some_iff.1 h
 rw [List.take_succ_eq_append_getElem hk,List.flatten_append,hx]
 simp
theorem lenSA_le (ls:List (List AdT)) (k:Nat):lenSA (ls.take k)≤lenSA ls:=by
 unfold lenSA
 conv=>rhs;rw [← List.take_append_drop k ls,List.map_append,List.sum_append]
 omega
theorem flat_lenA (ls:List (List AdT)):ls.flatten.length=lenSA ls:=by simp [lenSA,List.length_flatten]
theorem ConcatA_ok (ls:List (List AdT)) (hn:ls.length≤1000000) (hs:lenSA ls≤1000000000):FCall Tryz.prog E 101 [.sl 1 (ls.map fun l=>[PV.sl 2 (adrE l)])] tAdr 2 (·=ls.flatten.map adC):=by
 unfold FCall
 refine gcallR mixed Tryz.func101 ck_slices_Concat_api_Address_api_Address ?_
 simp only [a0,l0,OS.ao,List.map_cons,List.map_nil,List.length_cons,List.length_nil,List.cons_append,List.nil_append,Nat.reduceSub,Nat.reduceAdd,List.replicate_succ,List.replicate_zero,ir_slices_Concat_api_Address_api_Address,rs_slices_Concat_api_Address_api_Address,ZZ,WW,Ze,reduceCtorEq,Nat.reduceAdd,Nat.reduceMul,Nat.reduceLeDiff,Nat.reduceLT,Nat.reduceEqDiff]
 have hln:(ls.map fun l=>[PV.sl 2 (adrE l)]).length=ls.length:=by simp
 have hget:∀ k s,ls[k]?=some s→(ls.map fun l=>[PV.sl 2 (adrE l)]).getD k []=[.sl 2 (adrE s)]:=fun k s hs=>getD_map hs
 generalize (ls.map fun l=>[PV.sl 2 (adrE l)])=es at hln hget ⊢
 simp only [hln]
 refine loop_intro (fun n fr L=>∃ (k:Nat),k≤ls.length∧n=ls.length - k∧fr=[.p (.sl 1 es),oo,.p (.nl 2),.p (int (lenSA (ls.take k):Nat)),oo,oo,oo,oo,oo,.p (.sl 1 es),.p (int (ls.length:Nat)),.p (int (k:Nat)),oo,oo,oo,oo,oo,oo,oo,oo,oo,oo,oo,oo,oo,oo,oo,oo,oo,oo,oo,oo,oo,oo,oo,oo]∧L=[]) ls.length [.p (.sl 1 es),oo,.p (.nl 2),.p (int (0:Nat)),oo,oo,oo,oo,oo,.p (.sl 1 es),.p (int (ls.length:Nat)),.p (int (0:Nat)),oo,oo,oo,oo,oo,oo,oo,oo,oo,oo,oo,oo,oo,oo,oo,oo,oo,oo,oo,oo,oo,oo,oo,oo] [] (by (simp only [ZZ,WW,Ze,reduceCtorEq,Nat.reduceAdd,Nat.reduceMul,Nat.reduceLeDiff,Nat.reduceLT,Nat.reduceEqDiff];try trivial)) zE_ ⟨0,by omega,by omega,rfl,rfl⟩ ?_
 rintro n fr L ⟨k,hk,rfl,rfl,rfl⟩
 simp only [ir_slices_Concat_api_Address_api_Address_L0,ZZ,WW,Ze,reduceCtorEq,Nat.reduceAdd,Nat.reduceMul,Nat.reduceLeDiff,Nat.reduceLT,Nat.reduceEqDiff]
 have hle:=lenSA_le ls k
 refine br ?_ ?_
 ·intro h
  have hlt:k < ls.length:=by have:=of_decide_eq_true h;omega
  obtain ⟨s,hs⟩:∃ x,ls[k]?=some x:=⟨_,List.getElem?_eq_getElem hlt⟩
  have hg:=hget k s hs
  have hnx:=lenSA_take hs
  have hle':=lenSA_le ls (k+1)
  simp only [ZZ,WW,Ze,reduceCtorEq,Nat.reduceAdd,Nat.reduceMul,Nat.reduceLeDiff,Nat.reduceLT,Nat.reduceEqDiff,hg,adrE_len,hln]
  ((repeat' (with_reducible apply And.intro))<;>try ((exact sc_)))
  refine br ?_ ?_
  ·intro h2
   have:=of_decide_eq_true h2
   omega
  ·intro h2
   simp only [ZZ,WW,Ze,reduceCtorEq,Nat.reduceAdd,Nat.reduceMul,Nat.reduceLeDiff,Nat.reduceLT,Nat.reduceEqDiff]
   refine cut_same zE_ ?_
   simp only [ZZ,WW,Ze,reduceCtorEq,Nat.reduceAdd,Nat.reduceMul,Nat.reduceLeDiff,Nat.reduceLT,Nat.reduceEqDiff]
   refine ⟨i64_of (by omega) (by omega),?_⟩
   refine end_round (ls.length - (k+1)) [.p (.sl 1 es),oo,.p (.nl 2),.p (int (lenSA (ls.take (k+1)):Nat)),oo,oo,oo,oo,oo,.p (.sl 1 es),.p (int (ls.length:Nat)),.p (int ((k+1:Nat):Nat)),oo,oo,oo,oo,oo,oo,oo,oo,oo,oo,oo,oo,oo,oo,oo,oo,oo,oo,oo,oo,oo,oo,oo,oo] [] (by omega) (by rw [hnx];simp only [Int.natCast_add,ZZ,WW,Ze,reduceCtorEq,Nat.reduceAdd,Nat.reduceMul,Nat.reduceLeDiff,Nat.reduceLT,Nat.reduceEqDiff];try trivial) zE_ ⟨k+1,by omega,rfl,rfl,rfl⟩
 ·intro h
  have hge:k=ls.length:=by have:=of_decide_eq_false h;omega
  subst hge
  rw [List.take_length]
  simp only [ZZ,WW,Ze,reduceCtorEq,Nat.reduceAdd,Nat.reduceMul,Nat.reduceLeDiff,Nat.reduceLT,Nat.reduceEqDiff]
  refine useF0 (GrowA_ok (lenSA ls) hs) rfl ?_
  rintro es' rfl
  simp only [ZZ,WW,Ze,reduceCtorEq,Nat.reduceAdd,Nat.reduceMul,Nat.reduceLeDiff,Nat.reduceLT,Nat.reduceEqDiff,hln]
  refine loop_intro (fun n fr L=>∃ (k:Nat),k≤ls.length∧n=ls.length - k∧fr=[.p (.sl 1 es),oo,.p (.nl 2),oo,oo,oo,.row (.l 24),oo,oo,oo,oo,oo,oo,oo,oo,oo,oo,oo,oo,oo,oo,oo,oo,oo,oo,.p (.sl 1 es),.p (int (ls.length:Nat)),.p (int (k:Nat)),oo,oo,oo,oo,oo,oo,oo,oo]∧L=[(.l 24,.row ((ls.take k).flatten.map adC) tAdr 2 true)]) ls.length [.p (.sl 1 es),oo,.p (.nl 2),oo,oo,oo,.row (.l 24),oo,oo,oo,oo,oo,oo,oo,oo,oo,oo,oo,oo,oo,oo,oo,oo,oo,oo,.p (.sl 1 es),.p (int (ls.length:Nat)),.p (int (0:Nat)),oo,oo,oo,oo,oo,oo,oo,oo] [(.l 24,.row [] tAdr 2 true)] (by (simp only [ZZ,WW,Ze,reduceCtorEq,Nat.reduceAdd,Nat.reduceMul,Nat.reduceLeDiff,Nat.reduceLT,Nat.reduceEqDiff];try trivial)) zE_ ⟨0,by omega,by omega,rfl,rfl⟩ ?_
  rintro n fr L ⟨k,hk,rfl,rfl,rfl⟩
  simp only [ir_slices_Concat_api_Address_api_Address_L1,ZZ,WW,Ze,reduceCtorEq,Nat.reduceAdd,Nat.reduceMul,Nat.reduceLeDiff,Nat.reduceLT,Nat.reduceEqDiff]
  have hle:=lenSA_le ls k
  refine br ?_ ?_
  ·intro h
   have hlt:k < ls.length:=by have:=of_decide_eq_true h;omega
   obtain ⟨s,hs⟩:∃ x,ls[k]?=some x:=⟨_,List.getElem?_eq_getElem hlt⟩
   have hg:=hget k s hs
   have hnx:=lenSA_take hs
   have hfx:=flat_takeA hs
   have hle':=lenSA_le ls (k+1)
   have hfl:((ls.take k).flatten.map adC).length=lenSA (ls.take k):=by rw [List.length_map,flat_lenA]
   simp only [ZZ,WW,Ze,reduceCtorEq,Nat.reduceAdd,Nat.reduceMul,Nat.reduceLeDiff,Nat.reduceLT,Nat.reduceEqDiff,hg,hln,adrE_len]
   simp only [hfl,List.length_map]
   ((repeat' (with_reducible apply And.intro))<;>try ((exact sc_)))
   refine end_round (ls.length - (k+1)) [.p (.sl 1 es),oo,.p (.nl 2),oo,oo,oo,.row (.l 24),oo,oo,oo,oo,oo,oo,oo,oo,oo,oo,oo,oo,oo,oo,oo,oo,oo,oo,.p (.sl 1 es),.p (int (ls.length:Nat)),.p (int ((k+1:Nat):Nat)),oo,oo,oo,oo,oo,oo,oo,oo] [(.l 24,.row ((ls.take (k+1)).flatten.map adC) tAdr 2 true)] (by omega) (by (simp only [ZZ,WW,Ze,reduceCtorEq,Nat.reduceAdd,Nat.reduceMul,Nat.reduceLeDiff,Nat.reduceLT,Nat.reduceEqDiff];try trivial)) (by rw [hfx,List.map_append];simp only [ZZ,WW,Ze,reduceCtorEq,Nat.reduceAdd,Nat.reduceMul,Nat.reduceLeDiff,Nat.reduceLT,Nat.reduceEqDiff,adrE]) ⟨k+1,by omega,rfl,rfl,rfl⟩
  ·intro h
   have hge:k=ls.length:=by have:=of_decide_eq_false h;omega
   subst hge
   rw [List.take_length]
   simp only [ZZ,WW,Ze,reduceCtorEq,Nat.reduceAdd,Nat.reduceMul,Nat.reduceLeDiff,Nat.reduceLT,Nat.reduceEqDiff]
   exact fin_F 24 _ rfl rfl rfl
end
def ir_thread_checkBody:IC:=(.seq (.reg [qO 2 (.mov (.c (.int .i64 0)))]) (.seq (.reg [qM 3 0,qO 4 (.sln (.t 3)),qO 5 (.bin .gtr (.t 4) (.c (.int .i64 20000))),qO 6 (.call 50 [.t 5,.c (.int .i64 2)]),qM 7 0,qO 8 (.call 186 [.t 7]),qO 9 (.not (.t 8)),qO 10 (.call 50 [.t 9,.c (.int .i64 3)]),qO 11 (.bsl 1 [.t 6,.t 10]),qO 12 (.call 49 [.t 11]),qM 2 12]) .ret))
def rs_thread_checkBody:List IRes:=[.t 2]
theorem ck_thread_checkBody:chkF Tryz.prog Tryz.f109 ir_thread_checkBody rs_thread_checkBody 13=true:=by kernel_rfl
theorem checkBody_ok (s:List UInt8) (hs:s.length≤1000000000):PCall Tryz.prog E0 109 [.str s] (·=int (bodyE s)):=by
 refine pcallF mixed Tryz.func109 ck_thread_checkBody ?_
 simp only [a0,l0,OS.ao,List.map_cons,List.map_nil,List.length_cons,List.length_nil,List.cons_append,List.nil_append,Nat.reduceSub,Nat.reduceAdd,List.replicate_succ,List.replicate_zero,ir_thread_checkBody,rs_thread_checkBody,ZZ,WW,Ze,reduceCtorEq,Nat.reduceAdd,Nat.reduceMul,Nat.reduceLeDiff,Nat.reduceLT,Nat.reduceEqDiff]
 refine use1 (When_ok _ 2) rfl (.inl rfl) ?_
 simp only [ZZ,WW,Ze,reduceCtorEq,Nat.reduceAdd,Nat.reduceMul,Nat.reduceLeDiff,Nat.reduceLT,Nat.reduceEqDiff]
 refine use1 (Text_ok s hs) rfl (.inl rfl) ?_
 simp only [ZZ,WW,Ze,reduceCtorEq,Nat.reduceAdd,Nat.reduceMul,Nat.reduceLeDiff,Nat.reduceLT,Nat.reduceEqDiff]
 refine use1 (When_ok _ 3) rfl (.inl rfl) ?_
 simp only [ZZ,WW,Ze,reduceCtorEq,Nat.reduceAdd,Nat.reduceMul,Nat.reduceLeDiff,Nat.reduceLT,Nat.reduceEqDiff]
 refine use1 (First_ok [largeE s,whenE (!textE s) 3] (by simp)) rfl (.inl rfl) ?_
 simp only [ZZ,WW,Ze,reduceCtorEq,Nat.reduceAdd,Nat.reduceMul,Nat.reduceLeDiff,Nat.reduceLT,Nat.reduceEqDiff]
 unfold bodyE largeE whenE
 by_cases h1:20000 < s.length
 ·simp [firstE,h1,show (20000:Int) < s.length by omega]
 ·by_cases h2:textE s=true
  ·simp [firstE,h1,h2,show ¬ (20000:Int) < s.length by omega]
  ·simp [firstE,h1,h2,show ¬ (20000:Int) < s.length by omega]
def ir_slices_Index_string_string_L0:IC:=(.seq (.reg [qO 9 (.bin .lss (.t 8) (.t 7))]) (.seq (.cond (.t 9) .skip (.exit 0)) (.seq (.block 1 (.seq (.reg [qM 10 8,qM 5 10]) (.seq (.reg [qM 11 1,qM 12 0,qM 13 5,qO 14 (.ixa 1 (.t 12) (.t 13)),qO 15 (.ld 1 false (.t 14)),qO 16 (.bin .eql (.t 11) (.t 15))]) (.cond (.t 16) (.seq (.reg [qM 17 5,qM 4 17]) .ret) .skip)))) (.reg [qO 18 (.bin .add (.t 8) (.c (.int .i64 1))),qM 8 18]))))
def ir_slices_Index_string_string:IC:=(.seq (.reg [qO 4 (.mov (.c (.int .i64 0)))]) (.seq (.seq (.reg [qM 6 0,qO 7 (.len (.t 6)),qO 8 (.mov (.c (.int .i64 0)))]) (.block 0 (.loop ir_slices_Index_string_string_L0))) (.seq (.reg [qO 4 (.mov (.c (.int .i64 (-1))))]) .ret)))
def rs_slices_Index_string_string:List IRes:=[.t 4]
theorem ck_slices_Index_string_string:chkF Tryz.prog Tryz.f174 ir_slices_Index_string_string rs_slices_Index_string_string 19=true:=by kernel_rfl
def ir_slices_Contains_string_string:IC:=(.seq (.reg [qO 4 (.mov (.c (.bool false)))]) (.seq (.reg [qM 5 0,qM 6 1,qO 7 (.call 174 [.t 5,.t 6]),qO 8 (.bin .geq (.t 7) (.c (.int .i64 0))),qM 4 8]) .ret))
def rs_slices_Contains_string_string:List IRes:=[.t 4]
theorem ck_slices_Contains_string_string:chkF Tryz.prog Tryz.f94 ir_slices_Contains_string_string rs_slices_Contains_string_string 9=true:=by kernel_rfl
def idxS (l:List (List UInt8)) (x:List UInt8) (k:Nat):Int:=if h:k < l.length then (if x=l[k] then k else idxS l x (k+1)) else -1
termination_by l.length - k
theorem IndexS_ok (l:List (List UInt8)) (x:List UInt8) (hl:l.length≤1000000000):PCall Tryz.prog E0 174 [.sl 1 (strE l),.str x] (·=int (idxS l x 0)):=by
 refine pcallF mixed Tryz.func174 ck_slices_Index_string_string ?_
 simp only [a0,l0,OS.ao,List.map_cons,List.map_nil,List.length_cons,List.length_nil,List.cons_append,List.nil_append,Nat.reduceSub,Nat.reduceAdd,List.replicate_succ,List.replicate_zero,ir_slices_Index_string_string,rs_slices_Index_string_string,ZZ,WW,Ze,reduceCtorEq,Nat.reduceAdd,Nat.reduceMul,Nat.reduceLeDiff,Nat.reduceLT,Nat.reduceEqDiff]
 simp only [ZZ,WW,Ze,reduceCtorEq,Nat.reduceAdd,Nat.reduceMul,Nat.reduceLeDiff,Nat.reduceLT,Nat.reduceEqDiff,strE_len]
 refine loop_intro (fun n fr L=>∃ (k:Nat),k≤l.length∧n=l.length - k∧(idxS l x 0=idxS l x k)∧fr=[.p (.sl 1 (strE l)),.p (.str x),oo,oo,oo,oo,oo,.p (int (l.length:Nat)),.p (int (k:Nat)),oo,oo,oo,oo,oo,oo,oo,oo,oo,oo]∧L=[]) (l.length) [.p (.sl 1 (strE l)),.p (.str x),oo,oo,oo,oo,oo,.p (int (l.length:Nat)),.p (int (0:Nat)),oo,oo,oo,oo,oo,oo,oo,oo,oo,oo] [] (by simp only [ZZ,WW,Ze,reduceCtorEq,Nat.reduceAdd,Nat.reduceMul,Nat.reduceLeDiff,Nat.reduceLT,Nat.reduceEqDiff,strE_len];try trivial) (by (simp only [ZZ,WW,Ze,reduceCtorEq,Nat.reduceAdd,Nat.reduceMul,Nat.reduceLeDiff,Nat.reduceLT,Nat.reduceEqDiff];try trivial)) ⟨0,by omega,by omega,rfl,rfl,rfl⟩ ?_
 rintro n fr L ⟨k,hk,rfl,hf,rfl,rfl⟩
 simp only [ir_slices_Index_string_string_L0,ZZ,WW,Ze,reduceCtorEq,Nat.reduceAdd,Nat.reduceMul,Nat.reduceLeDiff,Nat.reduceLT,Nat.reduceEqDiff]
 refine br ?_ ?_
 ·intro h
  have hlt:k < l.length:=by have:=of_decide_eq_true h;omega
  have hg:=strE_get (List.getElem?_eq_getElem hlt)
  simp only [ZZ,WW,Ze,reduceCtorEq,Nat.reduceAdd,Nat.reduceMul,Nat.reduceLeDiff,Nat.reduceLT,Nat.reduceEqDiff,hg,strE_len]
  ((repeat' (with_reducible apply And.intro))<;>try ((exact sc_)))
  refine br ?_ ?_
  ·intro h2
   have h2:x=l[k]:=of_decide_eq_true h2
   simp only [ZZ,WW,Ze,reduceCtorEq,Nat.reduceAdd,Nat.reduceMul,Nat.reduceLeDiff,Nat.reduceLT,Nat.reduceEqDiff]
   rw [hf,idxS,dif_pos hlt,if_pos h2]
  ·intro h2
   have h2:¬ x=l[k]:=of_decide_eq_false h2
   simp only [ZZ,WW,Ze,reduceCtorEq,Nat.reduceAdd,Nat.reduceMul,Nat.reduceLeDiff,Nat.reduceLT,Nat.reduceEqDiff]
   ((repeat' (with_reducible apply And.intro))<;>try ((exact sc_)))
   refine end_round (l.length - (k+1)) [.p (.sl 1 (strE l)),.p (.str x),oo,oo,oo,oo,oo,.p (int (l.length:Nat)),.p (int ((k+1):Nat)),oo,oo,oo,oo,oo,oo,oo,oo,oo,oo] [] (by omega) (by (simp only [ZZ,WW,Ze,reduceCtorEq,Nat.reduceAdd,Nat.reduceMul,Nat.reduceLeDiff,Nat.reduceLT,Nat.reduceEqDiff];try trivial)) (by (simp only [ZZ,WW,Ze,reduceCtorEq,Nat.reduceAdd,Nat.reduceMul,Nat.reduceLeDiff,Nat.reduceLT,Nat.reduceEqDiff];try trivial)) ⟨k+1,by omega,rfl,by rw [hf,idxS,dif_pos hlt,if_neg h2],rfl,rfl⟩
 ·intro h
  have hge:¬ k < l.length:=by have:=of_decide_eq_false h;omega
  simp only [ZZ,WW,Ze,reduceCtorEq,Nat.reduceAdd,Nat.reduceMul,Nat.reduceLeDiff,Nat.reduceLT,Nat.reduceEqDiff]
  rw [hf,idxS,dif_neg hge]
theorem idxS_mem (l:List (List UInt8)) (x:List UInt8):∀ (n k:Nat),l.length - k≤n→(0≤idxS l x k↔x∈l.drop k):=by
 intro n
 induction n with
 |zero=>
  intro k hk
  rw [idxS,dif_neg (by omega),List.drop_eq_nil_of_le (by omega)]
  simp
 |succ n ih=>
  intro k hk
  rw [idxS]
  split
  ·rename_i h
   rw [List.drop_eq_getElem_cons h,List.mem_cons]
   split
   ·rename_i e;simp [e]
   ·rename_i e
    rw [ih (k+1) (by omega)]
    simp [e]
  ·rename_i h
   rw [List.drop_eq_nil_of_le (by omega)]
   simp
theorem ContainsS_ok (l:List (List UInt8)) (x:List UInt8) (hl:l.length≤1000000000):PCall Tryz.prog E0 94 [.sl 1 (strE l),.str x] (·=.bool (decide (x∈l))):=by
 refine pcallF mixed Tryz.func94 ck_slices_Contains_string_string ?_
 simp only [a0,l0,OS.ao,List.map_cons,List.map_nil,List.length_cons,List.length_nil,List.cons_append,List.nil_append,Nat.reduceSub,Nat.reduceAdd,List.replicate_succ,List.replicate_zero,ir_slices_Contains_string_string,rs_slices_Contains_string_string,ZZ,WW,Ze,reduceCtorEq,Nat.reduceAdd,Nat.reduceMul,Nat.reduceLeDiff,Nat.reduceLT,Nat.reduceEqDiff]
 refine use1 (IndexS_ok l x hl) rfl (.inl rfl) ?_
 simp only [ZZ,WW,Ze,reduceCtorEq,Nat.reduceAdd,Nat.reduceMul,Nat.reduceLeDiff,Nat.reduceLT,Nat.reduceEqDiff]
 have:=idxS_mem l x _ 0 (Nat.le_refl _)
 rw [List.drop_zero] at this
 simp only [this]
def ir_thread_Check_L1:IC:=(.seq (.reg [qO 72 (.bin .lss (.t 71) (.t 70))]) (.seq (.cond (.t 72) .skip (.exit 3)) (.seq (.block 4 (.seq (.reg [qM 73 71,qO 74 (.ixa 1 (.t 69) (.t 71)),qO 75 (.ld 1 false (.t 74)),qM 7 73,qM 8 75]) (.seq (.drg [qM 76 8,qO 77 (.pcall 0 105 [.t 76]),qO 78 (.not (.t 77)),qO 79 (.pcall 1 50 [.t 78,.c (.int .i64 3)]),qO 80 (.fla 6 (.t 1)),qO 81 (.ld 1 false (.t 80)),qM 82 7,qO 83 (.vsl 1 (.t 81) none (some (.t 82))),qM 84 8,qO 85 (.pcall 2 94 [.t 83,.t 84]),qO 86 (.pcall 3 50 [.t 85,.c (.int .i64 6)]),qM 87 8,qO 88 (.fla 0 (.t 1)),qO 89 (.ld 1 false (.t 88)),qO 90 (.bin .eql (.t 87) (.t 89)),qO 91 (.pcall 4 50 [.t 90,.c (.int .i64 14)]),qO 92 (.bsl 1 [.t 79,.t 86,.t 91]),qO 93 (.pcall 5 49 [.t 92]),qM 9 93]) (.seq (.reg [qM 94 9,qO 95 (.bin .neq (.t 94) (.c (.int .i64 0)))]) (.cond (.t 95) (.seq (.reg [qM 96 9,qM 2 96]) .ret) .skip))))) (.reg [qO 97 (.bin .add (.t 71) (.c (.int .i64 1))),qM 71 97]))))
def ir_thread_Check_L0:IC:=(.seq (.reg [qO 43 (.bin .lss (.t 42) (.t 41))]) (.seq (.cond (.t 43) .skip (.exit 1)) (.seq (.block 2 (.seq (.reg [qO 44 (.ixa 2 (.t 40) (.t 42)),qO 45 (.ld 2 true (.t 44)),qO 5 (.alc 56 [.str [],.str []]),⟨none,.st 2 (.t 5) (.t 45),none⟩]) (.seq (.seq (.drg [qO 46 (.ld 2 true (.t 5)),qO 47 (.pcall 0 107 [.t 46]),qO 48 (.not (.t 47)),qO 49 (.pcall 1 50 [.t 48,.c (.int .i64 3)]),qM 50 3,qO 51 (.fla 1 (.t 5)),qO 52 (.ld 1 false (.t 51)),qO 53 (.mpl false (.bool false) (.t 50) (.t 52)),qO 54 (.pcall 2 50 [.t 53,.c (.int .i64 6)]),qO 55 (.bsl 1 [.t 49,.t 54]),qO 56 (.pcall 3 49 [.t 55]),qM 6 56]) (.seq (.reg [qM 57 6,qO 58 (.bin .neq (.t 57) (.c (.int .i64 0)))]) (.cond (.t 58) (.seq (.reg [qM 59 6,qM 2 59]) .ret) .skip))) (.reg [qM 60 3,qO 61 (.fla 1 (.t 5)),qO 62 (.ld 1 false (.t 61)),⟨none,.mpu (.t 60) (.t 62) (.c (.bool true)),none⟩])))) (.reg [qO 63 (.bin .add (.t 42) (.c (.int .i64 1))),qM 42 63]))))
def ir_thread_Check:IC:=(.seq (.reg [qO 1 (.box 60 (.t 0)),qO 2 (.mov (.c (.int .i64 0)))]) (.seq (.block 0 (.seq (.reg [qO 11 (.fla 0 (.t 1)),qO 12 (.ld 1 false (.t 11)),qO 13 (.call 105 [.t 12]),qO 14 (.not (.t 13)),qM 10 14]) (.cond (.t 10) (.seq (.reg [qO 2 (.mov (.c (.int .i64 3)))]) .ret) (.seq (.reg [qO 16 (.fla 1 (.t 1)),qO 17 (.ld 1 false (.t 16)),qO 18 (.call 106 [.t 17]),qO 19 (.not (.t 18)),qM 15 19]) (.cond (.t 15) (.seq (.reg [qO 2 (.mov (.c (.int .i64 1)))]) .ret) (.seq (.reg [qO 21 (.fla 2 (.t 1)),qO 22 (.ld 2 true (.t 21)),qO 23 (.call 107 [.t 22]),qO 24 (.not (.t 23)),qM 20 24]) (.cond (.t 20) (.seq (.reg [qO 2 (.mov (.c (.int .i64 3)))]) .ret) (.seq (.reg [qO 26 (.fla 4 (.t 1)),qO 27 (.ld 1 false (.t 26)),qO 28 (.len (.t 27)),qO 29 (.fla 5 (.t 1)),qO 30 (.ld 1 false (.t 29)),qO 31 (.len (.t 30)),qO 32 (.bin .add (.t 28) (.t 31)),qO 33 (.bin .gtr (.t 32) (.c (.int .i64 100))),qM 25 33]) (.cond (.t 25) (.seq (.reg [qO 2 (.mov (.c (.int .i64 2)))]) .ret) .skip))))))))) (.seq (.reg [qO 34 (.mkm 9 4),qM 3 34]) (.seq (.seq (.reg [qO 35 (.fla 4 (.t 1)),qO 36 (.ld 1 false (.t 35)),qO 37 (.fla 5 (.t 1)),qO 38 (.ld 1 false (.t 37)),qO 39 (.bsl 1 [.t 36,.t 38]),qO 40 (.call 101 [.t 39]),qO 41 (.len (.t 40)),qO 42 (.mov (.c (.int .i64 0)))]) (.block 1 (.loop ir_thread_Check_L0))) (.seq (.seq (.reg [qO 64 (.fla 6 (.t 1)),qO 65 (.ld 1 false (.t 64)),qO 66 (.len (.t 65)),qO 67 (.bin .gtr (.t 66) (.c (.int .i64 50)))]) (.cond (.t 67) (.seq (.reg [qO 2 (.mov (.c (.int .i64 2)))]) .ret) .skip)) (.seq (.seq (.reg [qO 68 (.fla 6 (.t 1)),qO 69 (.ld 1 false (.t 68)),qO 70 (.len (.t 69)),qO 71 (.mov (.c (.int .i64 0)))]) (.block 3 (.loop ir_thread_Check_L1))) (.seq (.drg [qO 98 (.fla 7 (.t 1)),qO 99 (.ld 1 false (.t 98)),qO 100 (.sln (.t 99)),qO 101 (.bin .gtr (.t 100) (.c (.int .i64 200))),qM 102 101,⟨some 103,.fla 7 (.t 1),(some (102,false))⟩,⟨some 104,.ld 1 false (.t 103),(some (102,false))⟩,⟨some 105,.pcall 0 108 [.t 104],(some (102,false))⟩,⟨some 106,.not (.t 105),(some (102,false))⟩,qO 107 (.pick (.t 102) (.c (.bool true)) (.t 106)),qO 108 (.pcall 1 50 [.t 107,.c (.int .i64 3)]),qO 109 (.fla 8 (.t 1)),qO 110 (.ld 1 false (.t 109)),qO 111 (.pcall 2 109 [.t 110]),qO 112 (.bsl 1 [.t 108,.t 111]),qO 113 (.pcall 3 49 [.t 112]),qM 2 113]) .ret)))))))
def rs_thread_Check:List IRes:=[.t 2]
theorem ck_thread_Check:chkF Tryz.prog Tryz.f30 ir_thread_Check rs_thread_Check 114=true:=by kernel_rfl
abbrev tMail:Nat:=60
theorem cat2 (a b:List AdT):[a,b].flatten.map adC=adrE (a++b):=by simp [adrE]
theorem strE_take (l:List (List UInt8)) (k:Nat):(strE l).take k=strE (l.take k):=by simp [strE,List.map_take]
theorem TCheck_ok (m:Ltr) (hm:LtB m):PCall Tryz.prog E0 30 [.agg (ltV m)] (·=int (letF m)):=by
 obtain ⟨b1,b2,b3,b4,b5,b6,b7,b8,b9,b10,b11⟩:=hm
 refine pcallF mixed Tryz.func30 ck_thread_Check ?_
 simp only [a0,l0,OS.ao,List.map_cons,List.map_nil,List.length_cons,List.length_nil,List.cons_append,List.nil_append,Nat.reduceSub,Nat.reduceAdd,List.replicate_succ,List.replicate_zero,ir_thread_Check,rs_thread_Check,ZZ,WW,Ze,reduceCtorEq,Nat.reduceAdd,Nat.reduceMul,Nat.reduceLeDiff,Nat.reduceLT,Nat.reduceEqDiff]
 simp only [ltV,ZZ,WW,Ze,reduceCtorEq,Nat.reduceAdd,Nat.reduceMul,Nat.reduceLeDiff,Nat.reduceLT,Nat.reduceEqDiff]
 refine use1 (isId_ok m.id (by omega)) rfl (.inl rfl) ?_
 simp only [ZZ,WW,Ze,reduceCtorEq,Nat.reduceAdd,Nat.reduceMul,Nat.reduceLeDiff,Nat.reduceLT,Nat.reduceEqDiff]
 refine br ?_ ?_
 ·intro h
  have h1:idB m.id=false:=by simpa using h
  simp only [ZZ,WW,Ze,reduceCtorEq,Nat.reduceAdd,Nat.reduceMul,Nat.reduceLeDiff,Nat.reduceLT,Nat.reduceEqDiff]
  rw [letF,if_pos h1]
 intro h
 have h1:¬ idB m.id=false:=by simpa using h
 simp only [ZZ,WW,Ze,reduceCtorEq,Nat.reduceAdd,Nat.reduceMul,Nat.reduceLeDiff,Nat.reduceLT,Nat.reduceEqDiff]
 refine use1 (Moment_ok m.at_) rfl (.inl rfl) ?_
 simp only [ZZ,WW,Ze,reduceCtorEq,Nat.reduceAdd,Nat.reduceMul,Nat.reduceLeDiff,Nat.reduceLT,Nat.reduceEqDiff]
 refine br ?_ ?_
 ·intro h
  have h2:inE m.at_ 0 5761439=false:=by simpa using h
  simp only [ZZ,WW,Ze,reduceCtorEq,Nat.reduceAdd,Nat.reduceMul,Nat.reduceLeDiff,Nat.reduceLT,Nat.reduceEqDiff]
  rw [letF,if_neg h1,if_pos h2]
 intro h
 have h2:¬ inE m.at_ 0 5761439=false:=by simpa using h
 simp only [ZZ,WW,Ze,reduceCtorEq,Nat.reduceAdd,Nat.reduceMul,Nat.reduceLeDiff,Nat.reduceLT,Nat.reduceEqDiff]
 refine use1 (right_ok m.fr.1 m.fr.2 (by omega) (by omega)) rfl (.inl rfl) ?_
 simp only [ZZ,WW,Ze,reduceCtorEq,Nat.reduceAdd,Nat.reduceMul,Nat.reduceLeDiff,Nat.reduceLT,Nat.reduceEqDiff]
 refine br ?_ ?_
 ·intro h
  have h3:adB m.fr=false:=by unfold adB;rwa [Bool.not_eq_true'] at h
  simp only [ZZ,WW,Ze,reduceCtorEq,Nat.reduceAdd,Nat.reduceMul,Nat.reduceLeDiff,Nat.reduceLT,Nat.reduceEqDiff]
  rw [letF,if_neg h1,if_neg h2,if_pos h3]
 intro h
 have h3:¬ adB m.fr=false:=by unfold adB;rw [Bool.not_eq_false'] at h;rw [h];decide
 simp only [ZZ,WW,Ze,reduceCtorEq,Nat.reduceAdd,Nat.reduceMul,Nat.reduceLeDiff,Nat.reduceLT,Nat.reduceEqDiff,adrE_len]
 ((repeat' (with_reducible apply And.intro))<;>try ((exact sc_)))
 refine br ?_ ?_
 ·intro h
  have h4:=of_decide_eq_true h
  simp only [ZZ,WW,Ze,reduceCtorEq,Nat.reduceAdd,Nat.reduceMul,Nat.reduceLeDiff,Nat.reduceLT,Nat.reduceEqDiff]
  rw [letF,if_neg h1,if_neg h2,if_neg h3,if_pos h4]
 intro h
 have h4:=of_decide_eq_false h
 have hL:letF m=firstE [adsErr (m.tos++m.ccs),tailF m]:=by rw [letF,if_neg h1,if_neg h2,if_neg h3,if_neg h4]
 rw [hL]
 clear hL h
 simp only [ZZ,WW,Ze,reduceCtorEq,Nat.reduceAdd,Nat.reduceMul,Nat.reduceLeDiff,Nat.reduceLT,Nat.reduceEqDiff]
 refine useF (ConcatA_ok [m.tos,m.ccs] (by simp) (by simp [lenSA];omega)) rfl rfl ?_
 rintro es rfl
 rw [cat2]
 have hb:∀ a∈m.tos++m.ccs,a.1.length≤1000000∧a.2.length≤1000000:=fun a ha=>(List.mem_append.1 ha).elim (b5 a) (b7 a)
 have hAl:(m.tos++m.ccs).length≤2000000:=by simp;omega
 generalize m.tos++m.ccs=A at *
 simp only [ZZ,WW,Ze,reduceCtorEq,Nat.reduceAdd,Nat.reduceMul,Nat.reduceLeDiff,Nat.reduceLT,Nat.reduceEqDiff,adrE_len]
 rw [adsErr]
 have hget:=fun {k:Nat} (h:k < A.length)=>firstE_drop _ k _ (tab_getI (adF1 A) h)
 generalize hG:(List.range A.length).map (adF1 A)=G at *
 have hGl:G.length=A.length:=by rw [← hG];simp
 refine loop_intro (fun n fr L=>∃ (k:Nat) (kv:List (List UInt8×PV)),k≤A.length∧n=A.length - k∧(firstE G=firstE (G.drop k))∧(setOf kv ((A.take k).map (·.2)))∧fr=[oo,.adr (.l 1) 0,oo,.mp (.l 34),oo,oo,oo,oo,oo,oo,oo,oo,oo,oo,oo,oo,oo,oo,oo,oo,oo,oo,oo,oo,oo,oo,oo,oo,oo,oo,oo,oo,oo,oo,oo,oo,oo,oo,oo,oo,.row (.l 40),.p (int (A.length:Nat)),.p (int (k:Nat)),oo,oo,oo,oo,oo,oo,oo,oo,oo,oo,oo,oo,oo,oo,oo,oo,oo,oo,oo,oo,oo,oo,oo,oo,oo,oo,oo,oo,oo,oo,oo,oo,oo,oo,oo,oo,oo,oo,oo,oo,oo,oo,oo,oo,oo,oo,oo,oo,oo,oo,oo,oo,oo,oo,oo,oo,oo,oo,oo,oo,oo,oo,oo,oo,oo,oo,oo,oo,oo,oo,oo]∧L=[(.l 1,.box [.p (.str m.id),.p (int m.at_),.p (.str m.fr.1),.p (.str m.fr.2),.p (.sl 2 (adrE m.tos)),.p (.sl 2 (adrE m.ccs)),.p (.sl 1 (strE m.refs)),.p (.str m.sub),.p (.str m.body)] tMail),(.l 34,.map kv 9 4),(.l 40,.row (adrE A) tAdr 2 true)]) (A.length) [oo,.adr (.l 1) 0,oo,.mp (.l 34),oo,oo,oo,oo,oo,oo,oo,oo,oo,oo,oo,oo,oo,oo,oo,oo,oo,oo,oo,oo,oo,oo,oo,oo,oo,oo,oo,oo,oo,oo,oo,oo,oo,oo,oo,oo,.row (.l 40),.p (int (A.length:Nat)),.p (int (0:Nat)),oo,oo,oo,oo,oo,oo,oo,oo,oo,oo,oo,oo,oo,oo,oo,oo,oo,oo,oo,oo,oo,oo,oo,oo,oo,oo,oo,oo,oo,oo,oo,oo,oo,oo,oo,oo,oo,oo,oo,oo,oo,oo,oo,oo,oo,oo,oo,oo,oo,oo,oo,oo,oo,oo,oo,oo,oo,oo,oo,oo,oo,oo,oo,oo,oo,oo,oo,oo,oo,oo,oo] [(.l 1,.box [.p (.str m.id),.p (int m.at_),.p (.str m.fr.1),.p (.str m.fr.2),.p (.sl 2 (adrE m.tos)),.p (.sl 2 (adrE m.ccs)),.p (.sl 1 (strE m.refs)),.p (.str m.sub),.p (.str m.body)] tMail),(.l 34,.map [] 9 4),(.l 40,.row (adrE A) tAdr 2 true)] (by simp only [ZZ,WW,Ze,reduceCtorEq,Nat.reduceAdd,Nat.reduceMul,Nat.reduceLeDiff,Nat.reduceLT,Nat.reduceEqDiff,adrE_len];try trivial) (by (simp only [ZZ,WW,Ze,reduceCtorEq,Nat.reduceAdd,Nat.reduceMul,Nat.reduceLeDiff,Nat.reduceLT,Nat.reduceEqDiff];try trivial)) ⟨0,[],by omega,by omega,by simp,setOf_nil,rfl,rfl⟩ ?_
 rintro n fr L ⟨k,kv,hk,rfl,hf,hkv,rfl,rfl⟩
 simp only [ir_thread_Check_L0,ZZ,WW,Ze,reduceCtorEq,Nat.reduceAdd,Nat.reduceMul,Nat.reduceLeDiff,Nat.reduceLT,Nat.reduceEqDiff]
 refine br ?_ ?_
 ·intro h
  have hlt:k < A.length:=by have:=of_decide_eq_true h;omega
  obtain ⟨x,hx⟩:∃ x,A[k]?=some x:=⟨_,List.getElem?_eq_getElem hlt⟩
  have hg:=adrE_get hx
  have hxd:A.getD k ([],[])=x:=by simp [List.getD,hx]
  have hbx:=hb x (List.mem_of_getElem? hx)
  have hd:=hget hlt
  have hsn:mpD kv x.2 (.bool false)=.bool ((A.take k).any (fun p=>decide (p.2=x.2))):=by rw [hkv x.2,any_mem]
  have he:firstE [whenE (!(nameB x.1 && mailF x.2)) 3,whenE ((A.take k).any (fun p=>decide (p.2=x.2))) 6]=adF1 A k:=by rw [adF1,hxd];rfl
  simp only [ZZ,WW,Ze,reduceCtorEq,Nat.reduceAdd,Nat.reduceMul,Nat.reduceLeDiff,Nat.reduceLT,Nat.reduceEqDiff,hg,adrE_len]
  ((repeat' (with_reducible apply And.intro))<;>try ((exact sc_)))
  refine drg4 (x1:=.bool (nameB x.1 && mailF x.2)) (x2:=int (whenE (!(nameB x.1 && mailF x.2)) 3)) (x3:=int (whenE ((A.take k).any (fun p=>decide (p.2=x.2))) 6)) (x4:=int (adF1 A k)) ?_
  simp only [ZZ,WW,Ze,reduceCtorEq,Nat.reduceAdd,Nat.reduceMul,Nat.reduceLeDiff,Nat.reduceLT,Nat.reduceEqDiff,hsn]
  ((repeat' (with_reducible apply And.intro))<;>try (first|exact usep (right_ok x.1 x.2 (by omega) (by omega)) rfl (.inl rfl)|exact usep (When_ok _ _) rfl (.inl rfl)|(rw [← he];exact usep (First_ok [_,_] (by simp)) rfl (.inl rfl))|(exact sc_)))
  refine br ?_ ?_
  ·intro h7
   have:¬ adF1 A k=0:=by simpa using h7
   simp only [ZZ,WW,Ze,reduceCtorEq,Nat.reduceAdd,Nat.reduceMul,Nat.reduceLeDiff,Nat.reduceLT,Nat.reduceEqDiff]
   rw [firstE_cons,hf,hd,if_neg this,if_neg this]
  intro h7
  have:adF1 A k=0:=by simpa using h7
  simp only [ZZ,WW,Ze,reduceCtorEq,Nat.reduceAdd,Nat.reduceMul,Nat.reduceLeDiff,Nat.reduceLT,Nat.reduceEqDiff]
  ((repeat' (with_reducible apply And.intro))<;>try ((exact sc_)))
  refine end_round (A.length - (k+1)) [oo,.adr (.l 1) 0,oo,.mp (.l 34),oo,oo,oo,oo,oo,oo,oo,oo,oo,oo,oo,oo,oo,oo,oo,oo,oo,oo,oo,oo,oo,oo,oo,oo,oo,oo,oo,oo,oo,oo,oo,oo,oo,oo,oo,oo,.row (.l 40),.p (int (A.length:Nat)),.p (int ((k+1):Nat)),oo,oo,oo,oo,oo,oo,oo,oo,oo,oo,oo,oo,oo,oo,oo,oo,oo,oo,oo,oo,oo,oo,oo,oo,oo,oo,oo,oo,oo,oo,oo,oo,oo,oo,oo,oo,oo,oo,oo,oo,oo,oo,oo,oo,oo,oo,oo,oo,oo,oo,oo,oo,oo,oo,oo,oo,oo,oo,oo,oo,oo,oo,oo,oo,oo,oo,oo,oo,oo,oo,oo] [(.l 1,.box [.p (.str m.id),.p (int m.at_),.p (.str m.fr.1),.p (.str m.fr.2),.p (.sl 2 (adrE m.tos)),.p (.sl 2 (adrE m.ccs)),.p (.sl 1 (strE m.refs)),.p (.str m.sub),.p (.str m.body)] tMail),(.l 34,.map (mpS kv x.2 (.bool true)) 9 4),(.l 40,.row (adrE A) tAdr 2 true)] (by omega) (by (simp only [ZZ,WW,Ze,reduceCtorEq,Nat.reduceAdd,Nat.reduceMul,Nat.reduceLeDiff,Nat.reduceLT,Nat.reduceEqDiff];try trivial)) (by (simp only [ZZ,WW,Ze,reduceCtorEq,Nat.reduceAdd,Nat.reduceMul,Nat.reduceLeDiff,Nat.reduceLT,Nat.reduceEqDiff];try trivial)) ⟨k+1,mpS kv x.2 (.bool true),by omega,rfl,by rw [hf,hd,if_pos this],by rw [map_take_succ _ hx];exact setOf_put hkv x.2,rfl,rfl⟩
 intro h
 have hge:A.length≤k:=by have:=of_decide_eq_false h;omega
 rw [show firstE [firstE G,tailF m]=tailF m from by rw [firstE_cons,hf,List.drop_eq_nil_of_le (by omega)];rw [firstE_nil,if_pos rfl,firstE_cons,firstE_nil];split<;>rename_i h<;>simp [h]]
 simp only [ZZ,WW,Ze,reduceCtorEq,Nat.reduceAdd,Nat.reduceMul,Nat.reduceLeDiff,Nat.reduceLT,Nat.reduceEqDiff,strE_len]
 refine br ?_ ?_
 ·intro h
  have h5:=of_decide_eq_true h
  simp only [ZZ,WW,Ze,reduceCtorEq,Nat.reduceAdd,Nat.reduceMul,Nat.reduceLeDiff,Nat.reduceLT,Nat.reduceEqDiff]
  rw [tailF,if_pos h5]
 intro h
 have h5:=of_decide_eq_false h
 rw [tailF,if_neg h5]
 clear h hf hkv hget hG hGl
 simp only [ZZ,WW,Ze,reduceCtorEq,Nat.reduceAdd,Nat.reduceMul,Nat.reduceLeDiff,Nat.reduceLT,Nat.reduceEqDiff,strE_len]
 rw [refsErr]
 have hget:=fun {k:Nat} (h:k < m.refs.length)=>firstE_drop _ k _ (tab_getI (refF1 m.id m.refs) h)
 generalize hG:(List.range m.refs.length).map (refF1 m.id m.refs)=R at *
 have hGl:R.length=m.refs.length:=by rw [← hG];simp
 refine loop_intro (fun n fr L=>∃ (j:Nat),j≤m.refs.length∧n=m.refs.length - j∧(firstE R=firstE (R.drop j))∧fr=[oo,.adr (.l 1) 0,oo,oo,oo,oo,oo,oo,oo,oo,oo,oo,oo,oo,oo,oo,oo,oo,oo,oo,oo,oo,oo,oo,oo,oo,oo,oo,oo,oo,oo,oo,oo,oo,oo,oo,oo,oo,oo,oo,oo,oo,oo,oo,oo,oo,oo,oo,oo,oo,oo,oo,oo,oo,oo,oo,oo,oo,oo,oo,oo,oo,oo,oo,oo,oo,oo,oo,oo,.p (.sl 1 (strE m.refs)),.p (int (m.refs.length:Nat)),.p (int (j:Nat)),oo,oo,oo,oo,oo,oo,oo,oo,oo,oo,oo,oo,oo,oo,oo,oo,oo,oo,oo,oo,oo,oo,oo,oo,oo,oo,oo,oo,oo,oo,oo,oo,oo,oo,oo,oo,oo,oo,oo,oo,oo,oo]∧L=[(.l 1,.box [.p (.str m.id),.p (int m.at_),.p (.str m.fr.1),.p (.str m.fr.2),.p (.sl 2 (adrE m.tos)),.p (.sl 2 (adrE m.ccs)),.p (.sl 1 (strE m.refs)),.p (.str m.sub),.p (.str m.body)] tMail)]) (m.refs.length) [oo,.adr (.l 1) 0,oo,oo,oo,oo,oo,oo,oo,oo,oo,oo,oo,oo,oo,oo,oo,oo,oo,oo,oo,oo,oo,oo,oo,oo,oo,oo,oo,oo,oo,oo,oo,oo,oo,oo,oo,oo,oo,oo,oo,oo,oo,oo,oo,oo,oo,oo,oo,oo,oo,oo,oo,oo,oo,oo,oo,oo,oo,oo,oo,oo,oo,oo,oo,oo,oo,oo,oo,.p (.sl 1 (strE m.refs)),.p (int (m.refs.length:Nat)),.p (int (0:Nat)),oo,oo,oo,oo,oo,oo,oo,oo,oo,oo,oo,oo,oo,oo,oo,oo,oo,oo,oo,oo,oo,oo,oo,oo,oo,oo,oo,oo,oo,oo,oo,oo,oo,oo,oo,oo,oo,oo,oo,oo,oo,oo] [(.l 1,.box [.p (.str m.id),.p (int m.at_),.p (.str m.fr.1),.p (.str m.fr.2),.p (.sl 2 (adrE m.tos)),.p (.sl 2 (adrE m.ccs)),.p (.sl 1 (strE m.refs)),.p (.str m.sub),.p (.str m.body)] tMail)] (by simp only [ZZ,WW,Ze,reduceCtorEq,Nat.reduceAdd,Nat.reduceMul,Nat.reduceLeDiff,Nat.reduceLT,Nat.reduceEqDiff,strE_len];try trivial) (by (simp only [ZZ,WW,Ze,reduceCtorEq,Nat.reduceAdd,Nat.reduceMul,Nat.reduceLeDiff,Nat.reduceLT,Nat.reduceEqDiff];try trivial)) ⟨0,by omega,by omega,by simp,rfl,rfl⟩ ?_
 rintro n fr L ⟨j,hj,rfl,hf,rfl,rfl⟩
 simp only [ir_thread_Check_L1,ZZ,WW,Ze,reduceCtorEq,Nat.reduceAdd,Nat.reduceMul,Nat.reduceLeDiff,Nat.reduceLT,Nat.reduceEqDiff]
 refine br ?_ ?_
 ·intro h
  have hlt:j < m.refs.length:=by have:=of_decide_eq_true h;omega
  obtain ⟨x,hx⟩:∃ x,m.refs[j]?=some x:=⟨_,List.getElem?_eq_getElem hlt⟩
  have hg:=strE_get hx
  have hxd:m.refs.getD j []=x:=by simp [List.getD,hx]
  have hbx:=b9 x (List.mem_of_getElem? hx)
  have hd:=hget hlt
  have htk:=strE_take m.refs j
  have he:firstE [whenE (!idB x) 3,whenE (decide (x∈m.refs.take j)) 6,whenE (decide (x=m.id)) 14]=refF1 m.id m.refs j:=by rw [refF1,hxd]
  simp only [ZZ,WW,Ze,reduceCtorEq,Nat.reduceAdd,Nat.reduceMul,Nat.reduceLeDiff,Nat.reduceLT,Nat.reduceEqDiff,hg,strE_len]
  ((repeat' (with_reducible apply And.intro))<;>try ((exact sc_)))
  refine drg6 (x1:=.bool (idB x)) (x2:=int (whenE (!idB x) 3)) (x3:=.bool (decide (x∈m.refs.take j))) (x4:=int (whenE (decide (x∈m.refs.take j)) 6)) (x5:=int (whenE (decide (x=m.id)) 14)) (x6:=int (refF1 m.id m.refs j)) ?_
  simp only [ZZ,WW,Ze,reduceCtorEq,Nat.reduceAdd,Nat.reduceMul,Nat.reduceLeDiff,Nat.reduceLT,Nat.reduceEqDiff,htk,strE_len]
  ((repeat' (with_reducible apply And.intro))<;>try (first|exact usep (isId_ok x (by omega)) rfl (.inl rfl)|exact usep (When_ok _ _) rfl (.inl rfl)|exact usep (ContainsS_ok _ x (by rw [List.length_take];omega)) rfl (.inl rfl)|(rw [← he];exact usep (First_ok [_,_,_] (by simp)) rfl (.inl rfl))|(exact sc_)))
  refine br ?_ ?_
  ·intro h7
   have:¬ refF1 m.id m.refs j=0:=by simpa using h7
   simp only [ZZ,WW,Ze,reduceCtorEq,Nat.reduceAdd,Nat.reduceMul,Nat.reduceLeDiff,Nat.reduceLT,Nat.reduceEqDiff]
   rw [firstE_cons,hf,hd,if_neg this,if_neg this]
  intro h7
  have:refF1 m.id m.refs j=0:=by simpa using h7
  simp only [ZZ,WW,Ze,reduceCtorEq,Nat.reduceAdd,Nat.reduceMul,Nat.reduceLeDiff,Nat.reduceLT,Nat.reduceEqDiff]
  ((repeat' (with_reducible apply And.intro))<;>try ((exact sc_)))
  refine end_round (m.refs.length - (j+1)) [oo,.adr (.l 1) 0,oo,oo,oo,oo,oo,oo,oo,oo,oo,oo,oo,oo,oo,oo,oo,oo,oo,oo,oo,oo,oo,oo,oo,oo,oo,oo,oo,oo,oo,oo,oo,oo,oo,oo,oo,oo,oo,oo,oo,oo,oo,oo,oo,oo,oo,oo,oo,oo,oo,oo,oo,oo,oo,oo,oo,oo,oo,oo,oo,oo,oo,oo,oo,oo,oo,oo,oo,.p (.sl 1 (strE m.refs)),.p (int (m.refs.length:Nat)),.p (int ((j+1):Nat)),oo,oo,oo,oo,oo,oo,oo,oo,oo,oo,oo,oo,oo,oo,oo,oo,oo,oo,oo,oo,oo,oo,oo,oo,oo,oo,oo,oo,oo,oo,oo,oo,oo,oo,oo,oo,oo,oo,oo,oo,oo,oo] [(.l 1,.box [.p (.str m.id),.p (int m.at_),.p (.str m.fr.1),.p (.str m.fr.2),.p (.sl 2 (adrE m.tos)),.p (.sl 2 (adrE m.ccs)),.p (.sl 1 (strE m.refs)),.p (.str m.sub),.p (.str m.body)] tMail)] (by omega) (by (simp only [ZZ,WW,Ze,reduceCtorEq,Nat.reduceAdd,Nat.reduceMul,Nat.reduceLeDiff,Nat.reduceLT,Nat.reduceEqDiff];try trivial)) (by (simp only [ZZ,WW,Ze,reduceCtorEq,Nat.reduceAdd,Nat.reduceMul,Nat.reduceLeDiff,Nat.reduceLT,Nat.reduceEqDiff];try trivial)) ⟨j+1,by omega,rfl,by rw [hf,hd,if_pos this],rfl,rfl⟩
 intro h
 have hge:m.refs.length≤j:=by have:=of_decide_eq_false h;omega
 have hfin:firstE [firstE R,subErr m.sub,bodyE m.body]=firstE [subErr m.sub,bodyE m.body]:=by rw [firstE_cons,hf,List.drop_eq_nil_of_le (by omega)];rfl
 rw [hfin]
 simp only [ZZ,WW,Ze,reduceCtorEq,Nat.reduceAdd,Nat.reduceMul,Nat.reduceLeDiff,Nat.reduceLT,Nat.reduceEqDiff]
 refine drg4 (x1:=.bool (plainB m.sub)) (x2:=int (subErr m.sub)) (x3:=int (bodyE m.body)) (x4:=int (firstE [subErr m.sub,bodyE m.body])) ?_
 simp only [ZZ,WW,Ze,reduceCtorEq,Nat.reduceAdd,Nat.reduceMul,Nat.reduceLeDiff,Nat.reduceLT,Nat.reduceEqDiff]
 refine ⟨fun h=>⟨h,usep (Plain_ok m.sub (by omega)) rfl (.inl rfl)⟩,fun h=>by rw [h];rfl,usep (When_ok _ _) rfl (.inl rfl),usep (checkBody_ok m.body (by omega)) rfl (.inl rfl),usep (First_ok [_,_] (by simp)) rfl (.inl rfl)⟩
end Go.Proofs.YtehfjlpenlffmaaGreatDoor
