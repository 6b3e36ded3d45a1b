import Derived.Test.YtehfjlpenlffmaaGreatDoorZ14
import Derived.Test.YtehfjlpenlffmaaGreatDoorZ8
import Derived.Test.YtehfjlpenlffmaaGreatDoorZ12
import Derived.Test.YtehfjlpenlffmaaGreatDoorZ11
import Derived.Test.YtehfjlpenlffmaaGreatDoorZ6
import Derived.Test.YtehfjlpenlffmaaGreatDoorLayItoa
set_option linter.unusedVariables false
set_option linter.unusedSimpArgs false
set_option linter.defProp false
namespace Go.Proofs.YtehfjlpenlffmaaGreatDoor
open Go.RowKit
def ir_chaseref1_ChosenOf_L0:IC:=(.seq (.reg [qO 14 (.bin .lss (.t 13) (.t 12))]) (.seq (.cond (.t 14) .skip (.exit 0)) (.seq (.block 1 (.seq (.reg [qO 15 (.ixa 2 (.t 11) (.t 13)),qO 16 (.ld 2 true (.t 15)),qO 9 (.alc 119 [.str [],.nl 1]),⟨none,.st 2 (.t 9) (.t 16),none⟩]) (.seq (.reg [qO 17 (.fla 1 (.t 9)),qO 18 (.ld 1 false (.t 17)),qO 19 (.mkf 85 [.t 4]),qO 20 (.call 84 [.t 18,.t 19])]) (.cond (.t 20) (.reg [qM 21 7,qO 22 (.ld 2 true (.t 9)),qO 23 (.bsl 2 [.t 22]),qO 24 (.app 119 2 40 (.t 21) (.t 23)),qM 7 24]) .skip)))) (.cut (.reg [qO 25 (.bin .add (.t 13) (.c (.int .i64 1))),qM 13 25])))))
def ir_chaseref1_ChosenOf:IC:=(.seq (.reg [qO 3 (.box 30 (.t 0)),qO 4 (.box 27 (.t 1)),qO 5 (.box 3 (.t 2)),qO 6 (.mov (.c (.nl 2))),⟨none,.re,none⟩]) (.seq (.reg [qO 7 (.nilr 119 2)]) (.seq (.seq (.reg [qO 10 (.ld 1 false (.t 3)),qO 11 (.call 83 [.t 10]),qO 12 (.len (.t 11)),qO 13 (.mov (.c (.int .i64 0)))]) (.block 0 (.loop ir_chaseref1_ChosenOf_L0))) (.seq (.reg [qM 26 7,qO 27 (.mkf 88 [.t 3,.t 5]),qO 28 (.call 87 [.t 26,.t 27])]) (.seq (.reg [qM 29 7,qM 6 29,⟨none,.re,none⟩]) .ret)))))
def rs_chaseref1_ChosenOf:List IRes:=[.t 6]
theorem ck_chaseref1_ChosenOf:chkF Tryz.prog Tryz.f26 ir_chaseref1_ChosenOf rs_chaseref1_ChosenOf 30=true:=by kernel_rfl
def ir_chaseref1_ChosenOf_1:IC:=(.seq (.reg [qO 3 (.mov (.c (.bool false)))]) (.seq (.reg [qO 4 (.ld 1 false (.t 1)),qM 5 0,qO 6 (.call 86 [.t 4,.t 5]),qO 7 (.fld 1 1 false (.t 6)),qO 8 (.bin .eql (.t 7) (.c (.int .i64 1))),qM 3 8]) .ret))
def rs_chaseref1_ChosenOf_1:List IRes:=[.t 3]
theorem ck_chaseref1_ChosenOf_1:chkF Tryz.prog Tryz.f85 ir_chaseref1_ChosenOf_1 rs_chaseref1_ChosenOf_1 9=true:=by kernel_rfl
def ir_chaseref1_ChosenOf_2:IC:=(.seq (.reg [qO 4 (.box 119 (.t 0)),qO 5 (.box 119 (.t 1)),qO 6 (.mov (.c (.int .i64 0)))]) (.seq (.reg [qO 14 (.ld 1 false (.t 2)),qO 15 (.fla 0 (.t 4)),qO 16 (.ld 1 false (.t 15)),qO 17 (.call 72 [.t 14,.t 16]),qM 13 17,qO 18 (.ext 0 (.t 13)),qO 19 (.ext 1 (.t 13)),qO 7 (.alc 80 [.str [],.str [],.int .i64 0,.str [],.int .i64 0,.str [],.str []]),⟨none,.st 7 (.t 7) (.t 18),none⟩,qM 8 19]) (.seq (.reg [qO 21 (.ld 1 false (.t 2)),qO 22 (.fla 0 (.t 5)),qO 23 (.ld 1 false (.t 22)),qO 24 (.call 72 [.t 21,.t 23]),qM 20 24,qO 25 (.ext 0 (.t 20)),qO 26 (.ext 1 (.t 20)),qO 9 (.alc 80 [.str [],.str [],.int .i64 0,.str [],.int .i64 0,.str [],.str []]),⟨none,.st 7 (.t 9) (.t 25),none⟩,qM 10 26]) (.seq (.drg [qO 27 (.fla 1 (.t 7)),qO 28 (.ld 1 false (.t 27)),qO 29 (.fla 1 (.t 9)),qO 30 (.ld 1 false (.t 29)),qO 31 (.pcall 0 89 [.t 28,.t 30]),qO 32 (.fla 4 (.t 7)),qO 33 (.ld 1 false (.t 32)),qO 34 (.fla 4 (.t 9)),qO 35 (.ld 1 false (.t 34)),qO 36 (.pcall 1 90 [.t 33,.t 35]),qM 11 31,qM 12 36]) (.seq (.seq (.reg [qO 37 (.ld 1 false (.t 3))]) (.block 0 (.seq (.reg [qO 39 (.bin .eql (.t 37) (.c (.int .i64 1))),qM 38 39]) (.cond (.t 38) (.reg [qO 11 (.mov (.c (.int .i64 0))),qO 12 (.mov (.c (.int .i64 0)))]) (.seq (.reg [qO 41 (.bin .eql (.t 37) (.c (.int .i64 2))),qM 40 41]) (.cond (.t 40) (.reg [qO 11 (.mov (.c (.int .i64 0)))]) .skip)))))) (.cut (.seq (.reg [qM 42 11,qM 43 12,qO 44 (.fla 0 (.t 4)),qO 45 (.ld 1 false (.t 44)),qO 46 (.fla 0 (.t 5)),qO 47 (.ld 1 false (.t 46)),qO 48 (.call 89 [.t 45,.t 47]),qO 49 (.bsl 1 [.t 42,.t 43,.t 48]),qO 50 (.call 91 [.t 49]),qM 6 50]) .ret)))))))
def rs_chaseref1_ChosenOf_2:List IRes:=[.t 6]
theorem ck_chaseref1_ChosenOf_2:chkF Tryz.prog Tryz.f88 ir_chaseref1_ChosenOf_2 rs_chaseref1_ChosenOf_2 51=true:=by kernel_rfl
def ir_chaseref1_SameFamilies:IC:=(.seq (.reg [qO 4 (.mov (.c (.bool false)))]) (.seq (.reg [qM 5 0,qM 6 1,qO 7 (.call 81 [.t 5,.t 6,.f 82]),qM 4 7]) .ret))
def rs_chaseref1_SameFamilies:List IRes:=[.t 4]
theorem ck_chaseref1_SameFamilies:chkF Tryz.prog Tryz.f25 ir_chaseref1_SameFamilies rs_chaseref1_SameFamilies 8=true:=by kernel_rfl
def ir_chaseref1_SameFamilies_1:IC:=(.seq (.reg [qO 2 (.box 119 (.t 0)),qO 3 (.box 119 (.t 1)),qO 4 (.mov (.c (.bool false)))]) (.seq (.reg [qO 5 (.fla 0 (.t 2)),qO 6 (.ld 1 false (.t 5)),qO 7 (.fla 0 (.t 3)),qO 8 (.ld 1 false (.t 7)),qO 9 (.bin .eql (.t 6) (.t 8)),qM 10 9,⟨some 11,.fla 1 (.t 2),(some (10,true))⟩,⟨some 12,.ld 1 false (.t 11),(some (10,true))⟩,⟨some 13,.fla 1 (.t 3),(some (10,true))⟩,⟨some 14,.ld 1 false (.t 13),(some (10,true))⟩,⟨some 15,.call 35 [.t 12,.t 14],(some (10,true))⟩,qO 16 (.pick (.t 10) (.t 15) (.c (.bool false))),qM 4 16]) .ret))
def rs_chaseref1_SameFamilies_1:List IRes:=[.t 4]
theorem ck_chaseref1_SameFamilies_1:chkF Tryz.prog Tryz.f82 ir_chaseref1_SameFamilies_1 rs_chaseref1_SameFamilies_1 17=true:=by kernel_rfl
def ir_slices_EqualFunc_api_Family_api_Family_api_Family_api_Family_L0:IC:=(.seq (.reg [qO 18 (.bin .lss (.t 17) (.t 16))]) (.seq (.cond (.t 18) .skip (.exit 0)) (.seq (.block 1 (.seq (.reg [qM 19 17,qO 20 (.ixa 2 (.t 15) (.t 17)),qO 21 (.ld 2 true (.t 20)),qO 8 (.alc 119 [.str [],.nl 1]),qM 7 19,⟨none,.st 2 (.t 8) (.t 21),none⟩]) (.seq (.reg [qM 22 1,qM 23 7,qO 24 (.ixa 2 (.t 22) (.t 23)),qO 25 (.ld 2 true (.t 24)),qO 9 (.alc 119 [.str [],.nl 1]),⟨none,.st 2 (.t 9) (.t 25),none⟩]) (.seq (.reg [qM 26 2,qO 27 (.ld 2 true (.t 8)),qO 28 (.ld 2 true (.t 9)),qO 29 (.callv (.t 26) [.t 27,.t 28]),qO 30 (.not (.t 29))]) (.cond (.t 30) (.seq (.reg [qO 6 (.mov (.c (.bool false)))]) .ret) .skip))))) (.reg [qO 31 (.bin .add (.t 17) (.c (.int .i64 1))),qM 17 31]))))
def ir_slices_EqualFunc_api_Family_api_Family_api_Family_api_Family:IC:=(.seq (.reg [qO 6 (.mov (.c (.bool false)))]) (.seq (.seq (.reg [qM 10 0,qO 11 (.len (.t 10)),qM 12 1,qO 13 (.len (.t 12)),qO 14 (.bin .neq (.t 11) (.t 13))]) (.cond (.t 14) (.seq (.reg [qO 6 (.mov (.c (.bool false)))]) .ret) .skip)) (.seq (.seq (.reg [qM 15 0,qO 16 (.len (.t 15)),qO 17 (.mov (.c (.int .i64 0)))]) (.block 0 (.loop ir_slices_EqualFunc_api_Family_api_Family_api_Family_api_Family_L0))) (.seq (.reg [qO 6 (.mov (.c (.bool true)))]) .ret))))
def rs_slices_EqualFunc_api_Family_api_Family_api_Family_api_Family:List IRes:=[.t 6]
theorem ck_slices_EqualFunc_api_Family_api_Family_api_Family_api_Family:chkF Tryz.prog Tryz.f81 ir_slices_EqualFunc_api_Family_api_Family_api_Family_api_Family rs_slices_EqualFunc_api_Family_api_Family_api_Family_api_Family 32=true:=by kernel_rfl
section
variable {E:Envt}
theorem rulingOf_ok (l:List Rul) (hl:l.length≤1000000) (s:List UInt8):PCall Tryz.prog E 86 [.sl 3 (rlE l),.str s] (fun x=>∃ i w v,x=.agg [i,int w,v]∧decide (w=1)=showB l s):=by
 refine pcallF mixed Tryz.func86 ck_chaseref1_rulingOf ?_
 simp only [a0,l0,OS.ao,List.map_cons,List.map_nil,List.length_cons,List.length_nil,List.cons_append,List.nil_append,Nat.reduceSub,Nat.reduceAdd,List.replicate_succ,List.replicate_zero,ir_chaseref1_rulingOf,rs_chaseref1_rulingOf,ZZ,WW,Ze,reduceCtorEq,Nat.reduceAdd,Nat.reduceMul,Nat.reduceLeDiff,Nat.reduceLT,Nat.reduceEqDiff]
 simp only [ZZ,WW,Ze,reduceCtorEq,Nat.reduceAdd,Nat.reduceMul,Nat.reduceLeDiff,Nat.reduceLT,Nat.reduceEqDiff,rlE_len]
 refine loop_intro (fun n fr L=>∃ (k:Nat),k≤l.length∧n=l.length - k∧(l.find? (fun r=>decide (r.id=s))=(l.drop k).find? (fun r=>decide (r.id=s)))∧fr=[oo,.p (.str s),oo,oo,.adr (.l 4) 0,oo,oo,.p (.sl 3 (rlE l)),.p (int (l.length:Nat)),.p (int (k:Nat)),oo,oo,oo,oo,oo,oo,oo,oo,oo,oo,oo]∧L=[(.l 4,.box [.p (.str []),.p (int 0),.p (.nl 2)] 76)]) (l.length) [oo,.p (.str s),oo,oo,.adr (.l 4) 0,oo,oo,.p (.sl 3 (rlE l)),.p (int (l.length:Nat)),.p (int (0:Nat)),oo,oo,oo,oo,oo,oo,oo,oo,oo,oo,oo] [(.l 4,.box [.p (.str []),.p (int 0),.p (.nl 2)] 76)] (by simp only [ZZ,WW,Ze,reduceCtorEq,Nat.reduceAdd,Nat.reduceMul,Nat.reduceLeDiff,Nat.reduceLT,Nat.reduceEqDiff,rlE_len];try trivial) (by (simp only [ZZ,WW,Ze,reduceCtorEq,Nat.reduceAdd,Nat.reduceMul,Nat.reduceLeDiff,Nat.reduceLT,Nat.reduceEqDiff];try trivial)) ⟨0,by omega,by omega,rfl,rfl,rfl⟩ ?_
 rintro n fr L ⟨k,hk,rfl,hF,rfl,rfl⟩
 simp only [ir_chaseref1_rulingOf_L0,ZZ,WW,Ze,reduceCtorEq,Nat.reduceAdd,Nat.reduceMul,Nat.reduceLeDiff,Nat.reduceLT,Nat.reduceEqDiff]
 refine br ?_ ?_
 ·intro h
  have hlt:k < l.length:=by have:=of_decide_eq_true h;omega
  obtain ⟨r,hr⟩:∃ r,l[k]?=some r:=⟨_,List.getElem?_eq_getElem hlt⟩
  have hg:=rlE_get hr
  have hd:l.drop k=r :: l.drop (k+1):=by rw [List.drop_eq_getElem_cons hlt,(List.getElem?_eq_some_iff.1 hr).2]
  rw [hd,List.find?_cons] at hF
  simp only [ZZ,WW,Ze,reduceCtorEq,Nat.reduceAdd,Nat.reduceMul,Nat.reduceLeDiff,Nat.reduceLT,Nat.reduceEqDiff,hg,rlE_len]
  ((repeat' (with_reducible apply And.intro))<;>try ((exact sc_)))
  refine br ?_ ?_
  ·intro h2
   have h3:r.id=s:=by simpa using h2
   rw [decide_eq_true h3] at hF
   simp only [ZZ,WW,Ze,reduceCtorEq,Nat.reduceAdd,Nat.reduceMul,Nat.reduceLeDiff,Nat.reduceLT,Nat.reduceEqDiff]
   refine ⟨_,_,_,rfl,?_⟩
   unfold showB rlOf
   rw [hF]
   rfl
  ·intro h2
   have h3:¬ r.id=s:=by simpa using h2
   rw [decide_eq_false h3] at hF
   simp only [ZZ,WW,Ze,reduceCtorEq,Nat.reduceAdd,Nat.reduceMul,Nat.reduceLeDiff,Nat.reduceLT,Nat.reduceEqDiff]
   ((repeat' (with_reducible apply And.intro))<;>try ((exact sc_)))
   refine end_round (l.length - (k+1)) [oo,.p (.str s),oo,oo,.adr (.l 4) 0,oo,oo,.p (.sl 3 (rlE l)),.p (int (l.length:Nat)),.p (int ((k+1):Nat)),oo,oo,oo,oo,oo,oo,oo,oo,oo,oo,oo] [(.l 4,.box [.p (.str []),.p (int 0),.p (.nl 2)] 76)] (by omega) (by (simp only [ZZ,WW,Ze,reduceCtorEq,Nat.reduceAdd,Nat.reduceMul,Nat.reduceLeDiff,Nat.reduceLT,Nat.reduceEqDiff];try trivial)) (by (simp only [ZZ,WW,Ze,reduceCtorEq,Nat.reduceAdd,Nat.reduceMul,Nat.reduceLeDiff,Nat.reduceLT,Nat.reduceEqDiff];try trivial)) ⟨k+1,by omega,rfl,hF,rfl,rfl⟩
 intro h
 have hge:l.length≤k:=by have:=of_decide_eq_false h;omega
 rw [List.drop_eq_nil_of_le hge] at hF
 simp only [ZZ,WW,Ze,reduceCtorEq,Nat.reduceAdd,Nat.reduceMul,Nat.reduceLeDiff,Nat.reduceLT,Nat.reduceEqDiff]
 refine ⟨_,_,_,rfl,?_⟩
 unfold showB rlOf
 rw [hF]
 rfl
theorem show2_ok (l:List Rul) (hl:l.length≤1000000) (s:List UInt8):PCall Tryz.prog E 85 [.str s,.ptr [.sl 3 (rlE l)]] (·=.bool (showB l s)):=by
 refine pcallF mixed Tryz.func85 ck_chaseref1_ChosenOf_1 ?_
 simp only [a0,l0,OS.ao,List.map_cons,List.map_nil,List.length_cons,List.length_nil,List.cons_append,List.nil_append,Nat.reduceSub,Nat.reduceAdd,List.replicate_succ,List.replicate_zero,ir_chaseref1_ChosenOf_1,rs_chaseref1_ChosenOf_1,ZZ,WW,Ze,reduceCtorEq,Nat.reduceAdd,Nat.reduceMul,Nat.reduceLeDiff,Nat.reduceLT,Nat.reduceEqDiff]
 refine use (rulingOf_ok l hl s) rfl (.inl rfl) ?_
 rintro _ ⟨i,w,v,rfl,h⟩
 simp only [ZZ,WW,Ze,reduceCtorEq,Nat.reduceAdd,Nat.reduceMul,Nat.reduceLeDiff,Nat.reduceLT,Nat.reduceEqDiff]
 exact congrArg PV.bool h
theorem cmpR_ok {il:List Itm} (hP:PapOk il) {order:Int} (ho:order=1∨order=2∨order=3) (s t:List UInt8) (a b:List (List PV)):PCall Tryz.prog E 88 [.agg [.str s,.sl 1 a],.agg [.str t,.sl 1 b],.ptr [.sl 7 (itE il)],.ptr [int order]] (·=int (cfR il order s t)):=by
 rw [cfR,cf3]
 unfold whoC whenR
 have i1:=itemOf_ok (E:=E) il hP s
 have i2:=itemOf_ok (E:=E) il hP t
 simp only [itC] at i1 i2
 generalize itOf il s=x at *
 generalize itOf il t=y at *
 generalize (getI il s).isSome=b1 at *
 generalize (getI il t).isSome=b2 at *
 have e12:decide ((1:Int)=2)=false:=rfl
 have e21:decide ((2:Int)=1)=false:=rfl
 have e31:decide ((3:Int)=1)=false:=rfl
 have e32:decide ((3:Int)=2)=false:=rfl
 rcases ho with rfl|rfl|rfl
 ·skip
  refine pcallF mixed Tryz.func88 ck_chaseref1_ChosenOf_2 ?_
  simp only [a0,l0,OS.ao,List.map_cons,List.map_nil,List.length_cons,List.length_nil,List.cons_append,List.nil_append,Nat.reduceSub,Nat.reduceAdd,List.replicate_succ,List.replicate_zero,ir_chaseref1_ChosenOf_2,rs_chaseref1_ChosenOf_2,ZZ,WW,Ze,reduceCtorEq,Nat.reduceAdd,Nat.reduceMul,Nat.reduceLeDiff,Nat.reduceLT,Nat.reduceEqDiff]
  refine use1 i1 rfl (.inl rfl) ?_
  simp only [ZZ,WW,Ze,reduceCtorEq,Nat.reduceAdd,Nat.reduceMul,Nat.reduceLeDiff,Nat.reduceLT,Nat.reduceEqDiff]
  refine use1 i2 rfl (.inl rfl) ?_
  simp only [ZZ,WW,Ze,reduceCtorEq,Nat.reduceAdd,Nat.reduceMul,Nat.reduceLeDiff,Nat.reduceLT,Nat.reduceEqDiff]
  refine ⟨[int (Lib.compareBytes x.2.1 y.2.1),int (sgnC x.2.2.2.2.1 y.2.2.2.2.1)],?_⟩
  simp only [ZZ,WW,Ze,reduceCtorEq,Nat.reduceAdd,Nat.reduceMul,Nat.reduceLeDiff,Nat.reduceLT,Nat.reduceEqDiff]
  refine ⟨usep (StrCompare_ok x.2.1 y.2.1) rfl (.inl rfl),usep (CompareI_ok x.2.2.2.2.1 y.2.2.2.2.1) rfl (.inl rfl),?_⟩
  simp only [ZZ,WW,Ze,reduceCtorEq,Nat.reduceAdd,Nat.reduceMul,Nat.reduceLeDiff,Nat.reduceLT,Nat.reduceEqDiff,e12,e21,e31,e32,decide_true,decide_false]
  refine cut_re _ _ ReOk.refl ?_
  simp only [ZZ,WW,Ze,reduceCtorEq,Nat.reduceAdd,Nat.reduceMul,Nat.reduceLeDiff,Nat.reduceLT,Nat.reduceEqDiff]
  refine use1 (StrCompare_ok s t) rfl (.inl rfl) ?_
  simp only [ZZ,WW,Ze,reduceCtorEq,Nat.reduceAdd,Nat.reduceMul,Nat.reduceLeDiff,Nat.reduceLT,Nat.reduceEqDiff]
  refine use1 (OrI_ok [0,0,Lib.compareBytes s t] (by simp)) rfl (.inl rfl) ?_
  simp only [ZZ,WW,Ze,reduceCtorEq,Nat.reduceAdd,Nat.reduceMul,Nat.reduceLeDiff,Nat.reduceLT,Nat.reduceEqDiff]
  rfl
 ·skip
  refine pcallF mixed Tryz.func88 ck_chaseref1_ChosenOf_2 ?_
  simp only [a0,l0,OS.ao,List.map_cons,List.map_nil,List.length_cons,List.length_nil,List.cons_append,List.nil_append,Nat.reduceSub,Nat.reduceAdd,List.replicate_succ,List.replicate_zero,ir_chaseref1_ChosenOf_2,rs_chaseref1_ChosenOf_2,ZZ,WW,Ze,reduceCtorEq,Nat.reduceAdd,Nat.reduceMul,Nat.reduceLeDiff,Nat.reduceLT,Nat.reduceEqDiff]
  refine use1 i1 rfl (.inl rfl) ?_
  simp only [ZZ,WW,Ze,reduceCtorEq,Nat.reduceAdd,Nat.reduceMul,Nat.reduceLeDiff,Nat.reduceLT,Nat.reduceEqDiff]
  refine use1 i2 rfl (.inl rfl) ?_
  simp only [ZZ,WW,Ze,reduceCtorEq,Nat.reduceAdd,Nat.reduceMul,Nat.reduceLeDiff,Nat.reduceLT,Nat.reduceEqDiff]
  refine ⟨[int (Lib.compareBytes x.2.1 y.2.1),int (sgnC x.2.2.2.2.1 y.2.2.2.2.1)],?_⟩
  simp only [ZZ,WW,Ze,reduceCtorEq,Nat.reduceAdd,Nat.reduceMul,Nat.reduceLeDiff,Nat.reduceLT,Nat.reduceEqDiff]
  refine ⟨usep (StrCompare_ok x.2.1 y.2.1) rfl (.inl rfl),usep (CompareI_ok x.2.2.2.2.1 y.2.2.2.2.1) rfl (.inl rfl),?_⟩
  simp only [ZZ,WW,Ze,reduceCtorEq,Nat.reduceAdd,Nat.reduceMul,Nat.reduceLeDiff,Nat.reduceLT,Nat.reduceEqDiff,e12,e21,e31,e32,decide_true,decide_false]
  refine cut_re _ _ ReOk.refl ?_
  simp only [ZZ,WW,Ze,reduceCtorEq,Nat.reduceAdd,Nat.reduceMul,Nat.reduceLeDiff,Nat.reduceLT,Nat.reduceEqDiff]
  refine use1 (StrCompare_ok s t) rfl (.inl rfl) ?_
  simp only [ZZ,WW,Ze,reduceCtorEq,Nat.reduceAdd,Nat.reduceMul,Nat.reduceLeDiff,Nat.reduceLT,Nat.reduceEqDiff]
  refine use1 (OrI_ok [0,sgnC x.2.2.2.2.1 y.2.2.2.2.1,Lib.compareBytes s t] (by simp)) rfl (.inl rfl) ?_
  simp only [ZZ,WW,Ze,reduceCtorEq,Nat.reduceAdd,Nat.reduceMul,Nat.reduceLeDiff,Nat.reduceLT,Nat.reduceEqDiff]
  rfl
 ·skip
  refine pcallF mixed Tryz.func88 ck_chaseref1_ChosenOf_2 ?_
  simp only [a0,l0,OS.ao,List.map_cons,List.map_nil,List.length_cons,List.length_nil,List.cons_append,List.nil_append,Nat.reduceSub,Nat.reduceAdd,List.replicate_succ,List.replicate_zero,ir_chaseref1_ChosenOf_2,rs_chaseref1_ChosenOf_2,ZZ,WW,Ze,reduceCtorEq,Nat.reduceAdd,Nat.reduceMul,Nat.reduceLeDiff,Nat.reduceLT,Nat.reduceEqDiff]
  refine use1 i1 rfl (.inl rfl) ?_
  simp only [ZZ,WW,Ze,reduceCtorEq,Nat.reduceAdd,Nat.reduceMul,Nat.reduceLeDiff,Nat.reduceLT,Nat.reduceEqDiff]
  refine use1 i2 rfl (.inl rfl) ?_
  simp only [ZZ,WW,Ze,reduceCtorEq,Nat.reduceAdd,Nat.reduceMul,Nat.reduceLeDiff,Nat.reduceLT,Nat.reduceEqDiff]
  refine ⟨[int (Lib.compareBytes x.2.1 y.2.1),int (sgnC x.2.2.2.2.1 y.2.2.2.2.1)],?_⟩
  simp only [ZZ,WW,Ze,reduceCtorEq,Nat.reduceAdd,Nat.reduceMul,Nat.reduceLeDiff,Nat.reduceLT,Nat.reduceEqDiff]
  refine ⟨usep (StrCompare_ok x.2.1 y.2.1) rfl (.inl rfl),usep (CompareI_ok x.2.2.2.2.1 y.2.2.2.2.1) rfl (.inl rfl),?_⟩
  simp only [ZZ,WW,Ze,reduceCtorEq,Nat.reduceAdd,Nat.reduceMul,Nat.reduceLeDiff,Nat.reduceLT,Nat.reduceEqDiff,e12,e21,e31,e32,decide_true,decide_false]
  refine cut_re _ _ ReOk.refl ?_
  simp only [ZZ,WW,Ze,reduceCtorEq,Nat.reduceAdd,Nat.reduceMul,Nat.reduceLeDiff,Nat.reduceLT,Nat.reduceEqDiff]
  refine use1 (StrCompare_ok s t) rfl (.inl rfl) ?_
  simp only [ZZ,WW,Ze,reduceCtorEq,Nat.reduceAdd,Nat.reduceMul,Nat.reduceLeDiff,Nat.reduceLT,Nat.reduceEqDiff]
  refine use1 (OrI_ok [Lib.compareBytes x.2.1 y.2.1,sgnC x.2.2.2.2.1 y.2.2.2.2.1,Lib.compareBytes s t] (by simp)) rfl (.inl rfl) ?_
  simp only [ZZ,WW,Ze,reduceCtorEq,Nat.reduceAdd,Nat.reduceMul,Nat.reduceLeDiff,Nat.reduceLT,Nat.reduceEqDiff]
  rfl
set_option maxHeartbeats 4000000 in
theorem ChosenOf_ok (il:List Itm) (hP:PapOk il) (h12:il.length≤12) (l:List Rul) (hl:l.length≤1000000) (order:Int) (ho:order=1∨order=2∨order=3):PCall Tryz.prog E 26 [.sl 7 (itE il),.sl 3 (rlE l),int order] (·=.sl 2 ((chS il l order).map (encF il))):=by
 have hFO:=FamiliesOf_ok (E:=E) il hP h12
 have hfe:(famF il).map fmC=(topsF il).map (encF il):=famF_enc il
 rw [hfe] at hFO
 have hTl:(topsF il).length≤12:=Nat.le_trans (kidsF_len il []) h12
 refine pcallF mixed Tryz.func26 ck_chaseref1_ChosenOf ?_
 simp only [a0,l0,OS.ao,List.map_cons,List.map_nil,List.length_cons,List.length_nil,List.cons_append,List.nil_append,Nat.reduceSub,Nat.reduceAdd,List.replicate_succ,List.replicate_zero,ir_chaseref1_ChosenOf,rs_chaseref1_ChosenOf,ZZ,WW,Ze,reduceCtorEq,Nat.reduceAdd,Nat.reduceMul,Nat.reduceLeDiff,Nat.reduceLT,Nat.reduceEqDiff]
 rw [ops_re]
 refine ⟨_,_,ReOk.trans (re_box (k:=.l 3) (cs:=[.sl 7 (itE il)]) rfl) (ReOk.trans (re_box (k:=.l 4) (cs:=[.sl 3 (rlE l)]) rfl) (re_box (k:=.l 5) (cs:=[int order]) rfl)),?_⟩
 simp only [ZZ,WW,Ze,reduceCtorEq,Nat.reduceAdd,Nat.reduceMul,Nat.reduceLeDiff,Nat.reduceLT,Nat.reduceEqDiff]
 refine use1 hFO rfl (.inl rfl) ?_
 simp only [ZZ,WW,Ze,reduceCtorEq,Nat.reduceAdd,Nat.reduceMul,Nat.reduceLeDiff,Nat.reduceLT,Nat.reduceEqDiff,List.length_map]
 refine loop_intro (fun n fr L=>∃ (k:Nat) (w:List (List PV)),k≤(topsF il).length∧n=(topsF il).length - k∧(w=(((topsF il).take k).filter (fun s=>(s :: kidsF il s).any (showB l))).map (encF il))∧fr=[oo,oo,oo,.p (.ptr [.sl 7 (itE il)]),.p (.ptr [.sl 3 (rlE l)]),.p (.ptr [int order]),oo,.row (.l 7),oo,oo,oo,.p (.sl 2 ((topsF il).map (encF il))),.p (int ((topsF il).length:Nat)),.p (int (k:Nat)),oo,oo,oo,oo,oo,oo,oo,oo,oo,oo,oo,oo,oo,oo,oo,oo]∧L=[(.l 7,.row w 119 2 true)]) ((topsF il).length) [oo,oo,oo,.p (.ptr [.sl 7 (itE il)]),.p (.ptr [.sl 3 (rlE l)]),.p (.ptr [int order]),oo,.row (.l 7),oo,oo,oo,.p (.sl 2 ((topsF il).map (encF il))),.p (int ((topsF il).length:Nat)),.p (int (0:Nat)),oo,oo,oo,oo,oo,oo,oo,oo,oo,oo,oo,oo,oo,oo,oo,oo] [(.l 7,.row [] 119 2 true)] (by simp only [ZZ,WW,Ze,reduceCtorEq,Nat.reduceAdd,Nat.reduceMul,Nat.reduceLeDiff,Nat.reduceLT,Nat.reduceEqDiff,List.length_map];try trivial) (by (simp only [ZZ,WW,Ze,reduceCtorEq,Nat.reduceAdd,Nat.reduceMul,Nat.reduceLeDiff,Nat.reduceLT,Nat.reduceEqDiff];try trivial)) ⟨0,[],by omega,by omega,rfl,rfl,rfl⟩ ?_
 rintro n fr L ⟨k,w,hk,rfl,hw,rfl,rfl⟩
 simp only [ir_chaseref1_ChosenOf_L0,ZZ,WW,Ze,reduceCtorEq,Nat.reduceAdd,Nat.reduceMul,Nat.reduceLeDiff,Nat.reduceLT,Nat.reduceEqDiff]
 refine br ?_ ?_
 ·intro h
  have hlt:k < (topsF il).length:=by have:=of_decide_eq_true h;omega
  obtain ⟨x,hx⟩:∃ x,(topsF il)[k]?=some x:=⟨_,List.getElem?_eq_getElem hlt⟩
  have hg:((topsF il).map (encF il)).getD k []=[.str x,.sl 1 (strE (x :: kidsF il x))]:=getD_map hx
  have htk:(topsF il).take (k+1)=(topsF il).take k++[x]:=by rw [List.take_succ_eq_append_getElem hlt,(List.getElem?_eq_some_iff.1 hx).2]
  have hwl:w.length≤12:=by
   rw [hw,List.length_map]
   refine Nat.le_trans (List.length_filter_le _ _) ?_
   rw [List.length_take]
   omega
  have hkl:(kidsF il x).length≤12:=Nat.le_trans (kidsF_len il x) h12
  have hc:=ContainsFuncT_ok (E:=E) (x :: kidsF il x) 85 [.ptr [.sl 3 (rlE l)]] (showB l) (by simp;omega) (fun _=>by kernel_rfl) rfl (fun y _=>show2_ok l hl y) (fun _=>rfl) (fun _=>rfl)
  simp only [ZZ,WW,Ze,reduceCtorEq,Nat.reduceAdd,Nat.reduceMul,Nat.reduceLeDiff,Nat.reduceLT,Nat.reduceEqDiff,hg,List.length_map]
  ((repeat' (with_reducible apply And.intro))<;>try ((exact sc_)))
  refine use1 hc rfl (.inr rfl) ?_
  simp only [ZZ,WW,Ze,reduceCtorEq,Nat.reduceAdd,Nat.reduceMul,Nat.reduceLeDiff,Nat.reduceLT,Nat.reduceEqDiff]
  refine br ?_ ?_
  ·intro h2
   simp only [ZZ,WW,Ze,reduceCtorEq,Nat.reduceAdd,Nat.reduceMul,Nat.reduceLeDiff,Nat.reduceLT,Nat.reduceEqDiff]
   ((repeat' (with_reducible apply And.intro))<;>try ((exact sc_)))
   refine cut_re _ _ ReOk.refl ?_
   simp only [ZZ,WW,Ze,reduceCtorEq,Nat.reduceAdd,Nat.reduceMul,Nat.reduceLeDiff,Nat.reduceLT,Nat.reduceEqDiff]
   ((repeat' (with_reducible apply And.intro))<;>try ((exact sc_)))
   refine end_round ((topsF il).length - (k+1)) [oo,oo,oo,.p (.ptr [.sl 7 (itE il)]),.p (.ptr [.sl 3 (rlE l)]),.p (.ptr [int order]),oo,.row (.l 7),oo,oo,oo,.p (.sl 2 ((topsF il).map (encF il))),.p (int ((topsF il).length:Nat)),.p (int ((k+1):Nat)),oo,oo,oo,oo,oo,oo,oo,oo,oo,oo,oo,oo,oo,oo,oo,oo] [(.l 7,.row (w++[[.str x,.sl 1 (strE (x :: kidsF il x))]]) 119 2 true)] (by omega) (by (simp only [ZZ,WW,Ze,reduceCtorEq,Nat.reduceAdd,Nat.reduceMul,Nat.reduceLeDiff,Nat.reduceLT,Nat.reduceEqDiff];try trivial)) (by (simp only [ZZ,WW,Ze,reduceCtorEq,Nat.reduceAdd,Nat.reduceMul,Nat.reduceLeDiff,Nat.reduceLT,Nat.reduceEqDiff];try trivial)) ⟨k+1,w++[[.str x,.sl 1 (strE (x :: kidsF il x))]],by omega,rfl,by rw [htk,List.filter_append,List.map_append,← hw,List.filter_cons,if_pos h2];rfl,rfl,rfl⟩
  ·intro h2
   simp only [ZZ,WW,Ze,reduceCtorEq,Nat.reduceAdd,Nat.reduceMul,Nat.reduceLeDiff,Nat.reduceLT,Nat.reduceEqDiff]
   ((repeat' (with_reducible apply And.intro))<;>try ((exact sc_)))
   refine cut_re _ _ ReOk.refl ?_
   simp only [ZZ,WW,Ze,reduceCtorEq,Nat.reduceAdd,Nat.reduceMul,Nat.reduceLeDiff,Nat.reduceLT,Nat.reduceEqDiff]
   ((repeat' (with_reducible apply And.intro))<;>try ((exact sc_)))
   refine end_round ((topsF il).length - (k+1)) [oo,oo,oo,.p (.ptr [.sl 7 (itE il)]),.p (.ptr [.sl 3 (rlE l)]),.p (.ptr [int order]),oo,.row (.l 7),oo,oo,oo,.p (.sl 2 ((topsF il).map (encF il))),.p (int ((topsF il).length:Nat)),.p (int ((k+1):Nat)),oo,oo,oo,oo,oo,oo,oo,oo,oo,oo,oo,oo,oo,oo,oo,oo] [(.l 7,.row w 119 2 true)] (by omega) (by (simp only [ZZ,WW,Ze,reduceCtorEq,Nat.reduceAdd,Nat.reduceMul,Nat.reduceLeDiff,Nat.reduceLT,Nat.reduceEqDiff];try trivial)) (by (simp only [ZZ,WW,Ze,reduceCtorEq,Nat.reduceAdd,Nat.reduceMul,Nat.reduceLeDiff,Nat.reduceLT,Nat.reduceEqDiff];try trivial)) ⟨k+1,w,by omega,rfl,by rw [htk,List.filter_append,List.map_append,← hw,List.filter_cons,if_neg (by rw [h2];simp)];simp,rfl,rfl⟩
 intro h
 have hge:(topsF il).length≤k:=by have:=of_decide_eq_false h;omega
 rw [List.take_of_length_le hge] at hw
 have hw:w=(chT il l).map fun s=>[PV.str s,.sl 1 (strE (s :: kidsF il s))]:=hw
 subst hw
 simp only [ZZ,WW,Ze,reduceCtorEq,Nat.reduceAdd,Nat.reduceMul,Nat.reduceLeDiff,Nat.reduceLT,Nat.reduceEqDiff]
 refine useR (SortFFam_ok (fun s=>s) (fun s=>strE (s :: kidsF il s)) (cfR il order) (by rw [← cf_same];exact (cfP_cmp il order).ord) 88 [.ptr [.sl 7 (itE il)],.ptr [int order]] (fun _=>by kernel_rfl) (chT il l) (Nat.le_trans (Nat.le_trans (List.length_filter_le _ _) (kidsF_len il [])) h12) (fun s _ t _=>cmpR_ok hP ho s t _ _) (fun _ _=>rfl) (fun _ _=>rfl)) rfl rfl rfl zE_ ?_
 rintro _ _ ⟨rfl,o,rfl,hp,hs⟩
 rw [← cf_same] at hs
 have hoe:=chS_uniq hp hs
 subst hoe
 simp only [ZZ,WW,Ze,reduceCtorEq,Nat.reduceAdd,Nat.reduceMul,Nat.reduceLeDiff,Nat.reduceLT,Nat.reduceEqDiff]
 rw [ops_re]
 refine ⟨_,_,ReOk.refl,?_⟩
 simp only [ZZ,WW,Ze,reduceCtorEq,Nat.reduceAdd,Nat.reduceMul,Nat.reduceLeDiff,Nat.reduceLT,Nat.reduceEqDiff]
 rfl
set_option maxRecDepth 100000 in
theorem SameFam1_ok (s:List UInt8) (T:List (List UInt8)) (hT:T.length≤1000):PCall Tryz.prog E 82 [.agg [.str s,.sl 1 (strE T)],.agg [.str s,.sl 1 (strE T)]] (·=.bool true):=by
 have hq:∀ l:List (List UInt8),decide (l=l)=true:=fun l=>decide_eq_true rfl
 refine pcallF mixed Tryz.func82 ck_chaseref1_SameFamilies_1 ?_
 simp only [a0,l0,OS.ao,List.map_cons,List.map_nil,List.length_cons,List.length_nil,List.cons_append,List.nil_append,Nat.reduceSub,Nat.reduceAdd,List.replicate_succ,List.replicate_zero,ir_chaseref1_SameFamilies_1,rs_chaseref1_SameFamilies_1,ZZ,WW,Ze,reduceCtorEq,Nat.reduceAdd,Nat.reduceMul,Nat.reduceLeDiff,Nat.reduceLT,Nat.reduceEqDiff]
 refine useG (fun _=>EqualT_ok T T (by omega)) rfl (.inl rfl) ?_
 simp only [ZZ,WW,Ze,reduceCtorEq,Nat.reduceAdd,Nat.reduceMul,Nat.reduceLeDiff,Nat.reduceLT,Nat.reduceEqDiff,hq]
 simp
set_option maxRecDepth 100000 in
theorem EqualFuncF_ok (il:List Itm) (hil:il.length≤20) (l:List (List UInt8)) (f:FuncId) (hl:l.length≤1000000000) (hfn:fnB Tryz.prog f=true) (hf:∀ s∈l,PCall Tryz.prog E f [.agg (encF il s),.agg (encF il s)] (·=.bool true)):PCall Tryz.prog E 81 [.sl 2 (l.map (encF il)),.sl 2 (l.map (encF il)),.clo f []] (·=.bool true):=by
 refine pcallF mixed Tryz.func81 ck_slices_EqualFunc_api_Family_api_Family_api_Family_api_Family ?_
 simp only [a0,l0,OS.ao,List.map_cons,List.map_nil,List.length_cons,List.length_nil,List.cons_append,List.nil_append,Nat.reduceSub,Nat.reduceAdd,List.replicate_succ,List.replicate_zero,ir_slices_EqualFunc_api_Family_api_Family_api_Family_api_Family,rs_slices_EqualFunc_api_Family_api_Family_api_Family_api_Family,ZZ,WW,Ze,reduceCtorEq,Nat.reduceAdd,Nat.reduceMul,Nat.reduceLeDiff,Nat.reduceLT,Nat.reduceEqDiff]
 simp only [ZZ,WW,Ze,reduceCtorEq,Nat.reduceAdd,Nat.reduceMul,Nat.reduceLeDiff,Nat.reduceLT,Nat.reduceEqDiff,List.length_map,decide_true,Bool.not_true]
 refine loop_intro (fun n fr L=>∃ (k:Nat),k≤l.length∧n=l.length - k∧fr=[.p (.sl 2 (l.map (encF il))),.p (.sl 2 (l.map (encF il))),.p (.clo f []),oo,oo,oo,oo,oo,oo,oo,oo,oo,oo,oo,oo,.p (.sl 2 (l.map (encF il))),.p (int (l.length:Nat)),.p (int (k:Nat)),oo,oo,oo,oo,oo,oo,oo,oo,oo,oo,oo,oo,oo,oo]∧L=[]) (l.length) [.p (.sl 2 (l.map (encF il))),.p (.sl 2 (l.map (encF il))),.p (.clo f []),oo,oo,oo,oo,oo,oo,oo,oo,oo,oo,oo,oo,.p (.sl 2 (l.map (encF il))),.p (int (l.length:Nat)),.p (int (0:Nat)),oo,oo,oo,oo,oo,oo,oo,oo,oo,oo,oo,oo,oo,oo] [] (by simp only [ZZ,WW,Ze,reduceCtorEq,Nat.reduceAdd,Nat.reduceMul,Nat.reduceLeDiff,Nat.reduceLT,Nat.reduceEqDiff,List.length_map];try trivial) (by (simp only [ZZ,WW,Ze,reduceCtorEq,Nat.reduceAdd,Nat.reduceMul,Nat.reduceLeDiff,Nat.reduceLT,Nat.reduceEqDiff];try trivial)) ⟨0,by omega,by omega,rfl,rfl⟩ ?_
 rintro n fr L ⟨k,hk,rfl,rfl,rfl⟩
 simp only [ir_slices_EqualFunc_api_Family_api_Family_api_Family_api_Family_L0,ZZ,WW,Ze,reduceCtorEq,Nat.reduceAdd,Nat.reduceMul,Nat.reduceLeDiff,Nat.reduceLT,Nat.reduceEqDiff]
 refine br ?_ ?_
 ·intro h
  have hlt:k < l.length:=by have:=of_decide_eq_true h;omega
  obtain ⟨c,hx⟩:∃ c,l[k]?=some c:=⟨_,List.getElem?_eq_getElem hlt⟩
  have hg:(l.map (encF il)).getD k []=encF il c:=getD_map hx
  simp only [encF] at hg
  simp only [ZZ,WW,Ze,reduceCtorEq,Nat.reduceAdd,Nat.reduceMul,Nat.reduceLeDiff,Nat.reduceLT,Nat.reduceEqDiff,hg,List.length_map,hfn]
  ((repeat' (with_reducible apply And.intro))<;>try ((exact sc_)))
  refine use1 (hf c (List.mem_of_getElem? hx)) rfl (.inl rfl) ?_
  simp only [ZZ,WW,Ze,reduceCtorEq,Nat.reduceAdd,Nat.reduceMul,Nat.reduceLeDiff,Nat.reduceLT,Nat.reduceEqDiff]
  ((repeat' (with_reducible apply And.intro))<;>try ((exact sc_)))
  refine end_round (l.length - (k+1)) [.p (.sl 2 (l.map (encF il))),.p (.sl 2 (l.map (encF il))),.p (.clo f []),oo,oo,oo,oo,oo,oo,oo,oo,oo,oo,oo,oo,.p (.sl 2 (l.map (encF il))),.p (int (l.length:Nat)),.p (int ((k+1):Nat)),oo,oo,oo,oo,oo,oo,oo,oo,oo,oo,oo,oo,oo,oo] [] (by omega) (by (simp only [ZZ,WW,Ze,reduceCtorEq,Nat.reduceAdd,Nat.reduceMul,Nat.reduceLeDiff,Nat.reduceLT,Nat.reduceEqDiff];try trivial)) (by (simp only [ZZ,WW,Ze,reduceCtorEq,Nat.reduceAdd,Nat.reduceMul,Nat.reduceLeDiff,Nat.reduceLT,Nat.reduceEqDiff];try trivial)) ⟨k+1,by omega,rfl,rfl,rfl⟩
 ·intro h
  have hge:l.length≤k:=by have:=of_decide_eq_false h;omega
  simp only [ZZ,WW,Ze,reduceCtorEq,Nat.reduceAdd,Nat.reduceMul,Nat.reduceLeDiff,Nat.reduceLT,Nat.reduceEqDiff]
set_option maxRecDepth 100000 in
theorem SameFamilies_ok (il:List Itm) (hil:il.length≤20) (l:List (List UInt8)) (hl:l.length≤1000000000):PCall Tryz.prog E 25 [.sl 2 (l.map (encF il)),.sl 2 (l.map (encF il))] (·=.bool true):=by
 refine pcallF mixed Tryz.func25 ck_chaseref1_SameFamilies ?_
 simp only [a0,l0,OS.ao,List.map_cons,List.map_nil,List.length_cons,List.length_nil,List.cons_append,List.nil_append,Nat.reduceSub,Nat.reduceAdd,List.replicate_succ,List.replicate_zero,ir_chaseref1_SameFamilies,rs_chaseref1_SameFamilies,ZZ,WW,Ze,reduceCtorEq,Nat.reduceAdd,Nat.reduceMul,Nat.reduceLeDiff,Nat.reduceLT,Nat.reduceEqDiff]
 refine use1 (EqualFuncF_ok il hil l _ hl (by kernel_rfl) (fun s _=>SameFam1_ok s (s :: kidsF il s) (by have:=kidsF_len il s;simp;omega))) rfl (.inl rfl) ?_
 simp only [ZZ,WW,Ze,reduceCtorEq,Nat.reduceAdd,Nat.reduceMul,Nat.reduceLeDiff,Nat.reduceLT,Nat.reduceEqDiff]
end
theorem chT_len (il:List Itm) (l:List Rul):(chT il l).length≤il.length:=Nat.le_trans (List.length_filter_le _ _) (kidsF_len il [])
theorem chS_len (il:List Itm) (l:List Rul) (order:Int):(chS il l order).length≤il.length:=by
 unfold chS
 rw [List.length_mergeSort]
 exact chT_len il l
set_option maxHeartbeats 4000000 in
theorem chosen_ok (il:List Itm) (hP:PapOk il) (h12:il.length≤12) (l:List Rul) (hl:l.length≤1000000) (hn:(l.map (·.id)).Nodup) (order:Int) (ho:order=1∨order=2∨order=3):PCall Tryz.prog E0 80 [.sl 7 (itE il),.sl 3 (rlE l),int order] (·=.sl 2 ((chS il l order).map (encF il))):=by
 refine pcallF mixed Tryz.func80 ck_produce_chosen ?_
 simp only [a0,l0,OS.ao,List.map_cons,List.map_nil,List.length_cons,List.length_nil,List.cons_append,List.nil_append,Nat.reduceSub,Nat.reduceAdd,List.replicate_succ,List.replicate_zero,ir_produce_chosen,rs_produce_chosen,ZZ,WW,Ze,reduceCtorEq,Nat.reduceAdd,Nat.reduceMul,Nat.reduceLeDiff,Nat.reduceLT,Nat.reduceEqDiff]
 refine use (pbyId_ok il (by omega)) rfl (.inl rfl) ?_
 rintro _ ⟨kv,rfl,hkv,hkn⟩
 simp only [ZZ,WW,Ze,reduceCtorEq,Nat.reduceAdd,Nat.reduceMul,Nat.reduceLeDiff,Nat.reduceLT,Nat.reduceEqDiff]
 refine use (rulings_ok il l (by omega) hl) rfl (.inl rfl) ?_
 rintro _ ⟨kw,rfl,hkw,hwn⟩
 simp only [ZZ,WW,Ze,reduceCtorEq,Nat.reduceAdd,Nat.reduceMul,Nat.reduceLeDiff,Nat.reduceLT,Nat.reduceEqDiff]
 ((repeat' (with_reducible apply And.intro))<;>try ((exact sc_)))
 rw [ops_re]
 refine ⟨_,_,ReOk.trans (re_box (k:=.l 5) (cs:=[int order]) rfl) (ReOk.trans (re_box (k:=.l 7) (cs:=[.mpv (kv.map (·.1)) (kv.map (·.2))]) rfl) (re_box (k:=.l 8) (cs:=[.mpv (kw.map (·.1)) (kw.map (·.2))]) rfl)),?_⟩
 simp only [ZZ,WW,Ze,reduceCtorEq,Nat.reduceAdd,Nat.reduceMul,Nat.reduceLeDiff,Nat.reduceLT,Nat.reduceEqDiff]
 refine use1 (Families_ok il hP) rfl (.inl rfl) ?_
 have hTl:(topsF il).length≤12:=Nat.le_trans (kidsF_len il []) h12
 simp only [ZZ,WW,Ze,reduceCtorEq,Nat.reduceAdd,Nat.reduceMul,Nat.reduceLeDiff,Nat.reduceLT,Nat.reduceEqDiff,List.length_map]
 ((repeat' (with_reducible apply And.intro))<;>try ((exact sc_)))
 refine loop_intro (fun n fr L=>∃ (k:Nat) (w:List (List PV)),k≤(topsF il).length∧n=(topsF il).length - k∧(w=(((topsF il).take k).filter (fun s=>(s :: kidsF il s).any (showB l))).map (encF il))∧fr=[oo,oo,oo,oo,oo,.p (.ptr [int order]),oo,.p (.ptr [.mpv (kv.map (·.1)) (kv.map (·.2))]),.p (.ptr [.mpv (kw.map (·.1)) (kw.map (·.2))]),oo,oo,.row (.l 11),oo,oo,oo,oo,oo,oo,oo,oo,oo,oo,oo,oo,.p (.sl 2 ((topsF il).map (encF il))),.p (int ((topsF il).length:Nat)),.p (int (k:Nat)),oo,oo,oo,oo,oo,oo,oo,oo,oo,oo,oo,oo,oo,oo,oo,oo]∧L=[(.l 11,.row w 119 2 true)]) ((topsF il).length) [oo,oo,oo,oo,oo,.p (.ptr [int order]),oo,.p (.ptr [.mpv (kv.map (·.1)) (kv.map (·.2))]),.p (.ptr [.mpv (kw.map (·.1)) (kw.map (·.2))]),oo,oo,.row (.l 11),oo,oo,oo,oo,oo,oo,oo,oo,oo,oo,oo,oo,.p (.sl 2 ((topsF il).map (encF il))),.p (int ((topsF il).length:Nat)),.p (int (0:Nat)),oo,oo,oo,oo,oo,oo,oo,oo,oo,oo,oo,oo,oo,oo,oo,oo] [(.l 11,.row [] 119 2 true)] (by simp only [ZZ,WW,Ze,reduceCtorEq,Nat.reduceAdd,Nat.reduceMul,Nat.reduceLeDiff,Nat.reduceLT,Nat.reduceEqDiff,List.length_map];try trivial) (by (simp only [ZZ,WW,Ze,reduceCtorEq,Nat.reduceAdd,Nat.reduceMul,Nat.reduceLeDiff,Nat.reduceLT,Nat.reduceEqDiff];try trivial)) ⟨0,[],by omega,by omega,rfl,rfl,rfl⟩ ?_
 rintro n fr L ⟨k,w,hk,rfl,hw,rfl,rfl⟩
 simp only [ir_produce_chosen_L0,ZZ,WW,Ze,reduceCtorEq,Nat.reduceAdd,Nat.reduceMul,Nat.reduceLeDiff,Nat.reduceLT,Nat.reduceEqDiff]
 refine br ?_ ?_
 ·intro h
  have hlt:k < (topsF il).length:=by have:=of_decide_eq_true h;omega
  obtain ⟨x,hx⟩:∃ x,(topsF il)[k]?=some x:=⟨_,List.getElem?_eq_getElem hlt⟩
  have hg:((topsF il).map (encF il)).getD k []=[.str x,.sl 1 (strE (x :: kidsF il x))]:=getD_map hx
  have htk:(topsF il).take (k+1)=(topsF il).take k++[x]:=by rw [List.take_succ_eq_append_getElem hlt,(List.getElem?_eq_some_iff.1 hx).2]
  have hwl:w.length≤12:=by
   rw [hw,List.length_map]
   refine Nat.le_trans (List.length_filter_le _ _) ?_
   rw [List.length_take]
   omega
  have hkl:(kidsF il x).length≤12:=Nat.le_trans (kidsF_len il x) h12
  have hc:=ContainsFuncT_ok (E:=E0) (x :: kidsF il x) 162 [.ptr [.mpv (kw.map (·.1)) (kw.map (·.2))]] (showB l) (by simp;omega) (fun _=>by kernel_rfl) rfl (fun y _=>show1_ok hkw hn y) (fun _=>rfl) (fun _=>rfl)
  simp only [ZZ,WW,Ze,reduceCtorEq,Nat.reduceAdd,Nat.reduceMul,Nat.reduceLeDiff,Nat.reduceLT,Nat.reduceEqDiff,hg,List.length_map]
  ((repeat' (with_reducible apply And.intro))<;>try ((exact sc_)))
  refine use1 hc rfl (.inr rfl) ?_
  simp only [ZZ,WW,Ze,reduceCtorEq,Nat.reduceAdd,Nat.reduceMul,Nat.reduceLeDiff,Nat.reduceLT,Nat.reduceEqDiff]
  refine br ?_ ?_
  ·intro h2
   simp only [ZZ,WW,Ze,reduceCtorEq,Nat.reduceAdd,Nat.reduceMul,Nat.reduceLeDiff,Nat.reduceLT,Nat.reduceEqDiff]
   ((repeat' (with_reducible apply And.intro))<;>try ((exact sc_)))
   refine cut_re _ _ ReOk.refl ?_
   simp only [ZZ,WW,Ze,reduceCtorEq,Nat.reduceAdd,Nat.reduceMul,Nat.reduceLeDiff,Nat.reduceLT,Nat.reduceEqDiff]
   ((repeat' (with_reducible apply And.intro))<;>try ((exact sc_)))
   refine end_round ((topsF il).length - (k+1)) [oo,oo,oo,oo,oo,.p (.ptr [int order]),oo,.p (.ptr [.mpv (kv.map (·.1)) (kv.map (·.2))]),.p (.ptr [.mpv (kw.map (·.1)) (kw.map (·.2))]),oo,oo,.row (.l 11),oo,oo,oo,oo,oo,oo,oo,oo,oo,oo,oo,oo,.p (.sl 2 ((topsF il).map (encF il))),.p (int ((topsF il).length:Nat)),.p (int ((k+1):Nat)),oo,oo,oo,oo,oo,oo,oo,oo,oo,oo,oo,oo,oo,oo,oo,oo] [(.l 11,.row (w++[[.str x,.sl 1 (strE (x :: kidsF il x))]]) 119 2 true)] (by omega) (by (simp only [ZZ,WW,Ze,reduceCtorEq,Nat.reduceAdd,Nat.reduceMul,Nat.reduceLeDiff,Nat.reduceLT,Nat.reduceEqDiff];try trivial)) (by (simp only [ZZ,WW,Ze,reduceCtorEq,Nat.reduceAdd,Nat.reduceMul,Nat.reduceLeDiff,Nat.reduceLT,Nat.reduceEqDiff];try trivial)) ⟨k+1,w++[[.str x,.sl 1 (strE (x :: kidsF il x))]],by omega,rfl,by rw [htk,List.filter_append,List.map_append,← hw,List.filter_cons,if_pos h2];rfl,rfl,rfl⟩
  ·intro h2
   simp only [ZZ,WW,Ze,reduceCtorEq,Nat.reduceAdd,Nat.reduceMul,Nat.reduceLeDiff,Nat.reduceLT,Nat.reduceEqDiff]
   ((repeat' (with_reducible apply And.intro))<;>try ((exact sc_)))
   refine cut_re _ _ ReOk.refl ?_
   simp only [ZZ,WW,Ze,reduceCtorEq,Nat.reduceAdd,Nat.reduceMul,Nat.reduceLeDiff,Nat.reduceLT,Nat.reduceEqDiff]
   ((repeat' (with_reducible apply And.intro))<;>try ((exact sc_)))
   refine end_round ((topsF il).length - (k+1)) [oo,oo,oo,oo,oo,.p (.ptr [int order]),oo,.p (.ptr [.mpv (kv.map (·.1)) (kv.map (·.2))]),.p (.ptr [.mpv (kw.map (·.1)) (kw.map (·.2))]),oo,oo,.row (.l 11),oo,oo,oo,oo,oo,oo,oo,oo,oo,oo,oo,oo,.p (.sl 2 ((topsF il).map (encF il))),.p (int ((topsF il).length:Nat)),.p (int ((k+1):Nat)),oo,oo,oo,oo,oo,oo,oo,oo,oo,oo,oo,oo,oo,oo,oo,oo] [(.l 11,.row w 119 2 true)] (by omega) (by (simp only [ZZ,WW,Ze,reduceCtorEq,Nat.reduceAdd,Nat.reduceMul,Nat.reduceLeDiff,Nat.reduceLT,Nat.reduceEqDiff];try trivial)) (by (simp only [ZZ,WW,Ze,reduceCtorEq,Nat.reduceAdd,Nat.reduceMul,Nat.reduceLeDiff,Nat.reduceLT,Nat.reduceEqDiff];try trivial)) ⟨k+1,w,by omega,rfl,by rw [htk,List.filter_append,List.map_append,← hw,List.filter_cons,if_neg (by rw [h2];simp)];simp,rfl,rfl⟩
 intro h
 have hge:(topsF il).length≤k:=by have:=of_decide_eq_false h;omega
 rw [List.take_of_length_le hge] at hw
 have hw:w=(chT il l).map fun s=>[PV.str s,.sl 1 (strE (s :: kidsF il s))]:=hw
 subst hw
 simp only [ZZ,WW,Ze,reduceCtorEq,Nat.reduceAdd,Nat.reduceMul,Nat.reduceLeDiff,Nat.reduceLT,Nat.reduceEqDiff]
 refine useR (SortFFam_ok (fun s=>s) (fun s=>strE (s :: kidsF il s)) (cfP il order) (cfP_cmp il order).ord 163 [.ptr [.mpv (kv.map (·.1)) (kv.map (·.2))],.ptr [int order]] (fun _=>by kernel_rfl) (chT il l) (Nat.le_trans (chT_len il l) h12) (fun s _ t _=>cmpP_ok hP hkv ho s t _ _) (fun _ _=>rfl) (fun _ _=>rfl)) rfl rfl rfl zE_ ?_
 rintro _ _ ⟨rfl,o,rfl,hp,hs⟩
 have hoe:=chS_uniq hp hs
 subst hoe
 simp only [ZZ,WW,Ze,reduceCtorEq,Nat.reduceAdd,Nat.reduceMul,Nat.reduceLeDiff,Nat.reduceLT,Nat.reduceEqDiff]
 rfl
theorem Chosen_ok (il:List Itm) (hP:PapOk il) (h12:il.length≤12) (l:List Rul) (hl:l.length≤1000000) (hb:∀ r∈l,r.spans.length≤1000000) (order:Int):PCall Tryz.prog E0 24 [.sl 7 (itE il),.sl 3 (rlE l),int order] (·=.tup [.sl 2 (if firstE [rulF il l,ordF order]=0 then (chS il l order).map (encF il) else []),int (firstE [rulF il l,ordF order])]):=by
 refine pcallF mixed Tryz.func24 ck_produce_Chosen ?_
 simp only [a0,l0,OS.ao,List.map_cons,List.map_nil,List.length_cons,List.length_nil,List.cons_append,List.nil_append,Nat.reduceSub,Nat.reduceAdd,List.replicate_succ,List.replicate_zero,ir_produce_Chosen,rs_produce_Chosen,ZZ,WW,Ze,reduceCtorEq,Nat.reduceAdd,Nat.reduceMul,Nat.reduceLeDiff,Nat.reduceLT,Nat.reduceEqDiff]
 refine use1 (CheckRulings_ok il hP l hl hb) rfl (.inl rfl) ?_
 simp only [ZZ,WW,Ze,reduceCtorEq,Nat.reduceAdd,Nat.reduceMul,Nat.reduceLeDiff,Nat.reduceLT,Nat.reduceEqDiff]
 refine use1 (orderError_ok order) rfl (.inl rfl) ?_
 simp only [ZZ,WW,Ze,reduceCtorEq,Nat.reduceAdd,Nat.reduceMul,Nat.reduceLeDiff,Nat.reduceLT,Nat.reduceEqDiff]
 refine use1 (First_ok [rulF il l,ordF order] (by simp)) rfl (.inl rfl) ?_
 simp only [ZZ,WW,Ze,reduceCtorEq,Nat.reduceAdd,Nat.reduceMul,Nat.reduceLeDiff,Nat.reduceLT,Nat.reduceEqDiff]
 refine br ?_ ?_
 ·intro h
  have h1:¬ firstE [rulF il l,ordF order]=0:=by simpa using h
  rw [if_neg h1]
  simp only [ZZ,WW,Ze,reduceCtorEq,Nat.reduceAdd,Nat.reduceMul,Nat.reduceLeDiff,Nat.reduceLT,Nat.reduceEqDiff]
  done
 ·intro h
  have h1:firstE [rulF il l,ordF order]=0:=by simpa using h
  obtain ⟨z1,z2⟩:=firstE2_zero h1
  have ho:order=1∨order=2∨order=3:=by
   unfold ordF whenE at z2
   split at z2
   ·cases z2
   ·rename_i h3
    have h4:inE order 1 3=true:=by simpa using h3
    unfold inE at h4
    simp only [Bool.and_eq_true,Bool.not_eq_true',decide_eq_true_eq,decide_eq_false_iff_not] at h4
    omega
  rw [if_pos h1,h1]
  simp only [ZZ,WW,Ze,reduceCtorEq,Nat.reduceAdd,Nat.reduceMul,Nat.reduceLeDiff,Nat.reduceLT,Nat.reduceEqDiff]
  refine use1 (chosen_ok il hP h12 l hl (rul_nodup z1) order ho) rfl (.inl rfl) ?_
  simp only [ZZ,WW,Ze,reduceCtorEq,Nat.reduceAdd,Nat.reduceMul,Nat.reduceLeDiff,Nat.reduceLT,Nat.reduceEqDiff]
def ir_slices_Clone_api_Span_api_Span:IC:=(.seq (.reg [qO 2 (.nilr 108 2)]) (.seq (.seq (.reg [qM 3 0,qO 4 (.isn (.t 3))]) (.cond (.t 4) (.seq (.reg [qO 2 (.nilr 108 2)]) .ret) .skip)) (.seq (.reg [qO 5 (.bsr 108 2 []),qM 6 0,qO 7 (.app 108 2 16 (.t 5) (.t 6)),qM 2 7]) .ret)))
def rs_slices_Clone_api_Span_api_Span:List IRes:=[.t 2]
theorem ck_slices_Clone_api_Span_api_Span:chkF Tryz.prog Tryz.f69 ir_slices_Clone_api_Span_api_Span rs_slices_Clone_api_Span_api_Span 8=true:=by kernel_rfl
def ir_chasemake_Stream_Rulings:IC:=(.seq (.reg [qO 4 (.mov (.c (.nl 3)))]) (.seq (.reg [qM 7 0,qM 8 1,qO 9 (.call 41 [.t 7,.t 8]),qM 5 9]) (.seq (.seq (.reg [qM 10 0,qO 11 (.call 9 [.t 10,.c (.int .i64 12)]),qM 12 11,⟨some 13,.mov (.t 5),(some (12,true))⟩,⟨some 14,.len (.t 13),(some (12,true))⟩,⟨some 15,.bin .gtr (.t 14) (.c (.int .i64 0)),(some (12,true))⟩,qO 16 (.pick (.t 12) (.t 15) (.c (.bool false)))]) (.cond (.t 16) (.seq (.reg [qM 17 5,qM 18 0,qM 19 5,qO 20 (.len (.t 19)),qO 21 (.call 10 [.t 18,.t 20]),qO 22 (.ixa 3 (.t 17) (.t 21)),qM 6 22]) (.seq (.reg [qM 23 0,qO 24 (.call 10 [.t 23,.c (.int .i64 4)])]) (.block 0 (.seq (.reg [qO 28 (.bin .eql (.t 24) (.c (.int .i64 0))),qM 27 28]) (.cond (.t 27) (.reg [qM 29 6,qM 30 0,qO 31 (.bsl 1 [.c (.str []),.c (.str [105,97]),.c (.str [122,122])]),qO 32 (.call 42 [.t 30,.t 31]),qO 33 (.nck (.t 29)),qO 34 (.fla 0 (.t 33)),⟨none,.st 1 (.t 34) (.t 32),none⟩]) (.seq (.reg [qO 36 (.bin .eql (.t 24) (.c (.int .i64 1))),qM 35 36]) (.cond (.t 35) (.reg [qM 37 6,qM 38 0,qO 39 (.call 19 [.t 38,.c (.int .i64 0),.c (.int .i64 4)]),qO 40 (.nck (.t 37)),qO 41 (.fla 1 (.t 40)),⟨none,.st 1 (.t 41) (.t 39),none⟩]) (.seq (.reg [qO 43 (.bin .eql (.t 24) (.c (.int .i64 2))),qM 42 43]) (.cond (.t 42) (.reg [qM 44 6,qM 45 6,qO 46 (.nck (.t 45)),qO 47 (.fla 2 (.t 46)),qO 48 (.ld 1 false (.t 47)),qO 49 (.call 69 [.t 48]),qM 50 0,qO 51 (.bsl 1 [.c (.int .i64 (-1)),.c (.int .i64 0)]),qO 52 (.call 43 [.t 50,.t 51]),qM 53 0,qO 54 (.bsl 1 [.c (.int .i64 0),.c (.int .i64 1),.c (.int .i64 20000)]),qO 55 (.call 43 [.t 53,.t 54]),⟨none,.fz (.t 52),none⟩,⟨none,.fz (.t 55),none⟩,qO 56 (.bld [.int .i64 0,.int .i64 0] [(0,1,.t 52),(1,1,.t 55)]),qO 57 (.bsl 2 [.t 56]),qO 58 (.app 108 2 16 (.t 49) (.t 57)),⟨none,.fz (.t 58),none⟩,qO 59 (.nck (.t 44)),qO 60 (.fla 2 (.t 59)),⟨none,.st 1 (.t 60) (.t 58),none⟩]) (.reg [qM 25 5,qO 26 (.call 70 [.t 25])])))))))))) .skip)) (.cut (.seq (.reg [qM 61 5,qM 4 61]) .ret)))))
def rs_chasemake_Stream_Rulings:List IRes:=[.t 4]
theorem ck_chasemake_Stream_Rulings:chkF Tryz.prog Tryz.f17 ir_chasemake_Stream_Rulings rs_chasemake_Stream_Rulings 62=true:=by kernel_rfl
section
variable {E:Envt}
theorem CloneSp_ok (es:List (List PV)) (hn:es.length≤1000000):FCall Tryz.prog E 69 [.sl 2 es] tSpan 2 (·=es):=by
 unfold FCall
 refine gcallR mixed Tryz.func69 ck_slices_Clone_api_Span_api_Span ?_
 simp only [a0,l0,OS.ao,List.map_cons,List.map_nil,List.length_cons,List.length_nil,List.cons_append,List.nil_append,Nat.reduceSub,Nat.reduceAdd,List.replicate_succ,List.replicate_zero,ir_slices_Clone_api_Span_api_Span,rs_slices_Clone_api_Span_api_Span,ZZ,WW,Ze,reduceCtorEq,Nat.reduceAdd,Nat.reduceMul,Nat.reduceLeDiff,Nat.reduceLT,Nat.reduceEqDiff]
 intro b hb
 refine br ?_ ?_
 ·intro h
  have:=hb h
  simp only [ZZ,WW,Ze,reduceCtorEq,Nat.reduceAdd,Nat.reduceMul,Nat.reduceLeDiff,Nat.reduceLT,Nat.reduceEqDiff]
  exact fin_F 2 [] rfl rfl this.symm
 ·intro h
  simp only [ZZ,WW,Ze,reduceCtorEq,Nat.reduceAdd,Nat.reduceMul,Nat.reduceLeDiff,Nat.reduceLT,Nat.reduceEqDiff]
  exact ⟨by omega,fin_F 5 es rfl rfl rfl⟩
theorem ReverseRl_ok (u:List Rul) (hu:u.length≤1000000):RCall Tryz.prog E 70 tRul 3 (rlE u) [] (fun x es'=>∃ w:List Rul,es'=rlE w∧w.length=u.length∧∀ r∈w,r∈u):=by
 unfold RCall
 refine gcallP mixed Tryz.func70 ck_slices_Reverse_api_Ruling_api_Ruling ?_
 simp only [a0,l0,OS.ao,List.map_cons,List.map_nil,List.length_cons,List.length_nil,List.cons_append,List.nil_append,Nat.reduceSub,Nat.reduceAdd,List.replicate_succ,List.replicate_zero,rlE_len,ir_slices_Reverse_api_Ruling_api_Ruling,rs_slices_Reverse_api_Ruling_api_Ruling,ZZ,WW,Ze,reduceCtorEq,Nat.reduceAdd,Nat.reduceMul,Nat.reduceLeDiff,Nat.reduceLT,Nat.reduceEqDiff]
 refine ⟨i64_of (by omega) (by omega),?_⟩
 refine loop_intro (fun n fr L=>∃ (c:Nat) (b:Nat) (w:List Rul),b=n∧(c+b=u.length)∧(w.length=u.length)∧(∀ r∈w,r∈u)∧fr=[.row (.b 0),oo,.p (int (c:Nat)),.p (int ((b:Nat) - 1)),oo,oo,oo,oo,oo,oo,oo,oo,oo,oo,oo,oo,oo,oo,oo,oo,oo,oo,oo,oo,oo,oo,oo,oo]∧L=[(.b 0,.row (rlE w) tRul 3 true)]) ((u.length)) [.row (.b 0),oo,.p (int (0:Nat)),.p (int (((u.length):Nat) - 1)),oo,oo,oo,oo,oo,oo,oo,oo,oo,oo,oo,oo,oo,oo,oo,oo,oo,oo,oo,oo,oo,oo,oo,oo] [(.b 0,.row (rlE u) tRul 3 true)] (by (simp only [ZZ,WW,Ze,reduceCtorEq,Nat.reduceAdd,Nat.reduceMul,Nat.reduceLeDiff,Nat.reduceLT,Nat.reduceEqDiff];try trivial)) (by (simp only [ZZ,WW,Ze,reduceCtorEq,Nat.reduceAdd,Nat.reduceMul,Nat.reduceLeDiff,Nat.reduceLT,Nat.reduceEqDiff];try trivial)) ⟨0,u.length,u,rfl,by omega,rfl,(fun r hr=>hr),rfl,rfl⟩ ?_
 rintro n fr L ⟨c,b,w,rfl,hcb,hwl,hwm,rfl,rfl⟩
 simp only [ir_slices_Reverse_api_Ruling_api_Ruling_L0,ZZ,WW,Ze,reduceCtorEq,Nat.reduceAdd,Nat.reduceMul,Nat.reduceLeDiff,Nat.reduceLT,Nat.reduceEqDiff]
 refine br ?_ ?_
 ·intro h
  have h2:c+1 < b:=by have:=of_decide_eq_true h;omega
  obtain ⟨i,rfl⟩:∃ i,b=i+1:=⟨b - 1,by omega⟩
  have e1:(((i+1:Nat):Int) - 1)=(i:Int):=by omega
  obtain ⟨s,hs⟩:∃ s,w[c]?=some s:=⟨_,List.getElem?_eq_getElem (by omega)⟩
  obtain ⟨t,ht⟩:∃ t,w[i]?=some t:=⟨_,List.getElem?_eq_getElem (by omega)⟩
  have g1:=rlE_get hs
  have g2:=rlE_get ht
  have s1:=rlE_set w c t.id t.what t.spans
  have g3:(rlE (w.set c t)).getD i []=[.str t.id,int t.what,.sl 2 (t.spans.map spn)]:=rlE_get (by rw [List.getElem?_set_ne (by omega)];exact ht)
  have s2:=rlE_set (w.set c t) i s.id s.what s.spans
  simp only [ZZ,WW,Ze,reduceCtorEq,Nat.reduceAdd,Nat.reduceMul,Nat.reduceLeDiff,Nat.reduceLT,Nat.reduceEqDiff,e1]
  refine drg0 ?_
  simp only [ZZ,WW,Ze,reduceCtorEq,Nat.reduceAdd,Nat.reduceMul,Nat.reduceLeDiff,Nat.reduceLT,Nat.reduceEqDiff,g1,g2,rlE_len,hwl,s1,g3,s2,List.length_set]
  have g5:=hwm s (List.mem_of_getElem? hs)
  have g6:=hwm t (List.mem_of_getElem? ht)
  refine ⟨⟨by omega,by omega⟩,by omega,⟨by omega,by omega⟩,by omega,⟨by omega,by omega⟩,by omega,⟨by omega,by omega⟩,by omega,i64_of (by omega) (by omega),i64_of (by omega) (by omega),?_⟩
  refine end_round ((i)) [.row (.b 0),oo,.p (int ((c+1):Nat)),.p (int (((i):Nat) - 1)),oo,oo,oo,oo,oo,oo,oo,oo,oo,oo,oo,oo,oo,oo,oo,oo,oo,oo,oo,oo,oo,oo,oo,oo] [(.b 0,.row (rlE ((w.set c t).set i s)) tRul 3 true)] (by omega) (by (simp only [ZZ,WW,Ze,reduceCtorEq,Nat.reduceAdd,Nat.reduceMul,Nat.reduceLeDiff,Nat.reduceLT,Nat.reduceEqDiff];try trivial)) (by (simp only [ZZ,WW,Ze,reduceCtorEq,Nat.reduceAdd,Nat.reduceMul,Nat.reduceLeDiff,Nat.reduceLT,Nat.reduceEqDiff];try trivial)) ⟨c+1,i,(w.set c t).set i s,rfl,by omega,by simp [hwl],by intro x hx;rcases List.mem_or_eq_of_mem_set hx with hx|rfl;(rcases List.mem_or_eq_of_mem_set hx with hx|rfl;(exact hwm x hx);(exact g6));exact g5,rfl,rfl⟩
 intro h
 simp only [ZZ,WW,Ze,reduceCtorEq,Nat.reduceAdd,Nat.reduceMul,Nat.reduceLeDiff,Nat.reduceLT,Nat.reduceEqDiff]
 exact fin_R _ rfl ⟨w,rfl,hwl,hwm⟩
theorem Rulings_ok (l:List Int) (k:Nat) (il:List Itm) (hil:il.length≤20) (hib:ItB il) (hk:k≤700000) (hl:l.length≤9223372036854775807) :
  SFresh Tryz.prog E 17 T (stm l k) [.sl 7 (itE il)] tRul 3 (fun es cs'=>∃ (o:List Rul) (k':Nat),es=rlE o∧o.length≤il.length∧(∀ r∈o,RlM 6 r)∧cs'=stm l k'∧k'≤k+1010):=by
 unfold SFresh
 refine gcallR mixed Tryz.func17 ck_chasemake_Stream_Rulings ?_
 simp only [a0,l0,OS.ao,List.map_cons,List.map_nil,List.length_cons,List.length_nil,List.cons_append,List.nil_append,Nat.reduceSub,Nat.reduceAdd,List.replicate_succ,List.replicate_zero,ir_chasemake_Stream_Rulings,rs_chasemake_Stream_Rulings,ZZ,WW,Ze,reduceCtorEq,Nat.reduceAdd,Nat.reduceMul,Nat.reduceLeDiff,Nat.reduceLT,Nat.reduceEqDiff]
 refine useSF (RightRulings_ok l k il hil hib hk hl) rfl rfl rfl zE_ ?_
 rintro es cs' ⟨u,k1,rfl,hu,hub,rfl,hk1⟩
 have hub6:∀ r∈u,RlM 6 r:=fun r hr=>⟨(hub r hr).b1,Nat.le_trans (hub r hr).b2 (by decide)⟩
 simp only [ZZ,WW,Ze,reduceCtorEq,Nat.reduceAdd,Nat.reduceMul,Nat.reduceLeDiff,Nat.reduceLT,Nat.reduceEqDiff]
 refine useS (Flip_ok l k1 12 (by omega) hl (by decide)) rfl rfl rfl zE_ ?_
 rintro x cs' ⟨b,rfl,rfl⟩
 simp only [ZZ,WW,Ze,reduceCtorEq,Nat.reduceAdd,Nat.reduceMul,Nat.reduceLeDiff,Nat.reduceLT,Nat.reduceEqDiff,rlE_len]
 refine br ?_ ?_
 rotate_left
 ·intro _
  simp only [ZZ,WW,Ze,reduceCtorEq,Nat.reduceAdd,Nat.reduceMul,Nat.reduceLeDiff,Nat.reduceLT,Nat.reduceEqDiff]
  refine cut_same zE_ ?_
  simp only [ZZ,WW,Ze,reduceCtorEq,Nat.reduceAdd,Nat.reduceMul,Nat.reduceLeDiff,Nat.reduceLT,Nat.reduceEqDiff]
  exact fin_SF 9 _ (stm l (k1+1)) rfl rfl rfl ⟨u,_,rfl,hu,hub6,rfl,by omega⟩
 intro h
 have hpos:0 < u.length:=by
  rw [Bool.and_eq_true] at h
  have:=of_decide_eq_true h.2
  omega
 simp only [ZZ,WW,Ze,reduceCtorEq,Nat.reduceAdd,Nat.reduceMul,Nat.reduceLeDiff,Nat.reduceLT,Nat.reduceEqDiff,rlE_len]
 refine useS (Next_ok l (k1+1) _ (by omega) hl (by omega)) rfl rfl rfl zE_ ?_
 rintro x cs' ⟨y,rfl,rfl⟩
 have b1:=below_lo y (u.length:Nat)
 have b2:=below_hi y (u.length:Nat) (by omega)
 obtain ⟨q,hq⟩:∃ q:Nat,below y (u.length:Nat)=(q:Nat):=⟨(below y (u.length:Nat)).toNat,by omega⟩
 rw [hq] at b1 b2 ⊢
 clear hq
 obtain ⟨m,hm⟩:∃ m,u[q]?=some m:=⟨_,List.getElem?_eq_getElem (by omega)⟩
 have hg:=rlE_get hm
 have hmb:=hub m (List.mem_of_getElem? hm)
 have hset:∀ r',RlM 6 r'→∀ r∈u.set q r',RlM 6 r:=fun r' hr' r hr=>by
  rcases List.mem_or_eq_of_mem_set hr with hr|rfl
  ·exact hub6 r hr
  ·exact hr'
 simp only [ZZ,WW,Ze,reduceCtorEq,Nat.reduceAdd,Nat.reduceMul,Nat.reduceLeDiff,Nat.reduceLT,Nat.reduceEqDiff,rlE_len]
 ((repeat' (with_reducible apply And.intro))<;>try ((exact sc_)))
 refine useS (Next_ok l (k1+1+1) 4 (by omega) hl (by decide)) rfl rfl rfl zE_ ?_
 rintro x cs' ⟨y2,rfl,rfl⟩
 generalize below y2 4=c
 simp only [ZZ,WW,Ze,reduceCtorEq,Nat.reduceAdd,Nat.reduceMul,Nat.reduceLeDiff,Nat.reduceLT,Nat.reduceEqDiff]
 refine br ?_ ?_
 ·intro _
  simp only [ZZ,WW,Ze,reduceCtorEq,Nat.reduceAdd,Nat.reduceMul,Nat.reduceLeDiff,Nat.reduceLT,Nat.reduceEqDiff]
  refine useS (one_ok l (k1+1+1+1) [[],[105,97],[122,122]] (by omega) hl (by simp) (by simp)) rfl rfl rfl zE_ ?_
  rintro x cs' ⟨v,rfl,hv,rfl⟩
  have hv:v.length≤100:=by simp only [List.mem_cons,List.not_mem_nil,or_false] at hv;rcases hv with rfl|rfl|rfl<;>decide
  simp only [ZZ,WW,Ze,reduceCtorEq,Nat.reduceAdd,Nat.reduceMul,Nat.reduceLeDiff,Nat.reduceLT,Nat.reduceEqDiff,hg,rlE_len]
  ((repeat' (with_reducible apply And.intro))<;>try ((exact sc_)))
  rw [rlE_set u q v m.what m.spans]
  refine cut_same zE_ ?_
  simp only [ZZ,WW,Ze,reduceCtorEq,Nat.reduceAdd,Nat.reduceMul,Nat.reduceLeDiff,Nat.reduceLT,Nat.reduceEqDiff]
  exact fin_SF 9 _ (stm l (k1+1+1+1+1)) rfl rfl rfl ⟨_,_,rfl,by rw [List.length_set];exact hu,hset _ ⟨hv,Nat.le_trans hmb.b2 (by decide)⟩,rfl,by omega⟩
 intro _
 simp only [ZZ,WW,Ze,reduceCtorEq,Nat.reduceAdd,Nat.reduceMul,Nat.reduceLeDiff,Nat.reduceLT,Nat.reduceEqDiff]
 refine br ?_ ?_
 ·intro _
  simp only [ZZ,WW,Ze,reduceCtorEq,Nat.reduceAdd,Nat.reduceMul,Nat.reduceLeDiff,Nat.reduceLT,Nat.reduceEqDiff]
  refine useS (Range_ok l (k1+1+1+1) 0 4 (by omega) hl (by decide) (by decide) (by decide)) rfl rfl rfl zE_ ?_
  rintro x cs' ⟨v,rfl,hv0,hv1,rfl⟩
  simp only [ZZ,WW,Ze,reduceCtorEq,Nat.reduceAdd,Nat.reduceMul,Nat.reduceLeDiff,Nat.reduceLT,Nat.reduceEqDiff,hg,rlE_len]
  ((repeat' (with_reducible apply And.intro))<;>try ((exact sc_)))
  rw [rlE_set u q m.id v m.spans]
  refine cut_same zE_ ?_
  simp only [ZZ,WW,Ze,reduceCtorEq,Nat.reduceAdd,Nat.reduceMul,Nat.reduceLeDiff,Nat.reduceLT,Nat.reduceEqDiff]
  exact fin_SF 9 _ (stm l (k1+1+1+1+1)) rfl rfl rfl ⟨_,_,rfl,by rw [List.length_set];exact hu,hset _ ⟨hmb.b1,Nat.le_trans hmb.b2 (by decide)⟩,rfl,by omega⟩
 intro _
 simp only [ZZ,WW,Ze,reduceCtorEq,Nat.reduceAdd,Nat.reduceMul,Nat.reduceLeDiff,Nat.reduceLT,Nat.reduceEqDiff]
 refine br ?_ ?_
 ·intro _
  simp only [ZZ,WW,Ze,reduceCtorEq,Nat.reduceAdd,Nat.reduceMul,Nat.reduceLeDiff,Nat.reduceLT,Nat.reduceEqDiff,hg,rlE_len]
  ((repeat' (with_reducible apply And.intro))<;>try ((exact sc_)))
  refine useF (CloneSp_ok (m.spans.map spn) (by rw [List.length_map];have:=hmb.b2;omega)) rfl rfl ?_
  rintro es rfl
  simp only [ZZ,WW,Ze,reduceCtorEq,Nat.reduceAdd,Nat.reduceMul,Nat.reduceLeDiff,Nat.reduceLT,Nat.reduceEqDiff]
  refine useS (Pick_ok l (k1+1+1+1) [-1,0] (by omega) hl (by simp) (by simp)) rfl rfl rfl zE_ ?_
  rintro x cs' ⟨v1,rfl,hv1,rfl⟩
  simp only [ZZ,WW,Ze,reduceCtorEq,Nat.reduceAdd,Nat.reduceMul,Nat.reduceLeDiff,Nat.reduceLT,Nat.reduceEqDiff]
  refine useS (Pick_ok l (k1+1+1+1+1) [0,1,20000] (by omega) hl (by simp) (by simp)) rfl rfl rfl zE_ ?_
  rintro x cs' ⟨v2,rfl,hv2,rfl⟩
  have e1:m.spans.map spn++[[int v1,int v2]]=(m.spans++[(v1,v2)]).map spn:=by rw [List.map_append];rfl
  have h5:=hmb.b2
  simp only [ZZ,WW,Ze,reduceCtorEq,Nat.reduceAdd,Nat.reduceMul,Nat.reduceLeDiff,Nat.reduceLT,Nat.reduceEqDiff,hg,rlE_len,e1,List.length_map]
  ((repeat' (with_reducible apply And.intro))<;>try ((exact sc_)))
  rw [rlE_set u q m.id m.what (m.spans++[(v1,v2)])]
  refine cut_same zE_ ?_
  simp only [ZZ,WW,Ze,reduceCtorEq,Nat.reduceAdd,Nat.reduceMul,Nat.reduceLeDiff,Nat.reduceLT,Nat.reduceEqDiff]
  exact fin_SF 9 _ (stm l (k1+1+1+1+1+1)) rfl rfl rfl ⟨_,_,rfl,by rw [List.length_set];exact hu,hset _ ⟨hmb.b1,by rw [List.length_append];simp;omega⟩,rfl,by omega⟩
 ·intro _
  simp only [ZZ,WW,Ze,reduceCtorEq,Nat.reduceAdd,Nat.reduceMul,Nat.reduceLeDiff,Nat.reduceLT,Nat.reduceEqDiff]
  refine useR (ReverseRl_ok u (by omega)) rfl rfl rfl zE_ ?_
  rintro x es ⟨w,rfl,hw,hwm⟩
  simp only [ZZ,WW,Ze,reduceCtorEq,Nat.reduceAdd,Nat.reduceMul,Nat.reduceLeDiff,Nat.reduceLT,Nat.reduceEqDiff]
  refine cut_same zE_ ?_
  simp only [ZZ,WW,Ze,reduceCtorEq,Nat.reduceAdd,Nat.reduceMul,Nat.reduceLeDiff,Nat.reduceLT,Nat.reduceEqDiff]
  exact fin_SF 9 _ (stm l (k1+1+1+1)) rfl rfl rfl ⟨w,_,rfl,by omega,fun r hr=>hub6 r (hwm r hr),rfl,by omega⟩
end
def E4:Envt where
 ok w:=E0.ok w∧Lib.TabIs Tryz.prog w "internal/strconv.uint64pow10" .u64 Lib.pow10Tab
 bl b:=E0.bl b∨b=5
 mono w w' hb h:=⟨E0.mono w w' (fun b hbb=>hb b (.inl hbb)) h.1,(var_block (by kernel_rfl) (hb _ (.inr rfl))).trans h.2⟩
theorem up4 {f:FuncId} {args:List PV} {φ:PV→Prop} (h:PCall Tryz.prog E0 f args φ):PCall Tryz.prog E4 f args φ:=fun w U vs hU hE hEb hA=>h w U vs hU hE.1 (fun c hc=>hEb c (.inl hc)) hA
theorem Itoa_okP (n:Int) (h0:-9223372036854775808≤n) (h1:n≤9223372036854775807):PCall Tryz.prog E4 188 [int n] (·=.str (Lib.itoa n)):=
 pcall_flat rfl rfl fun w hE=>(Any.strconv_Itoa Tryz.layItoa n h0 h1 w hE.2).mono fun e w' h=>⟨h.1,by obtain ⟨k,os,rfl⟩:=h.2;exact grow_seq w k os⟩
section
variable {E:Envt}
theorem written_okP (p:List UInt8) (d n:Int) (hp:p.length≤8) (hd0:4≤d) (hd:d≤9) (h0:0≤n) (h1:n≤1000000000):PCall Tryz.prog E4 148 [.str p,int d,int n] (·=.str (writG Lib.itoa p d n)):=by
 refine pcallF mixed Tryz.func148 ck_produce_written ?_
 simp only [a0,l0,OS.ao,List.map_cons,List.map_nil,List.length_cons,List.length_nil,List.cons_append,List.nil_append,Nat.reduceSub,Nat.reduceAdd,List.replicate_succ,List.replicate_zero,ir_produce_written,rs_produce_written,ZZ,WW,Ze,reduceCtorEq,Nat.reduceAdd,Nat.reduceMul,Nat.reduceLeDiff,Nat.reduceLT,Nat.reduceEqDiff]
 refine use1 (Itoa_okP n (by omega) (by omega)) rfl (.inl rfl) ?_
 have hil:=itoa_len h0 (by omega)
 unfold writG
 generalize Lib.itoa n=it at *
 obtain ⟨m,hm⟩:=Int.eq_ofNat_of_zero_le (show 0≤max 0 (d - (it.length:Int)) by omega)
 have hm9:m≤9:=by omega
 rw [hm,Int.toNat_natCast]
 simp only [ZZ,WW,Ze,reduceCtorEq,Nat.reduceAdd,Nat.reduceMul,Nat.reduceLeDiff,Nat.reduceLT,Nat.reduceEqDiff,hm]
 ((repeat' (with_reducible apply And.intro))<;>try ((exact sc_)))
 refine use1 (Repeat_ok [48] m (by omega) (by simp)) rfl (.inl rfl) ?_
 have hrl:(Lib.repeatL [48] m).length≤9:=by rw [Lib.repeatL_length];simp;omega
 simp only [ZZ,WW,Ze,reduceCtorEq,Nat.reduceAdd,Nat.reduceMul,Nat.reduceLeDiff,Nat.reduceLT,Nat.reduceEqDiff]
 ((repeat' (with_reducible apply And.intro))<;>try ((exact sc_)))
theorem Number_okP (p:List UInt8) (d n:Int) (hp:p.length≤1000):PCall Tryz.prog E4 64 [.str p,int d,int n] (·=.tup [.str (numG Lib.itoa p d n).1,int (numG Lib.itoa p d n).2]):=by
 refine pcallF mixed Tryz.func64 ck_produce_Number ?_
 simp only [a0,l0,OS.ao,List.map_cons,List.map_nil,List.length_cons,List.length_nil,List.cons_append,List.nil_append,Nat.reduceSub,Nat.reduceAdd,List.replicate_succ,List.replicate_zero,ir_produce_Number,rs_produce_Number,ZZ,WW,Ze,reduceCtorEq,Nat.reduceAdd,Nat.reduceMul,Nat.reduceLeDiff,Nat.reduceLT,Nat.reduceEqDiff]
 refine use1 (headError_ok p d (by omega)) rfl (.inl rfl) ?_
 simp only [ZZ,WW,Ze,reduceCtorEq,Nat.reduceAdd,Nat.reduceMul,Nat.reduceLeDiff,Nat.reduceLT,Nat.reduceEqDiff]
 unfold numG
 refine br ?_ ?_
 ·intro h
  have h:¬ headF p d=0:=by simpa using h
  simp only [ZZ,WW,Ze,reduceCtorEq,Nat.reduceAdd,Nat.reduceMul,Nat.reduceLeDiff,Nat.reduceLT,Nat.reduceEqDiff]
  rw [if_neg h]
 ·intro h
  have h:headF p d=0:=by simpa using h
  obtain ⟨g1,g2,g3⟩:=headF_zero h
  have hb:=powF_bd g2
  rw [if_pos h]
  simp only [ZZ,WW,Ze,reduceCtorEq,Nat.reduceAdd,Nat.reduceMul,Nat.reduceLeDiff,Nat.reduceLT,Nat.reduceEqDiff]
  refine use1 (power_ok d (by omega) g2) rfl (.inl rfl) ?_
  simp only [ZZ,WW,Ze,reduceCtorEq,Nat.reduceAdd,Nat.reduceMul,Nat.reduceLeDiff,Nat.reduceLT,Nat.reduceEqDiff]
  ((repeat' (with_reducible apply And.intro))<;>try ((exact sc_)))
  refine use1 (In_ok n 1 (powF d - 1)) rfl (.inl rfl) ?_
  simp only [ZZ,WW,Ze,reduceCtorEq,Nat.reduceAdd,Nat.reduceMul,Nat.reduceLeDiff,Nat.reduceLT,Nat.reduceEqDiff]
  refine br ?_ ?_
  ·intro h2
   have h2:inE n 1 (powF d - 1)=false:=by simpa using h2
   simp only [ZZ,WW,Ze,reduceCtorEq,Nat.reduceAdd,Nat.reduceMul,Nat.reduceLeDiff,Nat.reduceLT,Nat.reduceEqDiff]
   rw [if_neg (by rw [h2];simp)]
  ·intro h2
   have h2:inE n 1 (powF d - 1)=true:=by simpa using h2
   have h3:=h2
   simp only [inE,Bool.and_eq_true,decide_eq_true_eq] at h3
   simp only [ZZ,WW,Ze,reduceCtorEq,Nat.reduceAdd,Nat.reduceMul,Nat.reduceLeDiff,Nat.reduceLT,Nat.reduceEqDiff]
   refine use1 (written_okP p d n g3 g1 g2 (by omega) (by omega)) rfl (.inl rfl) ?_
   simp only [ZZ,WW,Ze,reduceCtorEq,Nat.reduceAdd,Nat.reduceMul,Nat.reduceLeDiff,Nat.reduceLT,Nat.reduceEqDiff]
   rw [if_pos h2]
theorem produces_okP:PCall Tryz.prog E4 14 [] (·=.bool true):=by
 refine pcallF mixed Tryz.func14 ck_chaselaw1_produces ?_
 simp only [a0,l0,OS.ao,List.map_cons,List.map_nil,List.length_cons,List.length_nil,List.cons_append,List.nil_append,Nat.reduceSub,Nat.reduceAdd,List.replicate_succ,List.replicate_zero,ir_chaselaw1_produces,rs_chaselaw1_produces,ZZ,WW,Ze,reduceCtorEq,Nat.reduceAdd,Nat.reduceMul,Nat.reduceLeDiff,Nat.reduceLT,Nat.reduceEqDiff]
 refine use1 (Number_okP [65,66] 4 7 (by simp)) rfl (.inl rfl) ?_
 rw [numG_it (by omega) (by omega),show numG itD [65,66] 4 7=([65,66,48,48,48,55],0) from by decide +kernel]
 simp only [ZZ,WW,Ze,reduceCtorEq,Nat.reduceAdd,Nat.reduceMul,Nat.reduceLeDiff,Nat.reduceLT,Nat.reduceEqDiff]
 rfl
end
end Go.Proofs.YtehfjlpenlffmaaGreatDoor
