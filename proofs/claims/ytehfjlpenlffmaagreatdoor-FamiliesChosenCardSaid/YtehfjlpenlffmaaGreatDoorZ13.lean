import Derived.Test.YtehfjlpenlffmaaGreatDoorZ12
import Derived.Test.YtehfjlpenlffmaaGreatDoorZ10
import Derived.Test.YtehfjlpenlffmaaGreatDoorZ4
import Derived.Test.YtehfjlpenlffmaaGreatDoorLayBitsLen
import Derived.Test.YtehfjlpenlffmaaGreatDoorZ6
import Derived.Test.YtehfjlpenlffmaaGreatDoorLayCompare
import Derived.Test.YtehfjlpenlffmaaGreatDoorZ5
import Derived.Test.YtehfjlpenlffmaaGreatDoorZ8
set_option linter.unusedVariables false
set_option linter.unusedSimpArgs false
set_option linter.defProp false
namespace Go.Proofs.YtehfjlpenlffmaaGreatDoor
open Go.RowKit
def ir_produce_byId_L0:IC:=(.seq (.reg [qO 10 (.bin .lss (.t 9) (.t 8))]) (.seq (.cond (.t 10) .skip (.exit 0)) (.seq (.block 1 (.seq (.reg [qO 11 (.ixa 7 (.t 7) (.t 9)),qO 12 (.ld 7 true (.t 11)),qO 5 (.alc 80 [.str [],.str [],.int .i64 0,.str [],.int .i64 0,.str [],.str []]),⟨none,.st 7 (.t 5) (.t 12),none⟩]) (.reg [qM 13 3,qO 14 (.fla 0 (.t 5)),qO 15 (.ld 1 false (.t 14)),qO 16 (.ld 7 true (.t 5)),⟨none,.mpu (.t 13) (.t 15) (.t 16),none⟩]))) (.reg [qO 17 (.bin .add (.t 9) (.c (.int .i64 1))),qM 9 17]))))
def ir_produce_byId:IC:=(.seq (.reg [qO 2 (.mov (.c (.raw (.map none))))]) (.seq (.reg [qO 6 (.mkm 9 80),qM 3 6]) (.seq (.seq (.reg [qM 7 0,qO 8 (.len (.t 7)),qO 9 (.mov (.c (.int .i64 0)))]) (.block 0 (.loop ir_produce_byId_L0))) (.seq (.reg [qM 18 3,qM 2 18]) .ret))))
def rs_produce_byId:List IRes:=[.t 2]
theorem ck_produce_byId:chkF Tryz.prog Tryz.f78 ir_produce_byId rs_produce_byId 19=true:=by kernel_rfl
def ir_produce_CheckRulings_L0:IC:=(.seq (.reg [qO 28 (.bin .lss (.t 27) (.t 26))]) (.seq (.cond (.t 28) .skip (.exit 0)) (.seq (.block 1 (.seq (.reg [qM 29 27,qO 30 (.ixa 3 (.t 25) (.t 27)),qO 31 (.ld 3 true (.t 30)),qO 8 (.alc 76 [.str [],.int .i64 0,.nl 2]),qM 7 29,⟨none,.st 3 (.t 8) (.t 31),none⟩]) (.seq (.reg [qM 33 6,qO 34 (.fla 0 (.t 8)),qO 35 (.ld 1 false (.t 34)),qO 36 (.mpl true (.agg [.str [],.str [],.int .i64 0,.str [],.int .i64 0,.str [],.str []]) (.t 33) (.t 35)),qM 32 36,qO 37 (.ext 0 (.t 32)),qO 38 (.ext 1 (.t 32)),qO 9 (.alc 80 [.str [],.str [],.int .i64 0,.str [],.int .i64 0,.str [],.str []]),⟨none,.st 7 (.t 9) (.t 37),none⟩,qM 10 38]) (.seq (.drg [qM 39 10,qO 40 (.not (.t 39)),qO 41 (.pcall 0 50 [.t 40,.c (.int .i64 8)]),qM 42 7,qO 43 (.bin .gtr (.t 42) (.c (.int .i64 0))),qM 44 43,⟨some 45,.fla 0 (.t 8),(some (44,true))⟩,⟨some 46,.ld 1 false (.t 45),(some (44,true))⟩,⟨some 47,.mov (.t 1),(some (44,true))⟩,⟨some 48,.mov (.t 7),(some (44,true))⟩,⟨some 49,.mx (.t 48) (.c (.int .i64 1)),(some (44,true))⟩,⟨some 50,.bin .sub (.t 49) (.c (.int .i64 1)),(some (44,true))⟩,⟨some 51,.ixa 3 (.t 47) (.t 50),(some (44,true))⟩,⟨some 52,.fla 0 (.t 51),(some (44,true))⟩,⟨some 53,.ld 1 false (.t 52),(some (44,true))⟩,⟨some 54,.bin .leq (.t 46) (.t 53),(some (44,true))⟩,qO 55 (.pick (.t 44) (.t 54) (.c (.bool false))),qO 56 (.pcall 1 50 [.t 55,.c (.int .i64 7)]),qO 57 (.fla 1 (.t 8)),qO 58 (.ld 1 false (.t 57)),qO 59 (.pcall 2 51 [.t 58,.c (.int .i64 1),.c (.int .i64 3)]),qO 60 (.not (.t 59)),qO 61 (.pcall 3 50 [.t 60,.c (.int .i64 4)]),qO 62 (.fla 2 (.t 8)),qO 63 (.ld 1 false (.t 62)),qO 64 (.len (.t 63)),qO 65 (.bin .gtr (.t 64) (.c (.int .i64 0))),qM 66 65,⟨some 67,.fla 1 (.t 8),(some (66,true))⟩,⟨some 68,.ld 1 false (.t 67),(some (66,true))⟩,⟨some 69,.bin .neq (.t 68) (.c (.int .i64 1)),(some (66,true))⟩,qO 70 (.pick (.t 66) (.t 69) (.c (.bool false))),qO 71 (.pcall 4 50 [.t 70,.c (.int .i64 3)]),qO 72 (.fla 2 (.t 8)),qO 73 (.ld 1 false (.t 72)),qO 74 (.fla 6 (.t 9)),qO 75 (.ld 1 false (.t 74)),qO 76 (.sln (.t 75)),qO 77 (.pcall 5 79 [.t 73,.t 76]),qO 78 (.bsl 1 [.t 41,.t 56,.t 61,.t 71,.t 77]),qO 79 (.pcall 6 49 [.t 78]),qM 11 79]) (.seq (.reg [qM 80 11,qO 81 (.bin .neq (.t 80) (.c (.int .i64 0)))]) (.cond (.t 81) (.seq (.reg [qM 82 11,qM 4 82]) .ret) .skip)))))) (.reg [qO 83 (.bin .add (.t 27) (.c (.int .i64 1))),qM 27 83]))))
def ir_produce_CheckRulings:IC:=(.seq (.reg [qO 4 (.mov (.c (.int .i64 0)))]) (.seq (.seq (.reg [qM 12 0,qO 13 (.call 77 [.t 12]),qM 14 1,qO 15 (.len (.t 14)),qO 16 (.bin .gtr (.t 15) (.c (.int .i64 2000))),qO 17 (.call 50 [.t 16,.c (.int .i64 2)]),qO 18 (.bsl 1 [.t 13,.t 17]),qO 19 (.call 49 [.t 18]),qM 5 19]) (.seq (.reg [qM 20 5,qO 21 (.bin .neq (.t 20) (.c (.int .i64 0)))]) (.cond (.t 21) (.seq (.reg [qM 22 5,qM 4 22]) .ret) .skip))) (.seq (.reg [qM 23 0,qO 24 (.call 78 [.t 23]),qM 6 24]) (.seq (.seq (.reg [qM 25 1,qO 26 (.len (.t 25)),qO 27 (.mov (.c (.int .i64 0)))]) (.block 0 (.loop ir_produce_CheckRulings_L0))) (.seq (.reg [qO 4 (.mov (.c (.int .i64 0)))]) .ret)))))
def rs_produce_CheckRulings:List IRes:=[.t 4]
theorem ck_produce_CheckRulings:chkF Tryz.prog Tryz.f23 ir_produce_CheckRulings rs_produce_CheckRulings 84=true:=by kernel_rfl
def ir_chaseref1_itemOf:IC:=(.seq (.reg [qO 3 (.box 9 (.t 1)),qO 4 (.alc 80 [.str [],.str [],.int .i64 0,.str [],.int .i64 0,.str [],.str []]),qO 5 (.mov (.c (.bool false)))]) (.seq (.reg [qM 7 0,qO 8 (.mkf 154 [.t 3]),qO 9 (.call 153 [.t 7,.t 8]),qM 6 9]) (.seq (.seq (.reg [qM 10 6,qO 11 (.bin .lss (.t 10) (.c (.int .i64 0)))]) (.cond (.t 11) (.seq (.reg [qO 12 (.bld [.str [],.str [],.int .i64 0,.str [],.int .i64 0,.str [],.str []] []),⟨none,.st 7 (.t 4) (.t 12),none⟩,qO 5 (.mov (.c (.bool false)))]) .ret) .skip)) (.seq (.reg [qM 13 0,qM 14 6,qO 15 (.ixa 7 (.t 13) (.t 14)),qO 16 (.ld 7 true (.t 15)),⟨none,.st 7 (.t 4) (.t 16),none⟩,qO 5 (.mov (.c (.bool true)))]) .ret))))
def rs_chaseref1_itemOf:List IRes:=[.c 4 7 true,.t 5]
theorem ck_chaseref1_itemOf:chkF Tryz.prog Tryz.f72 ir_chaseref1_itemOf rs_chaseref1_itemOf 17=true:=by kernel_rfl
def ir_chaseref1_itemOf_1:IC:=(.seq (.reg [qO 2 (.box 80 (.t 0)),qO 3 (.mov (.c (.bool false)))]) (.seq (.reg [qO 4 (.fla 0 (.t 2)),qO 5 (.ld 1 false (.t 4)),qO 6 (.ld 1 false (.t 1)),qO 7 (.bin .eql (.t 5) (.t 6)),qM 3 7]) .ret))
def rs_chaseref1_itemOf_1:List IRes:=[.t 3]
theorem ck_chaseref1_itemOf_1:chkF Tryz.prog Tryz.f154 ir_chaseref1_itemOf_1 rs_chaseref1_itemOf_1 8=true:=by kernel_rfl
def ir_chaseref1_RulingsFault_L0:IC:=(.seq (.reg [qO 22 (.bin .lss (.t 21) (.t 20))]) (.seq (.cond (.t 22) .skip (.exit 0)) (.seq (.block 1 (.seq (.reg [qM 23 21,qO 24 (.ixa 3 (.t 19) (.t 21)),qO 25 (.ld 3 true (.t 24)),qO 7 (.alc 76 [.str [],.int .i64 0,.nl 2]),qM 6 23,⟨none,.st 3 (.t 7) (.t 25),none⟩]) (.seq (.reg [qM 27 0,qO 28 (.fla 0 (.t 7)),qO 29 (.ld 1 false (.t 28)),qO 30 (.call 72 [.t 27,.t 29]),qM 26 30,qO 31 (.ext 0 (.t 26)),qO 32 (.ext 1 (.t 26)),qO 8 (.alc 80 [.str [],.str [],.int .i64 0,.str [],.int .i64 0,.str [],.str []]),⟨none,.st 7 (.t 8) (.t 31),none⟩,qM 9 32]) (.seq (.block 2 (.seq (.reg [qM 34 9,qO 35 (.not (.t 34)),qM 33 35]) (.cond (.t 33) (.seq (.reg [qO 4 (.mov (.c (.int .i64 8)))]) .ret) (.seq (.drg [qM 37 6,qO 38 (.bin .gtr (.t 37) (.c (.int .i64 0))),qM 39 38,⟨some 40,.fla 0 (.t 7),(some (39,true))⟩,⟨some 41,.ld 1 false (.t 40),(some (39,true))⟩,⟨some 42,.mov (.t 1),(some (39,true))⟩,⟨some 43,.mov (.t 6),(some (39,true))⟩,⟨some 44,.bin .sub (.t 43) (.c (.int .i64 1)),(some (39,true))⟩,⟨some 45,.ixa 3 (.t 42) (.t 44),(some (39,true))⟩,⟨some 46,.fla 0 (.t 45),(some (39,true))⟩,⟨some 47,.ld 1 false (.t 46),(some (39,true))⟩,⟨some 48,.bin .leq (.t 41) (.t 47),(some (39,true))⟩,qO 49 (.pick (.t 39) (.t 48) (.c (.bool false))),qM 36 49]) (.cond (.t 36) (.seq (.reg [qO 4 (.mov (.c (.int .i64 7)))]) .ret) (.seq (.reg [qO 51 (.fla 1 (.t 7)),qO 52 (.ld 1 false (.t 51)),qO 53 (.bin .lss (.t 52) (.c (.int .i64 1))),qM 54 53,⟨some 55,.fla 1 (.t 7),(some (54,false))⟩,⟨some 56,.ld 1 false (.t 55),(some (54,false))⟩,⟨some 57,.bin .gtr (.t 56) (.c (.int .i64 3)),(some (54,false))⟩,qO 58 (.pick (.t 54) (.c (.bool true)) (.t 57)),qM 50 58]) (.cond (.t 50) (.seq (.reg [qO 4 (.mov (.c (.int .i64 4)))]) .ret) (.seq (.reg [qO 60 (.fla 2 (.t 7)),qO 61 (.ld 1 false (.t 60)),qO 62 (.len (.t 61)),qO 63 (.bin .gtr (.t 62) (.c (.int .i64 0))),qM 64 63,⟨some 65,.fla 1 (.t 7),(some (64,true))⟩,⟨some 66,.ld 1 false (.t 65),(some (64,true))⟩,⟨some 67,.bin .neq (.t 66) (.c (.int .i64 1)),(some (64,true))⟩,qO 68 (.pick (.t 64) (.t 67) (.c (.bool false))),qM 59 68]) (.cond (.t 59) (.seq (.reg [qO 4 (.mov (.c (.int .i64 3)))]) .ret) .skip))))))))) (.seq (.reg [qO 69 (.fla 2 (.t 7)),qO 70 (.ld 1 false (.t 69)),qO 71 (.fla 6 (.t 8)),qO 72 (.ld 1 false (.t 71)),qO 73 (.sln (.t 72)),qO 74 (.call 73 [.t 70,.t 73]),qM 10 74]) (.seq (.reg [qM 75 10,qO 76 (.bin .neq (.t 75) (.c (.int .i64 0)))]) (.cond (.t 76) (.seq (.reg [qM 77 10,qM 4 77]) .ret) .skip))))))) (.reg [qO 78 (.bin .add (.t 21) (.c (.int .i64 1))),qM 21 78]))))
def ir_chaseref1_RulingsFault:IC:=(.seq (.reg [qO 4 (.mov (.c (.int .i64 0)))]) (.seq (.seq (.reg [qM 11 0,qO 12 (.call 71 [.t 11]),qM 5 12]) (.seq (.reg [qM 13 5,qO 14 (.bin .neq (.t 13) (.c (.int .i64 0)))]) (.cond (.t 14) (.seq (.reg [qM 15 5,qM 4 15]) .ret) .skip))) (.seq (.seq (.reg [qM 16 1,qO 17 (.len (.t 16)),qO 18 (.bin .gtr (.t 17) (.c (.int .i64 2000)))]) (.cond (.t 18) (.seq (.reg [qO 4 (.mov (.c (.int .i64 2)))]) .ret) .skip)) (.seq (.seq (.reg [qM 19 1,qO 20 (.len (.t 19)),qO 21 (.mov (.c (.int .i64 0)))]) (.block 0 (.loop ir_chaseref1_RulingsFault_L0))) (.seq (.reg [qO 4 (.mov (.c (.int .i64 0)))]) .ret)))))
def rs_chaseref1_RulingsFault:List IRes:=[.t 4]
theorem ck_chaseref1_RulingsFault:chkF Tryz.prog Tryz.f20 ir_chaseref1_RulingsFault rs_chaseref1_RulingsFault 79=true:=by kernel_rfl
def ir_chaseref1_rulingOf_L0:IC:=(.seq (.reg [qO 10 (.bin .lss (.t 9) (.t 8))]) (.seq (.cond (.t 10) .skip (.exit 0)) (.seq (.block 1 (.seq (.reg [qO 11 (.ixa 3 (.t 7) (.t 9)),qO 12 (.ld 3 true (.t 11)),qO 6 (.alc 76 [.str [],.int .i64 0,.nl 2]),⟨none,.st 3 (.t 6) (.t 12),none⟩]) (.seq (.reg [qO 13 (.fla 0 (.t 6)),qO 14 (.ld 1 false (.t 13)),qM 15 1,qO 16 (.bin .eql (.t 14) (.t 15))]) (.cond (.t 16) (.seq (.reg [qO 17 (.ld 3 true (.t 6)),⟨none,.st 3 (.t 4) (.t 17),none⟩]) .ret) .skip)))) (.reg [qO 18 (.bin .add (.t 9) (.c (.int .i64 1))),qM 9 18]))))
def ir_chaseref1_rulingOf:IC:=(.seq (.reg [qO 4 (.alc 76 [.str [],.int .i64 0,.nl 2])]) (.seq (.seq (.reg [qM 7 0,qO 8 (.len (.t 7)),qO 9 (.mov (.c (.int .i64 0)))]) (.block 0 (.loop ir_chaseref1_rulingOf_L0))) (.seq (.reg [qM 19 1,qO 20 (.bld [.str [],.int .i64 0,.nl 2] [(0,1,.t 19),(1,1,.c (.int .i64 3))]),⟨none,.st 3 (.t 4) (.t 20),none⟩]) .ret)))
def rs_chaseref1_rulingOf:List IRes:=[.c 4 3 true]
theorem ck_chaseref1_rulingOf:chkF Tryz.prog Tryz.f86 ir_chaseref1_rulingOf rs_chaseref1_rulingOf 21=true:=by kernel_rfl
section
variable {E:Envt}
theorem pbyId_ok (il:List Itm) (hl:il.length≤2000):PCall Tryz.prog E 78 [.sl 7 (itE il)] (fun x=>∃ kv:List (List UInt8×PV),x=.mpv (kv.map (·.1)) (kv.map (·.2))∧MapIs kv il∧kv.length≤il.length):=by
 refine pcallF mixed Tryz.func78 ck_produce_byId ?_
 simp only [a0,l0,OS.ao,List.map_cons,List.map_nil,List.length_cons,List.length_nil,List.cons_append,List.nil_append,Nat.reduceSub,Nat.reduceAdd,List.replicate_succ,List.replicate_zero,ir_produce_byId,rs_produce_byId,ZZ,WW,Ze,reduceCtorEq,Nat.reduceAdd,Nat.reduceMul,Nat.reduceLeDiff,Nat.reduceLT,Nat.reduceEqDiff]
 simp only [ZZ,WW,Ze,reduceCtorEq,Nat.reduceAdd,Nat.reduceMul,Nat.reduceLeDiff,Nat.reduceLT,Nat.reduceEqDiff,itE_len]
 refine loop_intro (fun n fr L=>∃ (k:Nat) (kv:List (List UInt8×PV)),k≤il.length∧n=il.length - k∧(MapIs kv (il.take k))∧(kv.length≤k)∧fr=[oo,oo,oo,.mp (.l 6),oo,oo,oo,.p (.sl 7 (itE il)),.p (int (il.length:Nat)),.p (int (k:Nat)),oo,oo,oo,oo,oo,oo,oo,oo,oo]∧L=[(.l 6,.map kv 9 80)]) (il.length) [oo,oo,oo,.mp (.l 6),oo,oo,oo,.p (.sl 7 (itE il)),.p (int (il.length:Nat)),.p (int (0:Nat)),oo,oo,oo,oo,oo,oo,oo,oo,oo] [(.l 6,.map [] 9 80)] (by simp only [ZZ,WW,Ze,reduceCtorEq,Nat.reduceAdd,Nat.reduceMul,Nat.reduceLeDiff,Nat.reduceLT,Nat.reduceEqDiff,itE_len];try trivial) (by (simp only [ZZ,WW,Ze,reduceCtorEq,Nat.reduceAdd,Nat.reduceMul,Nat.reduceLeDiff,Nat.reduceLT,Nat.reduceEqDiff];try trivial)) ⟨0,[],by omega,by omega,MapIs.nil,by simp,rfl,rfl⟩ ?_
 rintro n fr L ⟨k,kv,hk,rfl,hkv,hkn,rfl,rfl⟩
 simp only [ir_produce_byId_L0,ZZ,WW,Ze,reduceCtorEq,Nat.reduceAdd,Nat.reduceMul,Nat.reduceLeDiff,Nat.reduceLT,Nat.reduceEqDiff]
 refine br ?_ ?_
 ·intro h
  have hlt:k < il.length:=by have:=of_decide_eq_true h;omega
  obtain ⟨x,hx⟩:∃ x,il[k]?=some x:=⟨_,List.getElem?_eq_getElem hlt⟩
  have hg:=itE_get hx
  have hnx:il.take (k+1)=il.take k++[x]:=by rw [List.take_succ_eq_append_getElem hlt,(List.getElem?_eq_some_iff.1 hx).2]
  have hpt:=hkv.put x
  rw [← hnx] at hpt
  simp only [itC] at hg hpt
  simp only [ZZ,WW,Ze,reduceCtorEq,Nat.reduceAdd,Nat.reduceMul,Nat.reduceLeDiff,Nat.reduceLT,Nat.reduceEqDiff,hg,itE_len]
  ((repeat' (with_reducible apply And.intro))<;>try ((exact sc_)))
  refine end_round (il.length - (k+1)) [oo,oo,oo,.mp (.l 6),oo,oo,oo,.p (.sl 7 (itE il)),.p (int (il.length:Nat)),.p (int ((k+1):Nat)),oo,oo,oo,oo,oo,oo,oo,oo,oo] [(.l 6,.map (mpS kv x.1 (.agg [.str x.1,.str x.2.1,int x.2.2.1,.str x.2.2.2.1,int x.2.2.2.2.1,.str x.2.2.2.2.2.1,.str x.2.2.2.2.2.2])) 9 80)] (by omega) (by (simp only [ZZ,WW,Ze,reduceCtorEq,Nat.reduceAdd,Nat.reduceMul,Nat.reduceLeDiff,Nat.reduceLT,Nat.reduceEqDiff];try trivial)) (by (simp only [ZZ,WW,Ze,reduceCtorEq,Nat.reduceAdd,Nat.reduceMul,Nat.reduceLeDiff,Nat.reduceLT,Nat.reduceEqDiff];try trivial)) ⟨k+1,mpS kv x.1 (.agg [.str x.1,.str x.2.1,int x.2.2.1,.str x.2.2.2.1,int x.2.2.2.2.1,.str x.2.2.2.2.2.1,.str x.2.2.2.2.2.2]),by omega,rfl,hpt,Nat.le_trans (mpS_le _ _ _) (by omega),rfl,rfl⟩
 intro h
 have hge:il.length≤k:=by have:=of_decide_eq_false h;omega
 rw [List.take_of_length_le hge] at hkv
 simp only [ZZ,WW,Ze,reduceCtorEq,Nat.reduceAdd,Nat.reduceMul,Nat.reduceLeDiff,Nat.reduceLT,Nat.reduceEqDiff]
 exact ⟨kv,rfl,hkv,by omega⟩
theorem map_get {il:List Itm} (hP:PapOk il) {kv:List (List UInt8×PV)} (hkv:MapIs kv il) (s:List UInt8):(mpF kv s).getD (.agg [.str [],.str [],int 0,.str [],int 0,.str [],.str []])=.agg (itC (itOf il s))∧(mpF kv s).isSome=(getI il s).isSome:=by
 rw [hkv s,getI_rev hP,itOf]
 cases getI il s<;>exact ⟨rfl,rfl⟩
theorem itOf_len {il:List Itm} (hP:PapOk il) (s:List UInt8):(itOf il s).2.2.2.2.2.2.length≤600:=by
 unfold itOf
 cases hg:getI il s with
 |none=>simp [it0]
 |some y=>
  obtain ⟨j,hj,_⟩:=getI_some hP hg
  exact (hP.2 j y hj).b7.1
set_option maxRecDepth 100000 in
theorem CheckRulings_ok (il:List Itm) (hP:PapOk il) (l:List Rul) (hl:l.length≤1000000) (hb:∀ r∈l,r.spans.length≤1000000):PCall Tryz.prog E0 23 [.sl 7 (itE il),.sl 3 (rlE l)] (·=int (rulF il l)):=by
 have h20:=hP.1
 refine pcallF mixed Tryz.func23 ck_produce_CheckRulings ?_
 simp only [a0,l0,OS.ao,List.map_cons,List.map_nil,List.length_cons,List.length_nil,List.cons_append,List.nil_append,Nat.reduceSub,Nat.reduceAdd,List.replicate_succ,List.replicate_zero,ir_produce_CheckRulings,rs_produce_CheckRulings,ZZ,WW,Ze,reduceCtorEq,Nat.reduceAdd,Nat.reduceMul,Nat.reduceLeDiff,Nat.reduceLT,Nat.reduceEqDiff]
 refine use1 (ICheck_ok il hP) rfl (.inl rfl) ?_
 simp only [ZZ,WW,Ze,reduceCtorEq,Nat.reduceAdd,Nat.reduceMul,Nat.reduceLeDiff,Nat.reduceLT,Nat.reduceEqDiff,rlE_len]
 refine use1 (When_ok _ 2) rfl (.inl rfl) ?_
 simp only [ZZ,WW,Ze,reduceCtorEq,Nat.reduceAdd,Nat.reduceMul,Nat.reduceLeDiff,Nat.reduceLT,Nat.reduceEqDiff]
 refine use1 (First_ok [0,whenE (decide (2000 < (l.length:Int))) 2] (by simp)) rfl (.inl rfl) ?_
 simp only [ZZ,WW,Ze,reduceCtorEq,Nat.reduceAdd,Nat.reduceMul,Nat.reduceLeDiff,Nat.reduceLT,Nat.reduceEqDiff]
 by_cases hL:2000 < l.length
 ·have h1:decide (2000 < (l.length:Int))=true:=by rw [decide_eq_true_eq];omega
  rw [rulF,if_pos hL,h1]
  refine br ?_ (fun h=>by cases h)
  intro _
  simp only [ZZ,WW,Ze,reduceCtorEq,Nat.reduceAdd,Nat.reduceMul,Nat.reduceLeDiff,Nat.reduceLT,Nat.reduceEqDiff]
  rfl
 have h1:decide (2000 < (l.length:Int))=false:=by rw [decide_eq_false_iff_not];omega
 rw [rulF,if_neg hL,h1]
 refine br (fun h=>by cases h) ?_
 intro _
 have hget:=fun {k:Nat} (h:k < l.length)=>firstE_drop _ k _ (ruE_get il l h)
 obtain ⟨G,hG⟩:∃ G,(List.range l.length).map (ruE il l)=G:=⟨_,rfl⟩
 have hGl:G.length=l.length:=by rw [← hG];simp
 rw [hG] at hget ⊢
 simp only [ZZ,WW,Ze,reduceCtorEq,Nat.reduceAdd,Nat.reduceMul,Nat.reduceLeDiff,Nat.reduceLT,Nat.reduceEqDiff]
 refine use (pbyId_ok il (by omega)) rfl (.inl rfl) ?_
 rintro _ ⟨kv,rfl,hkv,hkn⟩
 simp only [ZZ,WW,Ze,reduceCtorEq,Nat.reduceAdd,Nat.reduceMul,Nat.reduceLeDiff,Nat.reduceLT,Nat.reduceEqDiff,rlE_len]
 refine loop_intro (fun n fr L=>∃ (k:Nat),k≤l.length∧n=l.length - k∧(firstE G=firstE (G.drop k))∧fr=[.p (.sl 7 (itE il)),.p (.sl 3 (rlE l)),oo,oo,oo,oo,.p (.mpv (kv.map (·.1)) (kv.map (·.2))),oo,oo,oo,oo,oo,oo,oo,oo,oo,oo,oo,oo,oo,oo,oo,oo,oo,oo,.p (.sl 3 (rlE l)),.p (int (l.length:Nat)),.p (int (k:Nat)),oo,oo,oo,oo,oo,oo,oo,oo,oo,oo,oo,oo,oo,oo,oo,oo,oo,oo,oo,oo,oo,oo,oo,oo,oo,oo,oo,oo,oo,oo,oo,oo,oo,oo,oo,oo,oo,oo,oo,oo,oo,oo,oo,oo,oo,oo,oo,oo,oo,oo,oo,oo,oo,oo,oo,oo]∧L=[]) (l.length) [.p (.sl 7 (itE il)),.p (.sl 3 (rlE l)),oo,oo,oo,oo,.p (.mpv (kv.map (·.1)) (kv.map (·.2))),oo,oo,oo,oo,oo,oo,oo,oo,oo,oo,oo,oo,oo,oo,oo,oo,oo,oo,.p (.sl 3 (rlE l)),.p (int (l.length:Nat)),.p (int (0:Nat)),oo,oo,oo,oo,oo,oo,oo,oo,oo,oo,oo,oo,oo,oo,oo,oo,oo,oo,oo,oo,oo,oo,oo,oo,oo,oo,oo,oo,oo,oo,oo,oo,oo,oo,oo,oo,oo,oo,oo,oo,oo,oo,oo,oo,oo,oo,oo,oo,oo,oo,oo,oo,oo,oo,oo,oo] [] (by simp only [ZZ,WW,Ze,reduceCtorEq,Nat.reduceAdd,Nat.reduceMul,Nat.reduceLeDiff,Nat.reduceLT,Nat.reduceEqDiff,rlE_len];try trivial) (by (simp only [ZZ,WW,Ze,reduceCtorEq,Nat.reduceAdd,Nat.reduceMul,Nat.reduceLeDiff,Nat.reduceLT,Nat.reduceEqDiff];try trivial)) ⟨0,by omega,by omega,rfl,rfl,rfl⟩ ?_
 rintro n fr L ⟨k,hk,rfl,hF,rfl,rfl⟩
 simp only [ir_produce_CheckRulings_L0,ZZ,WW,Ze,reduceCtorEq,Nat.reduceAdd,Nat.reduceMul,Nat.reduceLeDiff,Nat.reduceLT,Nat.reduceEqDiff]
 refine br ?_ ?_
 ·intro h
  have hlt:k < l.length:=by have:=of_decide_eq_true h;omega
  obtain ⟨r,hr⟩:∃ r,l[k]?=some r:=⟨_,List.getElem?_eq_getElem hlt⟩
  have hg:=rlE_get hr
  have hrb:=hb r (List.mem_of_getElem? hr)
  have hd:=hget hlt
  have hrd:l.getD k rl0=r:=by simp [List.getD,hr]
  obtain ⟨m1,m2⟩:=map_get hP hkv r.id
  have hy:=itOf_len hP r.id
  have hnn:(getI il r.id).isNone=!(getI il r.id).isSome:=by cases getI il r.id<;>rfl
  have hru:ruE il l k=firstE [whenE (!(getI il r.id).isSome) 8,whenE (decide (0 < k) && (bytesLess r.id (l.getD (k - 1) rl0).id || decide (r.id=(l.getD (k - 1) rl0).id))) 7,whenE (!inE r.what 1 3) 4,whenE (decide (0 < r.spans.length) && !decide (r.what=1)) 3,spansF r.spans ((itOf il r.id).2.2.2.2.2.2.length:Nat)]:=by
   rw [ruE,hrd,hnn]
   rfl
  have hls:decide ((0:Int) < (r.spans.length:Int))=decide (0 < r.spans.length):=decide_eq_decide.2 (by omega)
  simp only [itC] at m1
  generalize itOf il r.id=y at *
  generalize (getI il r.id).isSome=b at *
  rcases Nat.eq_zero_or_pos k with hk0|hk0
  ·have z0:decide ((0:Int) < (k:Int))=false:=by rw [decide_eq_false_iff_not];omega
   have z1:decide (0 < k)=false:=by rw [decide_eq_false_iff_not];omega
   rw [z1,Bool.false_and] at hru
   have e0:(max (k:Int) 1 - 1)=((0:Nat):Int):=by omega
   have hg0:=hg
   rw [hk0] at hg0
   simp only [ZZ,WW,Ze,reduceCtorEq,Nat.reduceAdd,Nat.reduceMul,Nat.reduceLeDiff,Nat.reduceLT,Nat.reduceEqDiff,hg,rlE_len,zip_kvY,mpD,m1,m2]
   ((repeat' (with_reducible apply And.intro))<;>try ((exact sc_)))
   refine ⟨[int (whenE (!b) 8),int (whenE false 7),.bool (inE r.what 1 3),int (whenE (!inE r.what 1 3) 4),int (whenE (decide (0 < r.spans.length) && !decide (r.what=1)) 3),int (spansF r.spans (y.2.2.2.2.2.2.length:Nat)),int (ruE il l k)],?_⟩
   simp only [ZZ,WW,Ze,reduceCtorEq,Nat.reduceAdd,Nat.reduceMul,Nat.reduceLeDiff,Nat.reduceLT,Nat.reduceEqDiff,hg,hg0,rlE_len,e0,z0,List.length_map,hls]
   rw [hru]
   refine ⟨usep (When_ok _ 8) rfl (.inl rfl),fun h=>h.elim,fun h=>h.elim,fun h=>h.elim,usep (When_ok false 7) rfl (.inl rfl),usep (In_ok _ _ _) rfl (.inl rfl),usep (When_ok _ 4) rfl (.inl rfl),usep (When_ok _ 3) rfl (.inl rfl),usep (CheckSpans_ok r.spans _ (by omega)) rfl (.inl rfl),usep (First_ok [whenE (!b) 8,whenE false 7,whenE (!inE r.what 1 3) 4,whenE (decide (0 < r.spans.length) && !decide (r.what=1)) 3,spansF r.spans (y.2.2.2.2.2.2.length:Nat)] (by simp)) rfl (.inl rfl),?_⟩
   rw [← hru]
   refine br ?_ ?_
   ·intro h2
    have h3:¬ ruE il l k=0:=by simpa using h2
    simp only [ZZ,WW,Ze,reduceCtorEq,Nat.reduceAdd,Nat.reduceMul,Nat.reduceLeDiff,Nat.reduceLT,Nat.reduceEqDiff]
    rw [hF,hd,if_neg h3]
   ·intro h2
    have h3:ruE il l k=0:=by simpa using h2
    rw [if_pos h3] at hd
    simp only [ZZ,WW,Ze,reduceCtorEq,Nat.reduceAdd,Nat.reduceMul,Nat.reduceLeDiff,Nat.reduceLT,Nat.reduceEqDiff]
    ((repeat' (with_reducible apply And.intro))<;>try ((exact sc_)))
    refine end_round (l.length - (k+1)) [.p (.sl 7 (itE il)),.p (.sl 3 (rlE l)),oo,oo,oo,oo,.p (.mpv (kv.map (·.1)) (kv.map (·.2))),oo,oo,oo,oo,oo,oo,oo,oo,oo,oo,oo,oo,oo,oo,oo,oo,oo,oo,.p (.sl 3 (rlE l)),.p (int (l.length:Nat)),.p (int ((k+1):Nat)),oo,oo,oo,oo,oo,oo,oo,oo,oo,oo,oo,oo,oo,oo,oo,oo,oo,oo,oo,oo,oo,oo,oo,oo,oo,oo,oo,oo,oo,oo,oo,oo,oo,oo,oo,oo,oo,oo,oo,oo,oo,oo,oo,oo,oo,oo,oo,oo,oo,oo,oo,oo,oo,oo,oo,oo] [] (by omega) (by (simp only [ZZ,WW,Ze,reduceCtorEq,Nat.reduceAdd,Nat.reduceMul,Nat.reduceLeDiff,Nat.reduceLT,Nat.reduceEqDiff];try trivial)) (by (simp only [ZZ,WW,Ze,reduceCtorEq,Nat.reduceAdd,Nat.reduceMul,Nat.reduceLeDiff,Nat.reduceLT,Nat.reduceEqDiff];try trivial)) ⟨k+1,by omega,rfl,by rw [hF,hd],rfl,rfl⟩
  ·obtain ⟨q,hkq⟩:∃ q,k=q+1:=⟨k - 1,by omega⟩
   obtain ⟨u,hu⟩:∃ u,l[q]?=some u:=⟨_,List.getElem?_eq_getElem (by omega)⟩
   have hgu:=rlE_get hu
   have hud:l.getD (k - 1) rl0=u:=by rw [show k - 1=q by omega];simp [List.getD,hu]
   have e1:(max (k:Int) 1 - 1)=((q:Nat):Int):=by omega
   have z0:decide ((0:Int) < (k:Int))=true:=by rw [decide_eq_true_eq];omega
   have z1:decide (0 < k)=true:=by rw [decide_eq_true_eq];omega
   rw [z1,Bool.true_and,hud] at hru
   simp only [ZZ,WW,Ze,reduceCtorEq,Nat.reduceAdd,Nat.reduceMul,Nat.reduceLeDiff,Nat.reduceLT,Nat.reduceEqDiff,hg,rlE_len,zip_kvY,mpD,m1,m2]
   ((repeat' (with_reducible apply And.intro))<;>try ((exact sc_)))
   refine ⟨[int (whenE (!b) 8),int (whenE (bytesLess r.id u.id || decide (r.id=u.id)) 7),.bool (inE r.what 1 3),int (whenE (!inE r.what 1 3) 4),int (whenE (decide (0 < r.spans.length) && !decide (r.what=1)) 3),int (spansF r.spans (y.2.2.2.2.2.2.length:Nat)),int (ruE il l k)],?_⟩
   simp only [ZZ,WW,Ze,reduceCtorEq,Nat.reduceAdd,Nat.reduceMul,Nat.reduceLeDiff,Nat.reduceLT,Nat.reduceEqDiff,hg,hgu,rlE_len,e1,z0,List.length_map,hls]
   rw [hru]
   refine ⟨usep (When_ok _ 8) rfl (.inl rfl),i64_of (by omega) (by omega),⟨by omega,by omega⟩,by omega,usep (When_ok _ 7) rfl (.inl rfl),usep (In_ok _ _ _) rfl (.inl rfl),usep (When_ok _ 4) rfl (.inl rfl),usep (When_ok _ 3) rfl (.inl rfl),usep (CheckSpans_ok r.spans _ (by omega)) rfl (.inl rfl),usep (First_ok [whenE (!b) 8,whenE (bytesLess r.id u.id || decide (r.id=u.id)) 7,whenE (!inE r.what 1 3) 4,whenE (decide (0 < r.spans.length) && !decide (r.what=1)) 3,spansF r.spans (y.2.2.2.2.2.2.length:Nat)] (by simp)) rfl (.inl rfl),?_⟩
   rw [← hru]
   refine br ?_ ?_
   ·intro h2
    have h3:¬ ruE il l k=0:=by simpa using h2
    simp only [ZZ,WW,Ze,reduceCtorEq,Nat.reduceAdd,Nat.reduceMul,Nat.reduceLeDiff,Nat.reduceLT,Nat.reduceEqDiff]
    rw [hF,hd,if_neg h3]
   ·intro h2
    have h3:ruE il l k=0:=by simpa using h2
    rw [if_pos h3] at hd
    simp only [ZZ,WW,Ze,reduceCtorEq,Nat.reduceAdd,Nat.reduceMul,Nat.reduceLeDiff,Nat.reduceLT,Nat.reduceEqDiff]
    ((repeat' (with_reducible apply And.intro))<;>try ((exact sc_)))
    refine end_round (l.length - (k+1)) [.p (.sl 7 (itE il)),.p (.sl 3 (rlE l)),oo,oo,oo,oo,.p (.mpv (kv.map (·.1)) (kv.map (·.2))),oo,oo,oo,oo,oo,oo,oo,oo,oo,oo,oo,oo,oo,oo,oo,oo,oo,oo,.p (.sl 3 (rlE l)),.p (int (l.length:Nat)),.p (int ((k+1):Nat)),oo,oo,oo,oo,oo,oo,oo,oo,oo,oo,oo,oo,oo,oo,oo,oo,oo,oo,oo,oo,oo,oo,oo,oo,oo,oo,oo,oo,oo,oo,oo,oo,oo,oo,oo,oo,oo,oo,oo,oo,oo,oo,oo,oo,oo,oo,oo,oo,oo,oo,oo,oo,oo,oo,oo,oo] [] (by omega) (by (simp only [ZZ,WW,Ze,reduceCtorEq,Nat.reduceAdd,Nat.reduceMul,Nat.reduceLeDiff,Nat.reduceLT,Nat.reduceEqDiff];try trivial)) (by (simp only [ZZ,WW,Ze,reduceCtorEq,Nat.reduceAdd,Nat.reduceMul,Nat.reduceLeDiff,Nat.reduceLT,Nat.reduceEqDiff];try trivial)) ⟨k+1,by omega,rfl,by rw [hF,hd],rfl,rfl⟩
 ·intro h
  have hge:l.length≤k:=by have:=of_decide_eq_false h;omega
  simp only [ZZ,WW,Ze,reduceCtorEq,Nat.reduceAdd,Nat.reduceMul,Nat.reduceLeDiff,Nat.reduceLT,Nat.reduceEqDiff]
  rw [hF,List.drop_eq_nil_of_le (by omega)]
  rfl
theorem itemOf1_ok (x:Itm) (s:List UInt8):PCall Tryz.prog E 154 [.agg (itC x),.ptr [.str s]] (·=.bool (decide (x.1=s))):=by
 simp only [itC]
 refine pcallF mixed Tryz.func154 ck_chaseref1_itemOf_1 ?_
 simp only [a0,l0,OS.ao,List.map_cons,List.map_nil,List.length_cons,List.length_nil,List.cons_append,List.nil_append,Nat.reduceSub,Nat.reduceAdd,List.replicate_succ,List.replicate_zero,ir_chaseref1_itemOf_1,rs_chaseref1_itemOf_1,ZZ,WW,Ze,reduceCtorEq,Nat.reduceAdd,Nat.reduceMul,Nat.reduceLeDiff,Nat.reduceLT,Nat.reduceEqDiff]
theorem itemOf_ok (il:List Itm) (hP:PapOk il) (s:List UInt8):PCall Tryz.prog E 72 [.sl 7 (itE il),.str s] (·=.tup [.agg (itC (itOf il s)),.bool (getI il s).isSome]):=by
 have h20:=hP.1
 refine pcallF mixed Tryz.func72 ck_chaseref1_itemOf ?_
 simp only [a0,l0,OS.ao,List.map_cons,List.map_nil,List.length_cons,List.length_nil,List.cons_append,List.nil_append,Nat.reduceSub,Nat.reduceAdd,List.replicate_succ,List.replicate_zero,ir_chaseref1_itemOf,rs_chaseref1_itemOf,ZZ,WW,Ze,reduceCtorEq,Nat.reduceAdd,Nat.reduceMul,Nat.reduceLeDiff,Nat.reduceLT,Nat.reduceEqDiff]
 refine use1 (IndexFuncI_ok il 154 [.ptr [.str s]] (fun x=>decide (x.1=s)) (by omega) (fun _=>by kernel_rfl) rfl (fun y _=>itemOf1_ok y s) (fun _=>rfl) (fun _=>rfl)) rfl (.inr rfl) ?_
 cases hg:getI il s with
 |none=>
  rw [idxF_none (getI_none hg)]
  simp only [ZZ,WW,Ze,reduceCtorEq,Nat.reduceAdd,Nat.reduceMul,Nat.reduceLeDiff,Nat.reduceLT,Nat.reduceEqDiff]
  refine br ?_ (fun h=>by simp at h)
  intro _
  simp only [ZZ,WW,Ze,reduceCtorEq,Nat.reduceAdd,Nat.reduceMul,Nat.reduceLeDiff,Nat.reduceLT,Nat.reduceEqDiff]
  rw [itOf,hg]
  rfl
 |some y=>
  obtain ⟨j,hj,rfl⟩:=getI_some hP hg
  have hjl:=(List.getElem?_eq_some_iff.1 hj).1
  have e:idxF (fun x:Itm=>decide (x.1=pid j)) il=(j:Nat):=plF_pid hP hj
  have n1:decide (((j:Nat):Int) < 0)=false:=by rw [decide_eq_false_iff_not];omega
  have hgy:=itE_get hj
  simp only [itC] at hgy
  rw [e]
  simp only [ZZ,WW,Ze,reduceCtorEq,Nat.reduceAdd,Nat.reduceMul,Nat.reduceLeDiff,Nat.reduceLT,Nat.reduceEqDiff,n1,hgy,itE_len]
  ((repeat' (with_reducible apply And.intro))<;>try ((exact sc_)))
  rw [itOf,hg]
  rfl
set_option maxRecDepth 100000 in
theorem RulingsFault_ok (il:List Itm) (hP:PapOk il) (l:List Rul) (hl:l.length≤1000000) (hb:∀ r∈l,r.spans.length≤1000000):PCall Tryz.prog E0 20 [.sl 7 (itE il),.sl 3 (rlE l)] (·=int (rulF il l)):=by
 have h20:=hP.1
 refine pcallF mixed Tryz.func20 ck_chaseref1_RulingsFault ?_
 simp only [a0,l0,OS.ao,List.map_cons,List.map_nil,List.length_cons,List.length_nil,List.cons_append,List.nil_append,Nat.reduceSub,Nat.reduceAdd,List.replicate_succ,List.replicate_zero,ir_chaseref1_RulingsFault,rs_chaseref1_RulingsFault,ZZ,WW,Ze,reduceCtorEq,Nat.reduceAdd,Nat.reduceMul,Nat.reduceLeDiff,Nat.reduceLT,Nat.reduceEqDiff]
 refine use1 (ItemsFault_ok il hP) rfl (.inl rfl) ?_
 simp only [ZZ,WW,Ze,reduceCtorEq,Nat.reduceAdd,Nat.reduceMul,Nat.reduceLeDiff,Nat.reduceLT,Nat.reduceEqDiff]
 refine br (fun h=>by simp at h) ?_
 intro _
 simp only [ZZ,WW,Ze,reduceCtorEq,Nat.reduceAdd,Nat.reduceMul,Nat.reduceLeDiff,Nat.reduceLT,Nat.reduceEqDiff,rlE_len]
 by_cases hL:2000 < l.length
 ·have h1:decide (2000 < (l.length:Int))=true:=by rw [decide_eq_true_eq];omega
  rw [rulF,if_pos hL,h1]
  refine br ?_ (fun h=>by cases h)
  intro _
  simp only [ZZ,WW,Ze,reduceCtorEq,Nat.reduceAdd,Nat.reduceMul,Nat.reduceLeDiff,Nat.reduceLT,Nat.reduceEqDiff]
 have h1:decide (2000 < (l.length:Int))=false:=by rw [decide_eq_false_iff_not];omega
 rw [rulF,if_neg hL,h1]
 refine br (fun h=>by cases h) ?_
 intro _
 have hget:=fun {k:Nat} (h:k < l.length)=>firstE_drop _ k _ (ruE_get il l h)
 obtain ⟨G,hG⟩:∃ G,(List.range l.length).map (ruE il l)=G:=⟨_,rfl⟩
 have hGl:G.length=l.length:=by rw [← hG];simp
 rw [hG] at hget ⊢
 simp only [ZZ,WW,Ze,reduceCtorEq,Nat.reduceAdd,Nat.reduceMul,Nat.reduceLeDiff,Nat.reduceLT,Nat.reduceEqDiff,rlE_len]
 refine loop_intro (fun n fr L=>∃ (k:Nat),k≤l.length∧n=l.length - k∧(firstE G=firstE (G.drop k))∧fr=[.p (.sl 7 (itE il)),.p (.sl 3 (rlE l)),oo,oo,oo,oo,oo,oo,oo,oo,oo,oo,oo,oo,oo,oo,oo,oo,oo,.p (.sl 3 (rlE l)),.p (int (l.length:Nat)),.p (int (k:Nat)),oo,oo,oo,oo,oo,oo,oo,oo,oo,oo,oo,oo,oo,oo,oo,oo,oo,oo,oo,oo,oo,oo,oo,oo,oo,oo,oo,oo,oo,oo,oo,oo,oo,oo,oo,oo,oo,oo,oo,oo,oo,oo,oo,oo,oo,oo,oo,oo,oo,oo,oo,oo,oo,oo,oo,oo,oo]∧L=[]) (l.length) [.p (.sl 7 (itE il)),.p (.sl 3 (rlE l)),oo,oo,oo,oo,oo,oo,oo,oo,oo,oo,oo,oo,oo,oo,oo,oo,oo,.p (.sl 3 (rlE l)),.p (int (l.length:Nat)),.p (int (0:Nat)),oo,oo,oo,oo,oo,oo,oo,oo,oo,oo,oo,oo,oo,oo,oo,oo,oo,oo,oo,oo,oo,oo,oo,oo,oo,oo,oo,oo,oo,oo,oo,oo,oo,oo,oo,oo,oo,oo,oo,oo,oo,oo,oo,oo,oo,oo,oo,oo,oo,oo,oo,oo,oo,oo,oo,oo,oo] [] (by simp only [ZZ,WW,Ze,reduceCtorEq,Nat.reduceAdd,Nat.reduceMul,Nat.reduceLeDiff,Nat.reduceLT,Nat.reduceEqDiff,rlE_len];try trivial) (by (simp only [ZZ,WW,Ze,reduceCtorEq,Nat.reduceAdd,Nat.reduceMul,Nat.reduceLeDiff,Nat.reduceLT,Nat.reduceEqDiff];try trivial)) ⟨0,by omega,by omega,rfl,rfl,rfl⟩ ?_
 rintro n fr L ⟨k,hk,rfl,hF,rfl,rfl⟩
 simp only [ir_chaseref1_RulingsFault_L0,ZZ,WW,Ze,reduceCtorEq,Nat.reduceAdd,Nat.reduceMul,Nat.reduceLeDiff,Nat.reduceLT,Nat.reduceEqDiff]
 refine br ?_ ?_
 rotate_left
 ·intro h
  have hge:l.length≤k:=by have:=of_decide_eq_false h;omega
  simp only [ZZ,WW,Ze,reduceCtorEq,Nat.reduceAdd,Nat.reduceMul,Nat.reduceLeDiff,Nat.reduceLT,Nat.reduceEqDiff]
  rw [hF,List.drop_eq_nil_of_le (by omega)]
  rfl
 intro h
 have hlt:k < l.length:=by have:=of_decide_eq_true h;omega
 obtain ⟨r,hr⟩:∃ r,l[k]?=some r:=⟨_,List.getElem?_eq_getElem hlt⟩
 have hg:=rlE_get hr
 have hrb:=hb r (List.mem_of_getElem? hr)
 have hd:=hget hlt
 have hrd:l.getD k rl0=r:=by simp [List.getD,hr]
 have hy:=itOf_len hP r.id
 have hio:=itemOf_ok (E:=E0) il hP r.id
 have hnn:(getI il r.id).isNone=!(getI il r.id).isSome:=by cases getI il r.id<;>rfl
 have hru:ruE il l k=firstE [whenE (!(getI il r.id).isSome) 8,whenE (decide (0 < k) && (bytesLess r.id (l.getD (k - 1) rl0).id || decide (r.id=(l.getD (k - 1) rl0).id))) 7,whenE (!inE r.what 1 3) 4,whenE (decide (0 < r.spans.length) && !decide (r.what=1)) 3,spansF r.spans ((itOf il r.id).2.2.2.2.2.2.length:Nat)]:=by
  rw [ruE,hrd,hnn]
  rfl
 simp only [itC] at hio
 generalize itOf il r.id=y at *
 generalize (getI il r.id).isSome=b at *
 simp only [ZZ,WW,Ze,reduceCtorEq,Nat.reduceAdd,Nat.reduceMul,Nat.reduceLeDiff,Nat.reduceLT,Nat.reduceEqDiff,hg,rlE_len]
 ((repeat' (with_reducible apply And.intro))<;>try ((exact sc_)))
 refine use1 hio rfl (.inl rfl) ?_
 simp only [ZZ,WW,Ze,reduceCtorEq,Nat.reduceAdd,Nat.reduceMul,Nat.reduceLeDiff,Nat.reduceLT,Nat.reduceEqDiff]
 cases b with
 |false=>
  have hz:ruE il l k=8:=hru
  refine br ?_ (fun h=>by cases h)
  intro _
  simp only [ZZ,WW,Ze,reduceCtorEq,Nat.reduceAdd,Nat.reduceMul,Nat.reduceLeDiff,Nat.reduceLT,Nat.reduceEqDiff]
  rw [hF,hd,hz]
  rfl
 |true=>
 refine br (fun h=>by cases h) ?_
 intro _
 obtain ⟨u,hu⟩:∃ u,l[k - 1]?=some u:=⟨_,List.getElem?_eq_getElem (by omega)⟩
 have hgu:=rlE_get hu
 have hud:l.getD (k - 1) rl0=u:=by simp [List.getD,hu]
 have hk1:((k:Int) - 1).toNat=k - 1:=by omega
 have z1:decide ((0:Int) < (k:Int))=decide (0 < k):=decide_eq_decide.2 (by omega)
 have hls:decide ((0:Int) < (r.spans.length:Int))=decide (0 < r.spans.length):=decide_eq_decide.2 (by omega)
 have hwh:(decide (r.what < 1) || decide (3 < r.what))=!inE r.what 1 3:=by
  unfold inE
  rw [Bool.eq_iff_iff]
  simp only [Bool.or_eq_true,decide_eq_true_eq,Bool.not_eq_true',Bool.and_eq_false_iff,decide_eq_false_iff_not]
  omega
 rw [hud] at hru
 refine drg0 ?_
 simp only [ZZ,WW,Ze,reduceCtorEq,Nat.reduceAdd,Nat.reduceMul,Nat.reduceLeDiff,Nat.reduceLT,Nat.reduceEqDiff,hk1,hgu,rlE_len,z1]
 refine ⟨?_,?_,?_,?_⟩
 iterate 3
  ·intro h
   have hp:=of_decide_eq_true h
   (repeat' (first|exact h|apply And.intro))<;>first|omega|exact i64_of (by omega) (by omega)
 generalize hc:(decide (0 < k) && (bytesLess r.id u.id || decide (r.id=u.id)))=c7 at *
 refine br ?_ ?_
 ·intro h7
  have hz:ruE il l k=7:=by rw [hru,h7];rfl
  simp only [ZZ,WW,Ze,reduceCtorEq,Nat.reduceAdd,Nat.reduceMul,Nat.reduceLeDiff,Nat.reduceLT,Nat.reduceEqDiff]
  rw [hF,hd,hz]
  rfl
 intro h7
 rw [h7] at hru
 simp only [ZZ,WW,Ze,reduceCtorEq,Nat.reduceAdd,Nat.reduceMul,Nat.reduceLeDiff,Nat.reduceLT,Nat.reduceEqDiff]
 rw [hwh]
 refine ⟨fun h=>by rw [h];rfl,?_⟩
 generalize hc4:(!inE r.what 1 3)=c4 at *
 refine br ?_ ?_
 ·intro h4
  have hz:ruE il l k=4:=by rw [hru,h4];rfl
  simp only [ZZ,WW,Ze,reduceCtorEq,Nat.reduceAdd,Nat.reduceMul,Nat.reduceLeDiff,Nat.reduceLT,Nat.reduceEqDiff]
  rw [hF,hd,hz]
  rfl
 intro h4
 rw [h4] at hru
 simp only [ZZ,WW,Ze,reduceCtorEq,Nat.reduceAdd,Nat.reduceMul,Nat.reduceLeDiff,Nat.reduceLT,Nat.reduceEqDiff,List.length_map,hls]
 generalize hc3:(decide (0 < r.spans.length) && !decide (r.what=1))=c3 at *
 refine br ?_ ?_
 ·intro h3
  have hz:ruE il l k=3:=by rw [hru,h3];rfl
  simp only [ZZ,WW,Ze,reduceCtorEq,Nat.reduceAdd,Nat.reduceMul,Nat.reduceLeDiff,Nat.reduceLT,Nat.reduceEqDiff]
  rw [hF,hd,hz]
  rfl
 intro h3
 rw [h3] at hru
 have hz:ruE il l k=spansF r.spans (y.2.2.2.2.2.2.length:Nat):=by
  rw [hru]
  simp only [firstE,whenE]
  generalize spansF r.spans _=s
  simp
  intro h
  exact h.symm
 simp only [ZZ,WW,Ze,reduceCtorEq,Nat.reduceAdd,Nat.reduceMul,Nat.reduceLeDiff,Nat.reduceLT,Nat.reduceEqDiff]
 refine use1 (SpansFault_ok r.spans _ (by omega)) rfl (.inl rfl) ?_
 rw [← hz]
 simp only [ZZ,WW,Ze,reduceCtorEq,Nat.reduceAdd,Nat.reduceMul,Nat.reduceLeDiff,Nat.reduceLT,Nat.reduceEqDiff]
 refine br ?_ ?_
 ·intro h2
  have h5:¬ ruE il l k=0:=by simpa using h2
  simp only [ZZ,WW,Ze,reduceCtorEq,Nat.reduceAdd,Nat.reduceMul,Nat.reduceLeDiff,Nat.reduceLT,Nat.reduceEqDiff]
  rw [hF,hd,if_neg h5]
 ·intro h2
  have h5:ruE il l k=0:=by simpa using h2
  rw [if_pos h5] at hd
  simp only [ZZ,WW,Ze,reduceCtorEq,Nat.reduceAdd,Nat.reduceMul,Nat.reduceLeDiff,Nat.reduceLT,Nat.reduceEqDiff]
  ((repeat' (with_reducible apply And.intro))<;>try ((exact sc_)))
  refine end_round (l.length - (k+1)) [.p (.sl 7 (itE il)),.p (.sl 3 (rlE l)),oo,oo,oo,oo,oo,oo,oo,oo,oo,oo,oo,oo,oo,oo,oo,oo,oo,.p (.sl 3 (rlE l)),.p (int (l.length:Nat)),.p (int ((k+1):Nat)),oo,oo,oo,oo,oo,oo,oo,oo,oo,oo,oo,oo,oo,oo,oo,oo,oo,oo,oo,oo,oo,oo,oo,oo,oo,oo,oo,oo,oo,oo,oo,oo,oo,oo,oo,oo,oo,oo,oo,oo,oo,oo,oo,oo,oo,oo,oo,oo,oo,oo,oo,oo,oo,oo,oo,oo,oo] [] (by omega) (by (simp only [ZZ,WW,Ze,reduceCtorEq,Nat.reduceAdd,Nat.reduceMul,Nat.reduceLeDiff,Nat.reduceLT,Nat.reduceEqDiff];try trivial)) (by (simp only [ZZ,WW,Ze,reduceCtorEq,Nat.reduceAdd,Nat.reduceMul,Nat.reduceLeDiff,Nat.reduceLT,Nat.reduceEqDiff];try trivial)) ⟨k+1,by omega,rfl,by rw [hF,hd],rfl,rfl⟩
end
def ir_slices_insertionSortCmpFunc_api_Family_L1:IC:=(.seq (.seq (.drg [qM 18 9,qM 19 1,qO 20 (.bin .gtr (.t 18) (.t 19)),qM 21 20,⟨some 22,.mov (.t 3),(some (21,true))⟩,⟨some 23,.mov (.t 0),(some (21,true))⟩,⟨some 24,.mov (.t 9),(some (21,true))⟩,⟨some 25,.ixa 2 (.t 23) (.t 24),(some (21,true))⟩,⟨some 26,.ld 2 true (.t 25),(some (21,true))⟩,⟨some 27,.mov (.t 0),(some (21,true))⟩,⟨some 28,.mov (.t 9),(some (21,true))⟩,⟨some 29,.bin .sub (.t 28) (.c (.int .i64 1)),(some (21,true))⟩,⟨some 30,.ixa 2 (.t 27) (.t 29),(some (21,true))⟩,⟨some 31,.ld 2 true (.t 30),(some (21,true))⟩,⟨some 32,.callv (.t 22) [.t 26,.t 31],(some (21,true))⟩,⟨some 33,.bin .lss (.t 32) (.c (.int .i64 0)),(some (21,true))⟩,qO 34 (.pick (.t 21) (.t 33) (.c (.bool false)))]) (.cond (.t 34) .skip (.exit 2))) (.seq (.block 3 (.drg [qM 37 0,qM 38 9,qM 39 0,qM 40 9,qO 41 (.bin .sub (.t 40) (.c (.int .i64 1))),qM 42 0,qM 43 9,qO 44 (.bin .sub (.t 43) (.c (.int .i64 1))),qO 45 (.ixa 2 (.t 42) (.t 44)),qO 46 (.ld 2 true (.t 45)),qM 47 0,qM 48 9,qO 49 (.ixa 2 (.t 47) (.t 48)),qO 50 (.ld 2 true (.t 49)),qO 51 (.ixa 2 (.t 37) (.t 38)),⟨none,.st 2 (.t 51) (.t 46),none⟩,qO 52 (.ixa 2 (.t 39) (.t 41)),⟨none,.st 2 (.t 52) (.t 50),none⟩])) (.reg [qM 35 9,qO 36 (.bin .sub (.t 35) (.c (.int .i64 1))),qM 9 36])))
def ir_slices_insertionSortCmpFunc_api_Family_L0:IC:=(.seq (.seq (.reg [qM 12 8,qM 13 2,qO 14 (.bin .lss (.t 12) (.t 13))]) (.cond (.t 14) .skip (.exit 0))) (.seq (.block 1 (.seq (.reg [qM 17 8,qM 9 17]) (.block 2 (.loop ir_slices_insertionSortCmpFunc_api_Family_L1)))) (.reg [qM 15 8,qO 16 (.bin .add (.t 15) (.c (.int .i64 1))),qM 8 16])))
def ir_slices_insertionSortCmpFunc_api_Family:IC:=(.seq (.reg [qM 10 1,qO 11 (.bin .add (.t 10) (.c (.int .i64 1))),qM 8 11]) (.block 0 (.loop ir_slices_insertionSortCmpFunc_api_Family_L0)))
def rs_slices_insertionSortCmpFunc_api_Family:List IRes:=[]
theorem ck_slices_insertionSortCmpFunc_api_Family:chkF Tryz.prog Tryz.f228 ir_slices_insertionSortCmpFunc_api_Family rs_slices_insertionSortCmpFunc_api_Family 53=true:=by kernel_rfl
def ir_slices_pdqsortCmpFunc_api_Family_L0:IC:=(.block 1 (.seq (.reg [qM 21 2,qM 22 1,qO 23 (.bin .sub (.t 21) (.t 22)),qM 12 23]) (.seq (.seq (.reg [qM 24 12,qO 25 (.bin .leq (.t 24) (.c (.int .i64 12)))]) (.cond (.t 25) (.seq (.reg [qM 26 0,qM 27 1,qM 28 2,qM 29 4,qO 30 (.call 228 [.t 26,.t 27,.t 28,.t 29])]) .ret) .skip)) (.seq (.seq (.reg [qM 31 3,qO 32 (.bin .eql (.t 31) (.c (.int .i64 0)))]) (.cond (.t 32) (.seq (.reg [qM 33 0,qM 34 1,qM 35 2,qM 36 4,qO 37 (.call 229 [.t 33,.t 34,.t 35,.t 36])]) .ret) .skip)) (.seq (.seq (.reg [qM 38 10,qO 39 (.not (.t 38))]) (.cond (.t 39) (.seq (.reg [qM 40 0,qM 41 1,qM 42 2,qM 43 4,qO 44 (.call 230 [.t 40,.t 41,.t 42,.t 43])]) (.reg [qM 45 3,qO 46 (.bin .sub (.t 45) (.c (.int .i64 1))),qM 3 46])) .skip)) (.cut (.seq (.reg [qM 48 0,qM 49 1,qM 50 2,qM 51 4,qO 52 (.call 231 [.t 48,.t 49,.t 50,.t 51]),qM 47 52,qO 53 (.ext 0 (.t 47)),qO 54 (.ext 1 (.t 47)),qM 13 53,qM 14 54]) (.seq (.seq (.reg [qM 55 14,qO 56 (.bin .eql (.t 55) (.c (.int .i64 2)))]) (.cond (.t 56) (.seq (.reg [qM 57 0,qM 58 1,qM 59 2,qM 60 4,qO 61 (.call 232 [.t 57,.t 58,.t 59,.t 60])]) (.seq (.reg [qM 62 2,qO 63 (.bin .sub (.t 62) (.c (.int .i64 1))),qM 64 13,qM 65 1,qO 66 (.bin .sub (.t 64) (.t 65)),qO 67 (.bin .sub (.t 63) (.t 66)),qM 13 67]) (.reg [qO 14 (.mov (.c (.int .i64 1)))]))) .skip)) (.cut (.seq (.seq (.reg [qM 68 10,qM 69 68,⟨some 70,.mov (.t 11),(some (69,true))⟩,qO 71 (.pick (.t 69) (.t 70) (.c (.bool false))),qM 72 71,⟨some 73,.mov (.t 14),(some (72,true))⟩,⟨some 74,.bin .eql (.t 73) (.c (.int .i64 1)),(some (72,true))⟩,qO 75 (.pick (.t 72) (.t 74) (.c (.bool false)))]) (.cond (.t 75) (.seq (.reg [qM 76 0,qM 77 1,qM 78 2,qM 79 4,qO 80 (.call 233 [.t 76,.t 77,.t 78,.t 79])]) (.cond (.t 80) .ret .skip)) .skip)) (.cut (.seq (.seq (.drg [qM 81 1,qO 82 (.bin .gtr (.t 81) (.c (.int .i64 0))),qM 83 82,⟨some 84,.mov (.t 4),(some (83,true))⟩,⟨some 85,.mov (.t 0),(some (83,true))⟩,⟨some 86,.mov (.t 1),(some (83,true))⟩,⟨some 87,.bin .sub (.t 86) (.c (.int .i64 1)),(some (83,true))⟩,⟨some 88,.ixa 2 (.t 85) (.t 87),(some (83,true))⟩,⟨some 89,.ld 2 true (.t 88),(some (83,true))⟩,⟨some 90,.mov (.t 0),(some (83,true))⟩,⟨some 91,.mov (.t 13),(some (83,true))⟩,⟨some 92,.ixa 2 (.t 90) (.t 91),(some (83,true))⟩,⟨some 93,.ld 2 true (.t 92),(some (83,true))⟩,⟨some 94,.callv (.t 84) [.t 89,.t 93],(some (83,true))⟩,⟨some 95,.bin .lss (.t 94) (.c (.int .i64 0)),(some (83,true))⟩,⟨some 96,.not (.t 95),(some (83,true))⟩,qO 97 (.pick (.t 83) (.t 96) (.c (.bool false)))]) (.cond (.t 97) (.seq (.reg [qM 98 0,qM 99 1,qM 100 2,qM 101 13,qM 102 4,qO 103 (.call 234 [.t 98,.t 99,.t 100,.t 101,.t 102]),qM 15 103]) (.seq (.reg [qM 104 15,qM 1 104]) (.exit 1))) .skip)) (.seq (.reg [qM 106 0,qM 107 1,qM 108 2,qM 109 13,qM 110 4,qO 111 (.call 235 [.t 106,.t 107,.t 108,.t 109,.t 110]),qM 105 111,qO 112 (.ext 0 (.t 105)),qO 113 (.ext 1 (.t 105)),qM 16 112,qM 17 113]) (.seq (.reg [qM 114 17,qM 11 114]) (.seq (.reg [qM 115 16,qM 116 1,qO 117 (.bin .sub (.t 115) (.t 116)),qM 118 2,qM 119 16,qO 120 (.bin .sub (.t 118) (.t 119)),qM 18 117,qM 19 120]) (.seq (.reg [qM 121 12,qO 122 (.bin .quo (.t 121) (.c (.int .i64 8))),qM 20 122]) (.seq (.reg [qM 123 18,qM 124 19,qO 125 (.bin .lss (.t 123) (.t 124))]) (.cond (.t 125) (.seq (.reg [qM 126 18,qM 127 20,qO 128 (.bin .geq (.t 126) (.t 127)),qM 10 128]) (.seq (.reg [qM 129 0,qM 130 1,qM 131 16,qM 132 3,qM 133 4,qO 134 (.call 170 [.t 129,.t 130,.t 131,.t 132,.t 133])]) (.reg [qM 135 16,qO 136 (.bin .add (.t 135) (.c (.int .i64 1))),qM 1 136]))) (.seq (.reg [qM 137 19,qM 138 20,qO 139 (.bin .geq (.t 137) (.t 138)),qM 10 139]) (.seq (.reg [qM 140 0,qM 141 16,qO 142 (.bin .add (.t 141) (.c (.int .i64 1))),qM 143 2,qM 144 3,qM 145 4,qO 146 (.call 170 [.t 140,.t 142,.t 143,.t 144,.t 145])]) (.reg [qM 147 16,qM 2 147])))))))))))))))))))))
def ir_slices_pdqsortCmpFunc_api_Family:IC:=(.seq (.reg [qO 10 (.mov (.c (.bool true)))]) (.seq (.reg [qO 11 (.mov (.c (.bool true)))]) (.block 0 (.loop ir_slices_pdqsortCmpFunc_api_Family_L0))))
def rs_slices_pdqsortCmpFunc_api_Family:List IRes:=[]
theorem ck_slices_pdqsortCmpFunc_api_Family:chkF Tryz.prog Tryz.f170 ir_slices_pdqsortCmpFunc_api_Family rs_slices_pdqsortCmpFunc_api_Family 148=true:=by kernel_rfl
def ir_slices_SortFunc_api_Family_api_Family:IC:=(.seq (.reg [qM 5 0,qO 6 (.len (.t 5)),qM 4 6]) (.reg [qM 7 0,qM 8 4,qM 9 4,qO 10 (.cvi .u64 (.t 9)),qO 11 (.call 171 [.t 10]),qM 12 1,qO 13 (.call 170 [.t 7,.c (.int .i64 0),.t 8,.t 11,.t 12])]))
def rs_slices_SortFunc_api_Family_api_Family:List IRes:=[]
theorem ck_slices_SortFunc_api_Family_api_Family:chkF Tryz.prog Tryz.f87 ir_slices_SortFunc_api_Family_api_Family rs_slices_SortFunc_api_Family_api_Family 14=true:=by kernel_rfl
abbrev tElFam:Nat:=119
theorem boxK_pFam:∀ (ps:List PV) (L:Objs),Zl L (ps.map .p)=true
 |[],_=>rfl
 |_ :: r,L=>boxK_pFam r L
section
variable {E:Envt}
theorem bitsLenFam_ok (x:Int) (h0:0≤x) (h1:x≤18446744073709551615):PCall Tryz.prog E 171 [.int .u64 x] (·=int (Lib.bitLen x.toNat:Nat)):=
 pcall_flat rfl rfl fun w _=>(Any.bits_Len Tryz.layBitsLen x w h0 h1).mono fun e w' h=>⟨h.1,by rw [h.2];exact Grow.refl _ _⟩
theorem insSortFam_ok {α:Type} (f0:α→List UInt8) (f1:α→List (List PV)) (cf:α→α→Int) (hO:OrdP (ltC cf)) (g:FuncId) (ps:List PV) (hg:Unit→fnB Tryz.prog g=true) (l:List α) (hl:l.length≤12) (hc:∀ x∈l,∀ y∈l,PCall Tryz.prog E g (.agg [.str (f0 x),.sl 1 (f1 x)] :: .agg [.str (f0 y),.sl 1 (f1 y)] :: ps) (·=int (cf x y)))
  (hn:∀ x y,Zbh [] (.p (.agg [.str (f0 x),.sl 1 (f1 x)]) :: .p (.agg [.str (f0 y),.sl 1 (f1 y)]) :: ps.map .p)=some (.agg [.str (f0 x),.sl 1 (f1 x)] :: .agg [.str (f0 y),.sl 1 (f1 y)] :: ps)) (hr:∀ x y,Zbj (.p (.agg [.str (f0 x),.sl 1 (f1 x)]) :: .p (.agg [.str (f0 y),.sl 1 (f1 y)]) :: ps.map .p)=true):RCall Tryz.prog E 228 tElFam 2 (l.map (fun x=>([.str (f0 x),.sl 1 (f1 x)]:List PV))) [int 0,int (l.length:Nat),.clo g ps] (fun x es'=>x=.tup []∧∃ l':List α,es'=l'.map (fun x=>([.str (f0 x),.sl 1 (f1 x)]:List PV))∧l'.Perm l∧SrtP (ltC cf) l'):=by
 unfold RCall
 refine gcallP mixed Tryz.func228 ck_slices_insertionSortCmpFunc_api_Family ?_
 simp only [a0,l0,OS.ao,List.map_cons,List.map_nil,List.length_cons,List.length_nil,List.cons_append,List.nil_append,Nat.reduceSub,Nat.reduceAdd,List.replicate_succ,List.replicate_zero,List.length_map,ir_slices_insertionSortCmpFunc_api_Family,rs_slices_insertionSortCmpFunc_api_Family,ZZ,WW,Ze,reduceCtorEq,Nat.reduceAdd,Nat.reduceMul,Nat.reduceLeDiff,Nat.reduceLT,Nat.reduceEqDiff]
 ((repeat' (with_reducible apply And.intro))<;>try ((exact sc_)))
 rw [show l.map (fun x=>([.str (f0 x),.sl 1 (f1 x)]:List PV))=(l.take 1++l.drop 1).map (fun x=>([.str (f0 x),.sl 1 (f1 x)]:List PV)) from by rw [List.take_append_drop]]
 refine loop_intro (fun n fr L=>∃ (i:Nat) (P:List α) (C:List α),l.length - i=n∧(1≤i)∧(P.length=i∨l.length=0)∧((P++C).Perm l)∧(SrtP (ltC cf) P)∧fr=[.row (.b 0),.p (int 0),.p (int (l.length:Nat)),.p (.clo g ps),oo,oo,oo,oo,.p (int (i:Nat)),oo,oo,oo,oo,oo,oo,oo,oo,oo,oo,oo,oo,oo,oo,oo,oo,oo,oo,oo,oo,oo,oo,oo,oo,oo,oo,oo,oo,oo,oo,oo,oo,oo,oo,oo,oo,oo,oo,oo,oo,oo,oo,oo,oo]∧L=[(.b 0,.row ((P++C).map (fun x=>([.str (f0 x),.sl 1 (f1 x)]:List PV))) tElFam 2 true)]) (l.length - 1) [.row (.b 0),.p (int 0),.p (int (l.length:Nat)),.p (.clo g ps),oo,oo,oo,oo,.p (int (1:Nat)),oo,oo,oo,oo,oo,oo,oo,oo,oo,oo,oo,oo,oo,oo,oo,oo,oo,oo,oo,oo,oo,oo,oo,oo,oo,oo,oo,oo,oo,oo,oo,oo,oo,oo,oo,oo,oo,oo,oo,oo,oo,oo,oo,oo] [(.b 0,.row (((l.take 1)++(l.drop 1)).map (fun x=>([.str (f0 x),.sl 1 (f1 x)]:List PV))) tElFam 2 true)] (by (simp only [ZZ,WW,Ze,reduceCtorEq,Nat.reduceAdd,Nat.reduceMul,Nat.reduceLeDiff,Nat.reduceLT,Nat.reduceEqDiff];try trivial)) (by (simp only [ZZ,WW,Ze,reduceCtorEq,Nat.reduceAdd,Nat.reduceMul,Nat.reduceLeDiff,Nat.reduceLT,Nat.reduceEqDiff];try trivial)) ⟨1,l.take 1,l.drop 1,rfl,by omega,by rw [List.length_take];omega,by rw [List.take_append_drop],by cases l with|nil=>exact List.Pairwise.nil|cons x r=>simp [SrtP],rfl,rfl⟩ ?_
 rintro n fr L ⟨i,P,C,rfl,hi,hP,hp,hs,rfl,rfl⟩
 simp only [ir_slices_insertionSortCmpFunc_api_Family_L0,ZZ,WW,Ze,reduceCtorEq,Nat.reduceAdd,Nat.reduceMul,Nat.reduceLeDiff,Nat.reduceLT,Nat.reduceEqDiff]
 have hpl:P.length+C.length=l.length:=by rw [← List.length_append,hp.length_eq]
 refine br ?_ ?_
 rotate_left
 ·intro h
  have hge:l.length≤i:=by have:=of_decide_eq_false h;omega
  have hC:C=[]:=List.eq_nil_of_length_eq_zero (by omega)
  subst hC
  rw [List.append_nil] at hp ⊢
  simp only [ZZ,WW,Ze,reduceCtorEq,Nat.reduceAdd,Nat.reduceMul,Nat.reduceLeDiff,Nat.reduceLT,Nat.reduceEqDiff]
  exact fin_R _ rfl ⟨rfl,P,rfl,hp,hs⟩
 intro h
 have hlt:i < l.length:=by have:=of_decide_eq_true h;omega
 have hP:P.length=i:=by omega
 obtain ⟨x,R,rfl⟩:∃ x R,C=x :: R:=by
  cases C with
  |nil=>simp at hpl;omega
  |cons x R=>exact ⟨x,R,rfl⟩
 have hxl:x∈l:=hp.mem_iff.1 (by simp)
 simp only [ZZ,WW,Ze,reduceCtorEq,Nat.reduceAdd,Nat.reduceMul,Nat.reduceLeDiff,Nat.reduceLT,Nat.reduceEqDiff]
 refine loop_intro (fun n fr L=>∃ (j:Nat) (A:List α) (B:List α),j=n∧(A.length=j)∧(j+B.length=i)∧(SrtP (ltC cf) (A++B))∧(∀ b∈B,ltC cf x b=true)∧((A++x :: (B++R)).Perm l)∧fr=[.row (.b 0),.p (int 0),.p (int (l.length:Nat)),.p (.clo g ps),oo,oo,oo,oo,.p (int (i:Nat)),.p (int (j:Nat)),oo,oo,oo,oo,oo,oo,oo,oo,oo,oo,oo,oo,oo,oo,oo,oo,oo,oo,oo,oo,oo,oo,oo,oo,oo,oo,oo,oo,oo,oo,oo,oo,oo,oo,oo,oo,oo,oo,oo,oo,oo,oo,oo]∧L=[(.b 0,.row ((A++x :: (B++R)).map (fun x=>([.str (f0 x),.sl 1 (f1 x)]:List PV))) tElFam 2 true)]) (i) [.row (.b 0),.p (int 0),.p (int (l.length:Nat)),.p (.clo g ps),oo,oo,oo,oo,.p (int (i:Nat)),.p (int (i:Nat)),oo,oo,oo,oo,oo,oo,oo,oo,oo,oo,oo,oo,oo,oo,oo,oo,oo,oo,oo,oo,oo,oo,oo,oo,oo,oo,oo,oo,oo,oo,oo,oo,oo,oo,oo,oo,oo,oo,oo,oo,oo,oo,oo] [(.b 0,.row ((P++x :: ([]++R)).map (fun x=>([.str (f0 x),.sl 1 (f1 x)]:List PV))) tElFam 2 true)] (by (simp only [ZZ,WW,Ze,reduceCtorEq,Nat.reduceAdd,Nat.reduceMul,Nat.reduceLeDiff,Nat.reduceLT,Nat.reduceEqDiff];try trivial)) (by (simp only [ZZ,WW,Ze,reduceCtorEq,Nat.reduceAdd,Nat.reduceMul,Nat.reduceLeDiff,Nat.reduceLT,Nat.reduceEqDiff];try trivial)) ⟨i,P,[],rfl,hP,by simp,by rw [List.append_nil];exact hs,(fun b hb=>by cases hb),hp,rfl,rfl⟩ ?_
 rintro n fr L ⟨j,A,B,rfl,hj,hji,hsb,hb,hpb,rfl,rfl⟩
 simp only [ir_slices_insertionSortCmpFunc_api_Family_L1,ZZ,WW,Ze,reduceCtorEq,Nat.reduceAdd,Nat.reduceMul,Nat.reduceLeDiff,Nat.reduceLT,Nat.reduceEqDiff]
 have hWl:((A++x :: (B++R)).map (fun x=>([.str (f0 x),.sl 1 (f1 x)]:List PV))).length=l.length:=by rw [List.length_map,hpb.length_eq]
 rcases List.eq_nil_or_concat A with rfl|⟨A',y,hAy⟩
 ·simp only [List.length_nil] at hj
  subst hj
  generalize hW:(([]:List α)++x :: (B++R)).map (fun x=>([.str (f0 x),.sl 1 (f1 x)]:List PV))=W at *
  refine drg0 ?_
  have z00:decide ((0:Int) < ((0:Nat):Int))=false:=rfl
  simp only [ZZ,WW,Ze,reduceCtorEq,Nat.reduceAdd,Nat.reduceMul,Nat.reduceLeDiff,Nat.reduceLT,Nat.reduceEqDiff,hWl,z00,Bool.false_eq_true,false_implies,hg ()]
  refine ⟨boxK_pFam _ _,useGC (fun h=>by cases h) (fun _=>?_)⟩
  simp only [ZZ,WW,Ze,reduceCtorEq,Nat.reduceAdd,Nat.reduceMul,Nat.reduceLeDiff,Nat.reduceLT,Nat.reduceEqDiff]
  ((repeat' (with_reducible apply And.intro))<;>try ((exact sc_)))
  rw [← hW]
  have hfin:SrtP (ltC cf) (([]:List α)++x :: B):=ins_stop hO hsb hb (.inl rfl)
  refine end_round (l.length - (i+1)) [.row (.b 0),.p (int 0),.p (int (l.length:Nat)),.p (.clo g ps),oo,oo,oo,oo,.p (int ((i+1):Nat)),oo,oo,oo,oo,oo,oo,oo,oo,oo,oo,oo,oo,oo,oo,oo,oo,oo,oo,oo,oo,oo,oo,oo,oo,oo,oo,oo,oo,oo,oo,oo,oo,oo,oo,oo,oo,oo,oo,oo,oo,oo,oo,oo,oo] [(.b 0,.row (((x :: B)++(R)).map (fun x=>([.str (f0 x),.sl 1 (f1 x)]:List PV))) tElFam 2 true)] (by omega) (by (simp only [ZZ,WW,Ze,reduceCtorEq,Nat.reduceAdd,Nat.reduceMul,Nat.reduceLeDiff,Nat.reduceLT,Nat.reduceEqDiff];try trivial)) (by (simp only [ZZ,WW,Ze,reduceCtorEq,Nat.reduceAdd,Nat.reduceMul,Nat.reduceLeDiff,Nat.reduceLT,Nat.reduceEqDiff];try trivial)) ⟨i+1,x :: B,R,rfl,by omega,.inl (by simp;omega),by simpa using hpb,hfin,rfl,rfl⟩
 ·obtain rfl:A=A'++[y]:=by rw [hAy];simp
  obtain ⟨q,rfl⟩:∃ q,j=q+1:=⟨A'.length,by rw [← hj];simp⟩
  have hq:A'.length=q:=by simpa using hj
  have hrow:(A'++[y])++x :: (B++R)=A'++y :: x :: (B++R):=by simp
  have hyl:y∈l:=hpb.mem_iff.1 (by simp)
  have e1:(((q+1:Nat):Int) - 1)=(q:Nat):=by omega
  have z0:decide ((0:Int) < ((q+1:Nat):Int))=true:=by rw [decide_eq_true_eq];omega
  rw [hrow] at hWl hpb ⊢
  obtain ⟨g1,g0⟩:=swap_get (fun x=>([.str (f0 x),.sl 1 (f1 x)]:List PV)) A' (B++R) x y []
  have s1:=swap_set (fun x=>([.str (f0 x),.sl 1 (f1 x)]:List PV)) A' (B++R) x y
  rw [hq] at g1 g0 s1
  try simp only at g1 g0 s1
  generalize hW:(A'++y :: x :: (B++R)).map (fun x=>([.str (f0 x),.sl 1 (f1 x)]:List PV))=W at *
  refine drg0 ?_
  simp only [ZZ,WW,Ze,reduceCtorEq,Nat.reduceAdd,Nat.reduceMul,Nat.reduceLeDiff,Nat.reduceLT,Nat.reduceEqDiff,hWl,e1,z0,g1,g0,hg ()]
  refine ⟨⟨by omega,by omega⟩,by omega,i64_of (by omega) (by omega),⟨by omega,by omega⟩,by omega,boxK_pFam _ _,?_⟩
  refine useG (fun _=>hc x hxl y hyl) ((argPs_any (hr x y) (L':=[])).trans (hn x y)) (.inl (hr x y)) ?_
  simp only [ZZ,WW,Ze,reduceCtorEq,Nat.reduceAdd,Nat.reduceMul,Nat.reduceLeDiff,Nat.reduceLT,Nat.reduceEqDiff]
  refine br ?_ ?_
  ·intro hlt2
   have hxy:ltC cf x y=true:=hlt2
   obtain ⟨n1,n2⟩:=ins_step hsb hb hxy
   refine drg0 ?_
   have g2:(W.set (q+1) [.str (f0 y),.sl 1 (f1 y)]).getD q []=[.str (f0 y),.sl 1 (f1 y)]:=by
    rw [List.getD,List.getElem?_set_ne (by omega)]
    exact g0
   simp only [ZZ,WW,Ze,reduceCtorEq,Nat.reduceAdd,Nat.reduceMul,Nat.reduceLeDiff,Nat.reduceLT,Nat.reduceEqDiff,hWl,e1,g1,g0,g2,s1,List.length_set,thenQ]
   ((repeat' (with_reducible apply And.intro))<;>try ((exact sc_)))
   refine end_round ((q)) [.row (.b 0),.p (int 0),.p (int (l.length:Nat)),.p (.clo g ps),oo,oo,oo,oo,.p (int (i:Nat)),.p (int ((q):Nat)),oo,oo,oo,oo,oo,oo,oo,oo,oo,oo,oo,oo,oo,oo,oo,oo,oo,oo,oo,oo,oo,oo,oo,oo,oo,oo,oo,oo,oo,oo,oo,oo,oo,oo,oo,oo,oo,oo,oo,oo,oo,oo,oo] [(.b 0,.row (((A')++x :: ((y :: B)++R)).map (fun x=>([.str (f0 x),.sl 1 (f1 x)]:List PV))) tElFam 2 true)] (by omega) (by (simp only [ZZ,WW,Ze,reduceCtorEq,Nat.reduceAdd,Nat.reduceMul,Nat.reduceLeDiff,Nat.reduceLT,Nat.reduceEqDiff];try trivial)) (by (simp only [ZZ,WW,Ze,reduceCtorEq,Nat.reduceAdd,Nat.reduceMul,Nat.reduceLeDiff,Nat.reduceLT,Nat.reduceEqDiff];try trivial)) ⟨q,A',y :: B,rfl,hq,by simp;omega,n1,n2,by simpa using (List.Perm.append_left A' (List.Perm.swap y x (B++R))).trans hpb,rfl,rfl⟩
  ·intro hlt2
   have hxy:ltC cf x y=false:=hlt2
   simp only [ZZ,WW,Ze,reduceCtorEq,Nat.reduceAdd,Nat.reduceMul,Nat.reduceLeDiff,Nat.reduceLT,Nat.reduceEqDiff]
   ((repeat' (with_reducible apply And.intro))<;>try ((exact sc_)))
   rw [← hW]
   have hfin:SrtP (ltC cf) ((A'++[y])++x :: B):=ins_stop hO hsb hb (.inr ⟨A',y,rfl,hxy⟩)
   have hrow2:A'++y :: x :: (B++R)=((A'++[y])++x :: B)++R:=by simp
   rw [hrow2] at hpb ⊢
   refine end_round (l.length - (i+1)) [.row (.b 0),.p (int 0),.p (int (l.length:Nat)),.p (.clo g ps),oo,oo,oo,oo,.p (int ((i+1):Nat)),oo,oo,oo,oo,oo,oo,oo,oo,oo,oo,oo,oo,oo,oo,oo,oo,oo,oo,oo,oo,oo,oo,oo,oo,oo,oo,oo,oo,oo,oo,oo,oo,oo,oo,oo,oo,oo,oo,oo,oo,oo,oo,oo,oo] [(.b 0,.row ((((A'++[y])++x :: B)++(R)).map (fun x=>([.str (f0 x),.sl 1 (f1 x)]:List PV))) tElFam 2 true)] (by omega) (by (simp only [ZZ,WW,Ze,reduceCtorEq,Nat.reduceAdd,Nat.reduceMul,Nat.reduceLeDiff,Nat.reduceLT,Nat.reduceEqDiff];try trivial)) (by (simp only [ZZ,WW,Ze,reduceCtorEq,Nat.reduceAdd,Nat.reduceMul,Nat.reduceLeDiff,Nat.reduceLT,Nat.reduceEqDiff];try trivial)) ⟨i+1,(A'++[y])++x :: B,R,rfl,by omega,.inl (by simp;omega),hpb,hfin,rfl,rfl⟩
theorem pdqFam_ok {α:Type} (f0:α→List UInt8) (f1:α→List (List PV)) (cf:α→α→Int) (hO:OrdP (ltC cf)) (g:FuncId) (ps:List PV) (hg:Unit→fnB Tryz.prog g=true) (l:List α) (hl:l.length≤12) (hc:∀ x∈l,∀ y∈l,PCall Tryz.prog E g (.agg [.str (f0 x),.sl 1 (f1 x)] :: .agg [.str (f0 y),.sl 1 (f1 y)] :: ps) (·=int (cf x y)))
  (hn:∀ x y,Zbh [] (.p (.agg [.str (f0 x),.sl 1 (f1 x)]) :: .p (.agg [.str (f0 y),.sl 1 (f1 y)]) :: ps.map .p)=some (.agg [.str (f0 x),.sl 1 (f1 x)] :: .agg [.str (f0 y),.sl 1 (f1 y)] :: ps)) (hr:∀ x y,Zbj (.p (.agg [.str (f0 x),.sl 1 (f1 x)]) :: .p (.agg [.str (f0 y),.sl 1 (f1 y)]) :: ps.map .p)=true) (lim:Nat):RCall Tryz.prog E 170 tElFam 2 (l.map (fun x=>([.str (f0 x),.sl 1 (f1 x)]:List PV))) [int 0,int (l.length:Nat),int (lim:Nat),.clo g ps] (fun x es'=>x=.tup []∧∃ l':List α,es'=l'.map (fun x=>([.str (f0 x),.sl 1 (f1 x)]:List PV))∧l'.Perm l∧SrtP (ltC cf) l'):=by
 unfold RCall
 refine gcallP mixed Tryz.func170 ck_slices_pdqsortCmpFunc_api_Family ?_
 simp only [a0,l0,OS.ao,List.map_cons,List.map_nil,List.length_cons,List.length_nil,List.cons_append,List.nil_append,Nat.reduceSub,Nat.reduceAdd,List.replicate_succ,List.replicate_zero,List.length_map,ir_slices_pdqsortCmpFunc_api_Family,rs_slices_pdqsortCmpFunc_api_Family,ZZ,WW,Ze,reduceCtorEq,Nat.reduceAdd,Nat.reduceMul,Nat.reduceLeDiff,Nat.reduceLT,Nat.reduceEqDiff]
 refine loop_intro (fun n fr L=>(0:Nat)=n∧fr=[.row (.b 0),.p (int 0),.p (int (l.length:Nat)),.p (int (lim:Nat)),.p (.clo g ps),oo,oo,oo,oo,oo,.p (.bool true),.p (.bool true),oo,oo,oo,oo,oo,oo,oo,oo,oo,oo,oo,oo,oo,oo,oo,oo,oo,oo,oo,oo,oo,oo,oo,oo,oo,oo,oo,oo,oo,oo,oo,oo,oo,oo,oo,oo,oo,oo,oo,oo,oo,oo,oo,oo,oo,oo,oo,oo,oo,oo,oo,oo,oo,oo,oo,oo,oo,oo,oo,oo,oo,oo,oo,oo,oo,oo,oo,oo,oo,oo,oo,oo,oo,oo,oo,oo,oo,oo,oo,oo,oo,oo,oo,oo,oo,oo,oo,oo,oo,oo,oo,oo,oo,oo,oo,oo,oo,oo,oo,oo,oo,oo,oo,oo,oo,oo,oo,oo,oo,oo,oo,oo,oo,oo,oo,oo,oo,oo,oo,oo,oo,oo,oo,oo,oo,oo,oo,oo,oo,oo,oo,oo,oo,oo,oo,oo]∧L=[(.b 0,.row (l.map (fun x=>([.str (f0 x),.sl 1 (f1 x)]:List PV))) tElFam 2 true)]) ((0:Nat)) [.row (.b 0),.p (int 0),.p (int (l.length:Nat)),.p (int (lim:Nat)),.p (.clo g ps),oo,oo,oo,oo,oo,.p (.bool true),.p (.bool true),oo,oo,oo,oo,oo,oo,oo,oo,oo,oo,oo,oo,oo,oo,oo,oo,oo,oo,oo,oo,oo,oo,oo,oo,oo,oo,oo,oo,oo,oo,oo,oo,oo,oo,oo,oo,oo,oo,oo,oo,oo,oo,oo,oo,oo,oo,oo,oo,oo,oo,oo,oo,oo,oo,oo,oo,oo,oo,oo,oo,oo,oo,oo,oo,oo,oo,oo,oo,oo,oo,oo,oo,oo,oo,oo,oo,oo,oo,oo,oo,oo,oo,oo,oo,oo,oo,oo,oo,oo,oo,oo,oo,oo,oo,oo,oo,oo,oo,oo,oo,oo,oo,oo,oo,oo,oo,oo,oo,oo,oo,oo,oo,oo,oo,oo,oo,oo,oo,oo,oo,oo,oo,oo,oo,oo,oo,oo,oo,oo,oo,oo,oo,oo,oo,oo,oo] [(.b 0,.row (l.map (fun x=>([.str (f0 x),.sl 1 (f1 x)]:List PV))) tElFam 2 true)] (by (simp only [ZZ,WW,Ze,reduceCtorEq,Nat.reduceAdd,Nat.reduceMul,Nat.reduceLeDiff,Nat.reduceLT,Nat.reduceEqDiff];try trivial)) (by (simp only [ZZ,WW,Ze,reduceCtorEq,Nat.reduceAdd,Nat.reduceMul,Nat.reduceLeDiff,Nat.reduceLT,Nat.reduceEqDiff];try trivial)) ⟨rfl,rfl,rfl⟩ ?_
 rintro n fr L ⟨rfl,rfl,rfl⟩
 simp only [ir_slices_pdqsortCmpFunc_api_Family_L0,ZZ,WW,Ze,reduceCtorEq,Nat.reduceAdd,Nat.reduceMul,Nat.reduceLeDiff,Nat.reduceLT,Nat.reduceEqDiff]
 have h12:decide ((l.length:Int)≤12)=true:=by rw [decide_eq_true_eq];omega
 simp only [ZZ,WW,Ze,reduceCtorEq,Nat.reduceAdd,Nat.reduceMul,Nat.reduceLeDiff,Nat.reduceLT,Nat.reduceEqDiff,h12,Int.sub_zero]
 refine ⟨i64_of (by omega) (by omega),?_⟩
 refine useR (insSortFam_ok f0 f1 cf hO g ps hg l hl hc hn hr) rfl rfl rfl zE_ ?_
 rintro x es ⟨rfl,l',rfl,hp,hs⟩
 simp only [ZZ,WW,Ze,reduceCtorEq,Nat.reduceAdd,Nat.reduceMul,Nat.reduceLeDiff,Nat.reduceLT,Nat.reduceEqDiff]
 exact fin_R _ rfl ⟨rfl,l',rfl,hp,hs⟩
theorem SortFFam_ok {α:Type} (f0:α→List UInt8) (f1:α→List (List PV)) (cf:α→α→Int) (hO:OrdP (ltC cf)) (g:FuncId) (ps:List PV) (hg:Unit→fnB Tryz.prog g=true) (l:List α) (hl:l.length≤12) (hc:∀ x∈l,∀ y∈l,PCall Tryz.prog E g (.agg [.str (f0 x),.sl 1 (f1 x)] :: .agg [.str (f0 y),.sl 1 (f1 y)] :: ps) (·=int (cf x y)))
  (hn:∀ x y,Zbh [] (.p (.agg [.str (f0 x),.sl 1 (f1 x)]) :: .p (.agg [.str (f0 y),.sl 1 (f1 y)]) :: ps.map .p)=some (.agg [.str (f0 x),.sl 1 (f1 x)] :: .agg [.str (f0 y),.sl 1 (f1 y)] :: ps)) (hr:∀ x y,Zbj (.p (.agg [.str (f0 x),.sl 1 (f1 x)]) :: .p (.agg [.str (f0 y),.sl 1 (f1 y)]) :: ps.map .p)=true):RCall Tryz.prog E 87 tElFam 2 (l.map (fun x=>([.str (f0 x),.sl 1 (f1 x)]:List PV))) [.clo g ps] (fun x es'=>x=.tup []∧∃ l':List α,es'=l'.map (fun x=>([.str (f0 x),.sl 1 (f1 x)]:List PV))∧l'.Perm l∧SrtP (ltC cf) l'):=by
 have wr:IntKind.u64.wrap (l.length:Int)=l.length:=by simp [IntKind.wrap,IntKind.bits,IntKind.signed];omega
 unfold RCall
 refine gcallP mixed Tryz.func87 ck_slices_SortFunc_api_Family_api_Family ?_
 simp only [a0,l0,OS.ao,List.map_cons,List.map_nil,List.length_cons,List.length_nil,List.cons_append,List.nil_append,Nat.reduceSub,Nat.reduceAdd,List.replicate_succ,List.replicate_zero,List.length_map,ir_slices_SortFunc_api_Family_api_Family,rs_slices_SortFunc_api_Family_api_Family,ZZ,WW,Ze,reduceCtorEq,Nat.reduceAdd,Nat.reduceMul,Nat.reduceLeDiff,Nat.reduceLT,Nat.reduceEqDiff]
 rw [wr]
 refine use1 (bitsLenFam_ok (l.length:Nat) (by omega) (by omega)) rfl (.inl rfl) ?_
 generalize Lib.bitLen _=lim
 simp only [ZZ,WW,Ze,reduceCtorEq,Nat.reduceAdd,Nat.reduceMul,Nat.reduceLeDiff,Nat.reduceLT,Nat.reduceEqDiff]
 refine useR (pdqFam_ok f0 f1 cf hO g ps hg l hl hc hn hr lim) rfl rfl rfl zE_ ?_
 rintro x es ⟨rfl,l',rfl,hp,hs⟩
 simp only [ZZ,WW,Ze,reduceCtorEq,Nat.reduceAdd,Nat.reduceMul,Nat.reduceLeDiff,Nat.reduceLT,Nat.reduceEqDiff]
 exact fin_R _ rfl ⟨rfl,l',rfl,hp,hs⟩
end
def ir_cmp_isNaN_string:IC:=(.seq (.reg [qO 2 (.mov (.c (.bool false)))]) (.seq (.reg [qM 3 0,qM 4 0,qO 5 (.bin .neq (.t 3) (.t 4)),qM 2 5]) .ret))
def rs_cmp_isNaN_string:List IRes:=[.t 2]
theorem ck_cmp_isNaN_string:chkF Tryz.prog Tryz.f284 ir_cmp_isNaN_string rs_cmp_isNaN_string 6=true:=by kernel_rfl
def ir_cmp_isNaN_int:IC:=(.seq (.reg [qO 2 (.mov (.c (.bool false)))]) (.seq (.reg [qM 3 0,qM 4 0,qO 5 (.bin .neq (.t 3) (.t 4)),qM 2 5]) .ret))
def rs_cmp_isNaN_int:List IRes:=[.t 2]
theorem ck_cmp_isNaN_int:chkF Tryz.prog Tryz.f173 ir_cmp_isNaN_int rs_cmp_isNaN_int 6=true:=by kernel_rfl
def ir_cmp_Compare_string:IC:=(.seq (.reg [qO 4 (.mov (.c (.int .i64 0)))]) (.seq (.reg [qM 7 0,qO 8 (.call 284 [.t 7]),qM 5 8]) (.seq (.reg [qM 9 1,qO 10 (.call 284 [.t 9]),qM 6 10]) (.seq (.seq (.reg [qM 11 5]) (.cond (.t 11) (.seq (.seq (.reg [qM 12 6]) (.cond (.t 12) (.seq (.reg [qO 4 (.mov (.c (.int .i64 0)))]) .ret) .skip)) (.seq (.reg [qO 4 (.mov (.c (.int .i64 (-1))))]) .ret)) .skip)) (.seq (.seq (.reg [qM 13 6]) (.cond (.t 13) (.seq (.reg [qO 4 (.mov (.c (.int .i64 1)))]) .ret) .skip)) (.seq (.seq (.reg [qM 14 0,qM 15 1,qO 16 (.bin .lss (.t 14) (.t 15))]) (.cond (.t 16) (.seq (.reg [qO 4 (.mov (.c (.int .i64 (-1))))]) .ret) .skip)) (.seq (.seq (.reg [qM 17 0,qM 18 1,qO 19 (.bin .gtr (.t 17) (.t 18))]) (.cond (.t 19) (.seq (.reg [qO 4 (.mov (.c (.int .i64 1)))]) .ret) .skip)) (.seq (.reg [qO 4 (.mov (.c (.int .i64 0)))]) .ret))))))))
def rs_cmp_Compare_string:List IRes:=[.t 4]
theorem ck_cmp_Compare_string:chkF Tryz.prog Tryz.f227 ir_cmp_Compare_string rs_cmp_Compare_string 20=true:=by kernel_rfl
def ir_cmp_Compare_int:IC:=(.seq (.reg [qO 4 (.mov (.c (.int .i64 0)))]) (.seq (.reg [qM 7 0,qO 8 (.call 173 [.t 7]),qM 5 8]) (.seq (.reg [qM 9 1,qO 10 (.call 173 [.t 9]),qM 6 10]) (.seq (.seq (.reg [qM 11 5]) (.cond (.t 11) (.seq (.seq (.reg [qM 12 6]) (.cond (.t 12) (.seq (.reg [qO 4 (.mov (.c (.int .i64 0)))]) .ret) .skip)) (.seq (.reg [qO 4 (.mov (.c (.int .i64 (-1))))]) .ret)) .skip)) (.seq (.seq (.reg [qM 13 6]) (.cond (.t 13) (.seq (.reg [qO 4 (.mov (.c (.int .i64 1)))]) .ret) .skip)) (.seq (.seq (.reg [qM 14 0,qM 15 1,qO 16 (.bin .lss (.t 14) (.t 15))]) (.cond (.t 16) (.seq (.reg [qO 4 (.mov (.c (.int .i64 (-1))))]) .ret) .skip)) (.seq (.seq (.reg [qM 17 0,qM 18 1,qO 19 (.bin .gtr (.t 17) (.t 18))]) (.cond (.t 19) (.seq (.reg [qO 4 (.mov (.c (.int .i64 1)))]) .ret) .skip)) (.seq (.reg [qO 4 (.mov (.c (.int .i64 0)))]) .ret))))))))
def rs_cmp_Compare_int:List IRes:=[.t 4]
theorem ck_cmp_Compare_int:chkF Tryz.prog Tryz.f90 ir_cmp_Compare_int rs_cmp_Compare_int 20=true:=by kernel_rfl
def ir_cmp_Or_int_L0:IC:=(.seq (.reg [qO 9 (.bin .lss (.t 8) (.t 7))]) (.seq (.cond (.t 9) .skip (.exit 0)) (.seq (.block 1 (.seq (.reg [qO 10 (.ixa 1 (.t 6) (.t 8)),qO 11 (.ld 1 false (.t 10)),qM 5 11]) (.seq (.reg [qM 12 5,qM 13 3,qO 14 (.bin .neq (.t 12) (.t 13))]) (.cond (.t 14) (.seq (.reg [qM 15 5,qM 2 15]) .ret) .skip)))) (.reg [qO 16 (.bin .add (.t 8) (.c (.int .i64 1))),qM 8 16]))))
def ir_cmp_Or_int:IC:=(.seq (.reg [qO 2 (.mov (.c (.int .i64 0)))]) (.seq (.reg [qO 3 (.mov (.c (.int .i64 0)))]) (.seq (.seq (.reg [qM 6 0,qO 7 (.len (.t 6)),qO 8 (.mov (.c (.int .i64 0)))]) (.block 0 (.loop ir_cmp_Or_int_L0))) (.seq (.reg [qM 17 3,qM 2 17]) .ret))))
def rs_cmp_Or_int:List IRes:=[.t 2]
theorem ck_cmp_Or_int:chkF Tryz.prog Tryz.f91 ir_cmp_Or_int rs_cmp_Or_int 18=true:=by kernel_rfl
def ir_slices_Compare_string_string_L0:IC:=(.seq (.reg [qO 12 (.bin .lss (.t 11) (.t 10))]) (.seq (.cond (.t 12) .skip (.exit 0)) (.seq (.block 1 (.seq (.reg [qM 13 11,qO 14 (.ixa 1 (.t 9) (.t 11)),qO 15 (.ld 1 false (.t 14)),qM 5 13,qM 6 15]) (.seq (.seq (.reg [qM 16 5,qM 17 1,qO 18 (.len (.t 17)),qO 19 (.bin .geq (.t 16) (.t 18))]) (.cond (.t 19) (.seq (.reg [qO 4 (.mov (.c (.int .i64 1)))]) .ret) .skip)) (.seq (.reg [qM 20 1,qM 21 5,qO 22 (.ixa 1 (.t 20) (.t 21)),qO 23 (.ld 1 false (.t 22)),qM 7 23]) (.seq (.reg [qM 24 6,qM 25 7,qO 26 (.call 227 [.t 24,.t 25]),qM 8 26]) (.seq (.reg [qM 27 8,qO 28 (.bin .neq (.t 27) (.c (.int .i64 0)))]) (.cond (.t 28) (.seq (.reg [qM 29 8,qM 4 29]) .ret) .skip))))))) (.reg [qO 30 (.bin .add (.t 11) (.c (.int .i64 1))),qM 11 30]))))
def ir_slices_Compare_string_string:IC:=(.seq (.reg [qO 4 (.mov (.c (.int .i64 0)))]) (.seq (.seq (.reg [qM 9 0,qO 10 (.len (.t 9)),qO 11 (.mov (.c (.int .i64 0)))]) (.block 0 (.loop ir_slices_Compare_string_string_L0))) (.seq (.seq (.reg [qM 31 0,qO 32 (.len (.t 31)),qM 33 1,qO 34 (.len (.t 33)),qO 35 (.bin .lss (.t 32) (.t 34))]) (.cond (.t 35) (.seq (.reg [qO 4 (.mov (.c (.int .i64 (-1))))]) .ret) .skip)) (.seq (.reg [qO 4 (.mov (.c (.int .i64 0)))]) .ret))))
def rs_slices_Compare_string_string:List IRes:=[.t 4]
theorem ck_slices_Compare_string_string:chkF Tryz.prog Tryz.f168 ir_slices_Compare_string_string rs_slices_Compare_string_string 36=true:=by kernel_rfl
theorem cb_less:∀ a b:List UInt8,Lib.compareBytes a b=if bytesLess a b=true then -1 else if (!(bytesLess a b || decide (a=b)))=true then 1 else 0
 |[],[]=>by decide
 |[],b :: s=>by simp [Lib.compareBytes,bytesLess,Op.bytesLess]
 |a :: r,[]=>by simp [Lib.compareBytes,bytesLess,Op.bytesLess]
 |a :: r,b :: s=>by
  have ih:=cb_less r s
  have e:bytesLess (a :: r) (b :: s)=(decide (a < b) || (a == b && bytesLess r s)):=by simp [bytesLess,Op.bytesLess]
  simp only [Lib.compareBytes]
  rw [e]
  by_cases h1:a < b
  ·rw [if_pos h1,decide_eq_true h1]
   rfl
  ·rw [if_neg h1,decide_eq_false h1,Bool.false_or]
   by_cases h2:a=b
   ·subst h2
    rw [if_neg h1,ih]
    simp
   ·have h3:b < a:=by
     rw [UInt8.lt_iff_toNat_lt] at *
     have:a.toNat≠b.toNat:=fun e=>h2 (UInt8.toNat_inj.1 e)
     omega
    have h4:(a == b)=false:=by simpa using h2
    rw [if_pos h3,h4]
    simp [h2]
def sgnC (a b:Int):Int:=if a < b then -1 else if b < a then 1 else 0
section
variable {E:Envt}
theorem isNaNS_ok (s:List UInt8):PCall Tryz.prog E 284 [.str s] (·=.bool false):=by
 refine pcallF mixed Tryz.func284 ck_cmp_isNaN_string ?_
 simp only [a0,l0,OS.ao,List.map_cons,List.map_nil,List.length_cons,List.length_nil,List.cons_append,List.nil_append,Nat.reduceSub,Nat.reduceAdd,List.replicate_succ,List.replicate_zero,ir_cmp_isNaN_string,rs_cmp_isNaN_string,ZZ,WW,Ze,reduceCtorEq,Nat.reduceAdd,Nat.reduceMul,Nat.reduceLeDiff,Nat.reduceLT,Nat.reduceEqDiff]
 simp
theorem isNaNI_ok (n:Int):PCall Tryz.prog E 173 [int n] (·=.bool false):=by
 refine pcallF mixed Tryz.func173 ck_cmp_isNaN_int ?_
 simp only [a0,l0,OS.ao,List.map_cons,List.map_nil,List.length_cons,List.length_nil,List.cons_append,List.nil_append,Nat.reduceSub,Nat.reduceAdd,List.replicate_succ,List.replicate_zero,ir_cmp_isNaN_int,rs_cmp_isNaN_int,ZZ,WW,Ze,reduceCtorEq,Nat.reduceAdd,Nat.reduceMul,Nat.reduceLeDiff,Nat.reduceLT,Nat.reduceEqDiff]
 simp
theorem CompareS_ok (a b:List UInt8):PCall Tryz.prog E 227 [.str a,.str b] (·=int (Lib.compareBytes a b)):=by
 refine pcallF mixed Tryz.func227 ck_cmp_Compare_string ?_
 simp only [a0,l0,OS.ao,List.map_cons,List.map_nil,List.length_cons,List.length_nil,List.cons_append,List.nil_append,Nat.reduceSub,Nat.reduceAdd,List.replicate_succ,List.replicate_zero,ir_cmp_Compare_string,rs_cmp_Compare_string,ZZ,WW,Ze,reduceCtorEq,Nat.reduceAdd,Nat.reduceMul,Nat.reduceLeDiff,Nat.reduceLT,Nat.reduceEqDiff]
 refine use1 (isNaNS_ok a) rfl (.inl rfl) ?_
 simp only [ZZ,WW,Ze,reduceCtorEq,Nat.reduceAdd,Nat.reduceMul,Nat.reduceLeDiff,Nat.reduceLT,Nat.reduceEqDiff]
 refine use1 (isNaNS_ok b) rfl (.inl rfl) ?_
 simp only [ZZ,WW,Ze,reduceCtorEq,Nat.reduceAdd,Nat.reduceMul,Nat.reduceLeDiff,Nat.reduceLT,Nat.reduceEqDiff]
 rw [cb_less]
 refine br ?_ ?_
 ·intro h
  simp only [ZZ,WW,Ze,reduceCtorEq,Nat.reduceAdd,Nat.reduceMul,Nat.reduceLeDiff,Nat.reduceLT,Nat.reduceEqDiff]
  rw [if_pos h]
 intro h
 simp only [ZZ,WW,Ze,reduceCtorEq,Nat.reduceAdd,Nat.reduceMul,Nat.reduceLeDiff,Nat.reduceLT,Nat.reduceEqDiff]
 refine br ?_ ?_
 ·intro h2
  simp only [ZZ,WW,Ze,reduceCtorEq,Nat.reduceAdd,Nat.reduceMul,Nat.reduceLeDiff,Nat.reduceLT,Nat.reduceEqDiff]
  rw [if_neg (by rw [h];decide),if_pos h2]
 intro h2
 simp only [ZZ,WW,Ze,reduceCtorEq,Nat.reduceAdd,Nat.reduceMul,Nat.reduceLeDiff,Nat.reduceLT,Nat.reduceEqDiff]
 rw [if_neg (by rw [h];decide),if_neg (by rw [h2];decide)]
theorem CompareI_ok (a b:Int):PCall Tryz.prog E 90 [int a,int b] (·=int (sgnC a b)):=by
 refine pcallF mixed Tryz.func90 ck_cmp_Compare_int ?_
 simp only [a0,l0,OS.ao,List.map_cons,List.map_nil,List.length_cons,List.length_nil,List.cons_append,List.nil_append,Nat.reduceSub,Nat.reduceAdd,List.replicate_succ,List.replicate_zero,ir_cmp_Compare_int,rs_cmp_Compare_int,ZZ,WW,Ze,reduceCtorEq,Nat.reduceAdd,Nat.reduceMul,Nat.reduceLeDiff,Nat.reduceLT,Nat.reduceEqDiff]
 refine use1 (isNaNI_ok a) rfl (.inl rfl) ?_
 simp only [ZZ,WW,Ze,reduceCtorEq,Nat.reduceAdd,Nat.reduceMul,Nat.reduceLeDiff,Nat.reduceLT,Nat.reduceEqDiff]
 refine use1 (isNaNI_ok b) rfl (.inl rfl) ?_
 simp only [ZZ,WW,Ze,reduceCtorEq,Nat.reduceAdd,Nat.reduceMul,Nat.reduceLeDiff,Nat.reduceLT,Nat.reduceEqDiff]
 unfold sgnC
 refine br ?_ ?_
 ·intro h
  simp only [ZZ,WW,Ze,reduceCtorEq,Nat.reduceAdd,Nat.reduceMul,Nat.reduceLeDiff,Nat.reduceLT,Nat.reduceEqDiff]
  rw [if_pos (of_decide_eq_true h)]
 intro h
 simp only [ZZ,WW,Ze,reduceCtorEq,Nat.reduceAdd,Nat.reduceMul,Nat.reduceLeDiff,Nat.reduceLT,Nat.reduceEqDiff]
 refine br ?_ ?_
 ·intro h2
  simp only [ZZ,WW,Ze,reduceCtorEq,Nat.reduceAdd,Nat.reduceMul,Nat.reduceLeDiff,Nat.reduceLT,Nat.reduceEqDiff]
  rw [if_neg (of_decide_eq_false h),if_pos (of_decide_eq_true h2)]
 intro h2
 simp only [ZZ,WW,Ze,reduceCtorEq,Nat.reduceAdd,Nat.reduceMul,Nat.reduceLeDiff,Nat.reduceLT,Nat.reduceEqDiff]
 rw [if_neg (of_decide_eq_false h),if_neg (of_decide_eq_false h2)]
theorem OrI_ok (l:List Int) (hl:l.length≤1000000):PCall Tryz.prog E 91 [ints l] (·=int (firstE l)):=by
 refine pcallF mixed Tryz.func91 ck_cmp_Or_int ?_
 simp only [a0,l0,OS.ao,List.map_cons,List.map_nil,List.length_cons,List.length_nil,List.cons_append,List.nil_append,Nat.reduceSub,Nat.reduceAdd,List.replicate_succ,List.replicate_zero,ir_cmp_Or_int,rs_cmp_Or_int,ZZ,WW,Ze,reduceCtorEq,Nat.reduceAdd,Nat.reduceMul,Nat.reduceLeDiff,Nat.reduceLT,Nat.reduceEqDiff]
 simp only [ints,ZZ,WW,Ze,reduceCtorEq,Nat.reduceAdd,Nat.reduceMul,Nat.reduceLeDiff,Nat.reduceLT,Nat.reduceEqDiff]
 generalize hes:l.map (fun x=>[PV.int IntKind.i64 x])=es
 have hln:es.length=l.length:=by rw [← hes];simp
 refine loop_intro (fun n fr L=>∃ (k:Nat),k≤l.length∧n=l.length - k∧(firstE l=firstE (l.drop k))∧fr=[.p (.sl 1 es),oo,.p (int 0),.p (int 0),oo,oo,.p (.sl 1 es),.p (int (es.length:Nat)),.p (int (k:Nat)),oo,oo,oo,oo,oo,oo,oo,oo,oo]∧L=[]) (l.length) [.p (.sl 1 es),oo,.p (int 0),.p (int 0),oo,oo,.p (.sl 1 es),.p (int (es.length:Nat)),.p (int (0:Nat)),oo,oo,oo,oo,oo,oo,oo,oo,oo] [] zF_ (by (simp only [ZZ,WW,Ze,reduceCtorEq,Nat.reduceAdd,Nat.reduceMul,Nat.reduceLeDiff,Nat.reduceLT,Nat.reduceEqDiff];try trivial)) ⟨0,by omega,by omega,rfl,rfl,rfl⟩ ?_
 rintro n fr L ⟨k,hk,rfl,hF,rfl,rfl⟩
 simp only [ir_cmp_Or_int_L0,ZZ,WW,Ze,reduceCtorEq,Nat.reduceAdd,Nat.reduceMul,Nat.reduceLeDiff,Nat.reduceLT,Nat.reduceEqDiff]
 refine br ?_ ?_
 ·intro h
  have hlt:k < l.length:=by have:=of_decide_eq_true h;omega
  obtain ⟨x,hx⟩:∃ x,l[k]?=some x:=⟨_,List.getElem?_eq_getElem hlt⟩
  have hg:es.getD k []=[.int .i64 x]:=by rw [← hes];exact getD_map hx
  have hd:=firstE_drop l k x hx
  simp only [ZZ,WW,Ze,reduceCtorEq,Nat.reduceAdd,Nat.reduceMul,Nat.reduceLeDiff,Nat.reduceLT,Nat.reduceEqDiff,hg]
  ((repeat' (with_reducible apply And.intro))<;>try ((exact sc_)))
  refine br ?_ ?_
  ·intro h2
   have h3:¬ x=0:=by simpa using h2
   simp only [ZZ,WW,Ze,reduceCtorEq,Nat.reduceAdd,Nat.reduceMul,Nat.reduceLeDiff,Nat.reduceLT,Nat.reduceEqDiff]
   rw [hF,hd,if_neg h3]
  ·intro h2
   have h3:x=0:=by simpa using h2
   rw [if_pos h3] at hd
   simp only [ZZ,WW,Ze,reduceCtorEq,Nat.reduceAdd,Nat.reduceMul,Nat.reduceLeDiff,Nat.reduceLT,Nat.reduceEqDiff]
   ((repeat' (with_reducible apply And.intro))<;>try ((exact sc_)))
   refine end_round (l.length - (k+1)) [.p (.sl 1 es),oo,.p (int 0),.p (int 0),oo,oo,.p (.sl 1 es),.p (int (es.length:Nat)),.p (int ((k+1):Nat)),oo,oo,oo,oo,oo,oo,oo,oo,oo] [] (by omega) (by (simp only [ZZ,WW,Ze,reduceCtorEq,Nat.reduceAdd,Nat.reduceMul,Nat.reduceLeDiff,Nat.reduceLT,Nat.reduceEqDiff];try trivial)) (by (simp only [ZZ,WW,Ze,reduceCtorEq,Nat.reduceAdd,Nat.reduceMul,Nat.reduceLeDiff,Nat.reduceLT,Nat.reduceEqDiff];try trivial)) ⟨k+1,by omega,rfl,by rw [hF,hd],rfl,rfl⟩
 ·intro h
  have hge:l.length≤k:=by have:=of_decide_eq_false h;omega
  simp only [ZZ,WW,Ze,reduceCtorEq,Nat.reduceAdd,Nat.reduceMul,Nat.reduceLeDiff,Nat.reduceLT,Nat.reduceEqDiff]
  rw [hF,List.drop_eq_nil_of_le (by omega)]
  rfl
theorem StrCompare_ok (s t:List UInt8):PCall Tryz.prog E 89 [.str s,.str t] (·=int (Lib.compareBytes s t)):=
 pcall_flat rfl rfl fun w _=>(Any.strings_Compare Tryz.layCompare ⟨s.toArray⟩ ⟨t.toArray⟩ w).mono fun e w' h=>⟨h.1,by rw [h.2];exact Grow.refl _ _⟩
def lexC:List (List UInt8)→List (List UInt8)→Int
 |[],[]=>0
 |[],_ :: _=>-1
 |_ :: _,[]=>1
 |a :: r,b :: s=>if Lib.compareBytes a b=0 then lexC r s else Lib.compareBytes a b
theorem SlCompare_ok (u v:List (List UInt8)) (hu:u.length≤1000000) (hv:v.length≤1000000):PCall Tryz.prog E 168 [.sl 1 (strE u),.sl 1 (strE v)] (·=int (lexC u v)):=by
 refine pcallF mixed Tryz.func168 ck_slices_Compare_string_string ?_
 simp only [a0,l0,OS.ao,List.map_cons,List.map_nil,List.length_cons,List.length_nil,List.cons_append,List.nil_append,Nat.reduceSub,Nat.reduceAdd,List.replicate_succ,List.replicate_zero,ir_slices_Compare_string_string,rs_slices_Compare_string_string,ZZ,WW,Ze,reduceCtorEq,Nat.reduceAdd,Nat.reduceMul,Nat.reduceLeDiff,Nat.reduceLT,Nat.reduceEqDiff]
 simp only [ZZ,WW,Ze,reduceCtorEq,Nat.reduceAdd,Nat.reduceMul,Nat.reduceLeDiff,Nat.reduceLT,Nat.reduceEqDiff,strE_len]
 refine loop_intro (fun n fr L=>∃ (k:Nat),k≤u.length∧n=u.length - k∧(lexC u v=lexC (u.drop k) (v.drop k)∧k≤v.length)∧fr=[.p (.sl 1 (strE u)),.p (.sl 1 (strE v)),oo,oo,oo,oo,oo,oo,oo,.p (.sl 1 (strE u)),.p (int (u.length:Nat)),.p (int (k:Nat)),oo,oo,oo,oo,oo,oo,oo,oo,oo,oo,oo,oo,oo,oo,oo,oo,oo,oo,oo,oo,oo,oo,oo,oo]∧L=[]) (u.length) [.p (.sl 1 (strE u)),.p (.sl 1 (strE v)),oo,oo,oo,oo,oo,oo,oo,.p (.sl 1 (strE u)),.p (int (u.length:Nat)),.p (int (0:Nat)),oo,oo,oo,oo,oo,oo,oo,oo,oo,oo,oo,oo,oo,oo,oo,oo,oo,oo,oo,oo,oo,oo,oo,oo] [] (by simp only [ZZ,WW,Ze,reduceCtorEq,Nat.reduceAdd,Nat.reduceMul,Nat.reduceLeDiff,Nat.reduceLT,Nat.reduceEqDiff,strE_len];try trivial) (by (simp only [ZZ,WW,Ze,reduceCtorEq,Nat.reduceAdd,Nat.reduceMul,Nat.reduceLeDiff,Nat.reduceLT,Nat.reduceEqDiff];try trivial)) ⟨0,by omega,by omega,⟨rfl,by omega⟩,rfl,rfl⟩ ?_
 rintro n fr L ⟨k,hk,rfl,hF,rfl,rfl⟩
 simp only [ir_slices_Compare_string_string_L0,ZZ,WW,Ze,reduceCtorEq,Nat.reduceAdd,Nat.reduceMul,Nat.reduceLeDiff,Nat.reduceLT,Nat.reduceEqDiff]
 obtain ⟨hF,hkv⟩:=hF
 refine br ?_ ?_
 ·intro h
  have hlt:k < u.length:=by have:=of_decide_eq_true h;omega
  obtain ⟨x,hx⟩:∃ x,u[k]?=some x:=⟨_,List.getElem?_eq_getElem hlt⟩
  have hg:=strE_get hx
  have hdu:u.drop k=x :: u.drop (k+1):=by rw [List.drop_eq_getElem_cons hlt,(List.getElem?_eq_some_iff.1 hx).2]
  simp only [ZZ,WW,Ze,reduceCtorEq,Nat.reduceAdd,Nat.reduceMul,Nat.reduceLeDiff,Nat.reduceLT,Nat.reduceEqDiff,hg,strE_len]
  ((repeat' (with_reducible apply And.intro))<;>try ((exact sc_)))
  refine br ?_ ?_
  ·intro h2
   have hge:v.length≤k:=by have:=of_decide_eq_true h2;omega
   simp only [ZZ,WW,Ze,reduceCtorEq,Nat.reduceAdd,Nat.reduceMul,Nat.reduceLeDiff,Nat.reduceLT,Nat.reduceEqDiff]
   rw [hF,hdu,List.drop_eq_nil_of_le hge]
   rfl
  intro h2
  have hlv:k < v.length:=by have:=of_decide_eq_false h2;omega
  obtain ⟨y,hy⟩:∃ y,v[k]?=some y:=⟨_,List.getElem?_eq_getElem hlv⟩
  have hgy:=strE_get hy
  have hdv:v.drop k=y :: v.drop (k+1):=by rw [List.drop_eq_getElem_cons hlv,(List.getElem?_eq_some_iff.1 hy).2]
  simp only [ZZ,WW,Ze,reduceCtorEq,Nat.reduceAdd,Nat.reduceMul,Nat.reduceLeDiff,Nat.reduceLT,Nat.reduceEqDiff,hgy,strE_len]
  ((repeat' (with_reducible apply And.intro))<;>try ((exact sc_)))
  refine use1 (CompareS_ok x y) rfl (.inl rfl) ?_
  simp only [ZZ,WW,Ze,reduceCtorEq,Nat.reduceAdd,Nat.reduceMul,Nat.reduceLeDiff,Nat.reduceLT,Nat.reduceEqDiff]
  refine br ?_ ?_
  ·intro h3
   have h4:¬ Lib.compareBytes x y=0:=by simpa using h3
   simp only [ZZ,WW,Ze,reduceCtorEq,Nat.reduceAdd,Nat.reduceMul,Nat.reduceLeDiff,Nat.reduceLT,Nat.reduceEqDiff]
   rw [hF,hdu,hdv,lexC,if_neg h4]
  ·intro h3
   have h4:Lib.compareBytes x y=0:=by simpa using h3
   simp only [ZZ,WW,Ze,reduceCtorEq,Nat.reduceAdd,Nat.reduceMul,Nat.reduceLeDiff,Nat.reduceLT,Nat.reduceEqDiff]
   ((repeat' (with_reducible apply And.intro))<;>try ((exact sc_)))
   refine end_round (u.length - (k+1)) [.p (.sl 1 (strE u)),.p (.sl 1 (strE v)),oo,oo,oo,oo,oo,oo,oo,.p (.sl 1 (strE u)),.p (int (u.length:Nat)),.p (int ((k+1):Nat)),oo,oo,oo,oo,oo,oo,oo,oo,oo,oo,oo,oo,oo,oo,oo,oo,oo,oo,oo,oo,oo,oo,oo,oo] [] (by omega) (by (simp only [ZZ,WW,Ze,reduceCtorEq,Nat.reduceAdd,Nat.reduceMul,Nat.reduceLeDiff,Nat.reduceLT,Nat.reduceEqDiff];try trivial)) (by (simp only [ZZ,WW,Ze,reduceCtorEq,Nat.reduceAdd,Nat.reduceMul,Nat.reduceLeDiff,Nat.reduceLT,Nat.reduceEqDiff];try trivial)) ⟨k+1,by omega,rfl,⟨by rw [hF,hdu,hdv,lexC,if_pos h4],by omega⟩,rfl,rfl⟩
 ·intro h
  have hge:u.length=k:=by have:=of_decide_eq_false h;omega
  simp only [ZZ,WW,Ze,reduceCtorEq,Nat.reduceAdd,Nat.reduceMul,Nat.reduceLeDiff,Nat.reduceLT,Nat.reduceEqDiff,strE_len]
  rw [List.drop_eq_nil_of_le (by omega)] at hF
  refine br ?_ ?_
  ·intro h2
   have hlv:k < v.length:=by have:=of_decide_eq_true h2;omega
   simp only [ZZ,WW,Ze,reduceCtorEq,Nat.reduceAdd,Nat.reduceMul,Nat.reduceLeDiff,Nat.reduceLT,Nat.reduceEqDiff]
   rw [hF,List.drop_eq_getElem_cons hlv]
   rfl
  ·intro h2
   have hlv:v.length≤k:=by have:=of_decide_eq_false h2;omega
   simp only [ZZ,WW,Ze,reduceCtorEq,Nat.reduceAdd,Nat.reduceMul,Nat.reduceLeDiff,Nat.reduceLT,Nat.reduceEqDiff]
   rw [hF,List.drop_eq_nil_of_le hlv]
   rfl
end
section
variable {E:Envt}
theorem IndexFuncT_ok (l:List (List UInt8)) (f:FuncId) (ps:List PV) (q:List UInt8→Bool) (hl:l.length≤1000000000) (hfn:Unit→fnB Tryz.prog f=true) (hps:Zl [] (ps.map .p)=true) (hf:∀ x∈l,PCall Tryz.prog E f (.str x :: ps) (·=.bool (q x))) (hn:∀ x,Zbh [] (.p (.str x) :: ps.map .p)=some (.str x :: ps)) (hr:∀ x,Zbj (.p (.str x) :: ps.map .p)=true):PCall Tryz.prog E 169 [.sl 1 (strE l),.clo f ps] (·=int (idxF q l)):=by
 refine pcallF mixed Tryz.func169 ck_slices_IndexFunc_string_string ?_
 simp only [a0,l0,OS.ao,List.map_cons,List.map_nil,List.length_cons,List.length_nil,List.cons_append,List.nil_append,Nat.reduceSub,Nat.reduceAdd,List.replicate_succ,List.replicate_zero,ir_slices_IndexFunc_string_string,rs_slices_IndexFunc_string_string,ZZ,WW,Ze,reduceCtorEq,Nat.reduceAdd,Nat.reduceMul,Nat.reduceLeDiff,Nat.reduceLT,Nat.reduceEqDiff]
 simp only [ZZ,WW,Ze,reduceCtorEq,Nat.reduceAdd,Nat.reduceMul,Nat.reduceLeDiff,Nat.reduceLT,Nat.reduceEqDiff,strE_len]
 refine loop_intro (fun n fr L=>∃ (k:Nat),k≤l.length∧n=l.length - k∧(∀ x∈l.take k,q x=false)∧fr=[.p (.sl 1 (strE l)),.p (.clo f ps),oo,oo,oo,oo,oo,.p (int (l.length:Nat)),.p (int (k:Nat)),oo,oo,oo,oo,oo,oo,oo,oo,oo,oo]∧L=[]) (l.length) [.p (.sl 1 (strE l)),.p (.clo f ps),oo,oo,oo,oo,oo,.p (int (l.length:Nat)),.p (int (0:Nat)),oo,oo,oo,oo,oo,oo,oo,oo,oo,oo] [] (by simp only [strE_len,ZZ,WW,Ze,reduceCtorEq,Nat.reduceAdd,Nat.reduceMul,Nat.reduceLeDiff,Nat.reduceLT,Nat.reduceEqDiff];try trivial) (by (simp only [ZZ,WW,Ze,reduceCtorEq,Nat.reduceAdd,Nat.reduceMul,Nat.reduceLeDiff,Nat.reduceLT,Nat.reduceEqDiff];try trivial)) ⟨0,by omega,by omega,by simp,rfl,rfl⟩ ?_
 rintro n fr L ⟨k,hk,rfl,hno,rfl,rfl⟩
 simp only [ir_slices_IndexFunc_string_string_L0,ZZ,WW,Ze,reduceCtorEq,Nat.reduceAdd,Nat.reduceMul,Nat.reduceLeDiff,Nat.reduceLT,Nat.reduceEqDiff]
 refine br ?_ ?_
 ·intro h
  have hlt:k < l.length:=by have:=of_decide_eq_true h;omega
  obtain ⟨x,hx⟩:∃ x,l[k]?=some x:=⟨_,List.getElem?_eq_getElem hlt⟩
  have hg:=strE_get hx
  simp only [ZZ,WW,Ze,reduceCtorEq,Nat.reduceAdd,Nat.reduceMul,Nat.reduceLeDiff,Nat.reduceLT,Nat.reduceEqDiff,hg,strE_len,hfn ()]
  refine ⟨⟨by omega,by omega⟩,by omega,hps,?_⟩
  refine use1 (hf x (List.mem_of_getElem? hx)) (hn x) (.inl (hr x)) ?_
  simp only [ZZ,WW,Ze,reduceCtorEq,Nat.reduceAdd,Nat.reduceMul,Nat.reduceLeDiff,Nat.reduceLT,Nat.reduceEqDiff]
  refine br ?_ ?_
  ·intro hq
   simp only [ZZ,WW,Ze,reduceCtorEq,Nat.reduceAdd,Nat.reduceMul,Nat.reduceLeDiff,Nat.reduceLT,Nat.reduceEqDiff]
   rw [idxF_hit hx hq hno]
  ·intro hq
   simp only [ZZ,WW,Ze,reduceCtorEq,Nat.reduceAdd,Nat.reduceMul,Nat.reduceLeDiff,Nat.reduceLT,Nat.reduceEqDiff]
   ((repeat' (with_reducible apply And.intro))<;>try ((exact sc_)))
   refine end_round (l.length - (k+1)) [.p (.sl 1 (strE l)),.p (.clo f ps),oo,oo,oo,oo,oo,.p (int (l.length:Nat)),.p (int ((k+1):Nat)),oo,oo,oo,oo,oo,oo,oo,oo,oo,oo] [] (by omega) (by (simp only [ZZ,WW,Ze,reduceCtorEq,Nat.reduceAdd,Nat.reduceMul,Nat.reduceLeDiff,Nat.reduceLT,Nat.reduceEqDiff];try trivial)) (by (simp only [ZZ,WW,Ze,reduceCtorEq,Nat.reduceAdd,Nat.reduceMul,Nat.reduceLeDiff,Nat.reduceLT,Nat.reduceEqDiff];try trivial)) ⟨k+1,by omega,rfl,by rw [List.take_succ_eq_append_getElem hlt];intro y hy;rcases List.mem_append.1 hy with hy|hy;exact hno y hy;rw [List.mem_singleton] at hy;rw [hy,(List.getElem?_eq_some_iff.1 hx).2];exact hq,rfl,rfl⟩
 ·intro h
  have hge:l.length≤k:=by have:=of_decide_eq_false h;omega
  rw [List.take_of_length_le hge] at hno
  simp only [ZZ,WW,Ze,reduceCtorEq,Nat.reduceAdd,Nat.reduceMul,Nat.reduceLeDiff,Nat.reduceLT,Nat.reduceEqDiff]
  rw [idxF_none hno]
theorem ContainsFuncT_ok (l:List (List UInt8)) (f:FuncId) (ps:List PV) (q:List UInt8→Bool) (hl:l.length≤1000000000) (hfn:Unit→fnB Tryz.prog f=true) (hps:Zl [] (ps.map .p)=true) (hf:∀ x∈l,PCall Tryz.prog E f (.str x :: ps) (·=.bool (q x))) (hn:∀ x,Zbh [] (.p (.str x) :: ps.map .p)=some (.str x :: ps)) (hr:∀ x,Zbj (.p (.str x) :: ps.map .p)=true):PCall Tryz.prog E 84 [.sl 1 (strE l),.clo f ps] (·=.bool (l.any q)):=by
 refine pcallF mixed Tryz.func84 ck_slices_ContainsFunc_string_string ?_
 simp only [a0,l0,OS.ao,List.map_cons,List.map_nil,List.length_cons,List.length_nil,List.cons_append,List.nil_append,Nat.reduceSub,Nat.reduceAdd,List.replicate_succ,List.replicate_zero,ir_slices_ContainsFunc_string_string,rs_slices_ContainsFunc_string_string,ZZ,WW,Ze,reduceCtorEq,Nat.reduceAdd,Nat.reduceMul,Nat.reduceLeDiff,Nat.reduceLT,Nat.reduceEqDiff]
 refine use1 (IndexFuncT_ok l f ps q hl hfn hps hf hn hr) rfl (.inl rfl) ?_
 simp only [ZZ,WW,Ze,reduceCtorEq,Nat.reduceAdd,Nat.reduceMul,Nat.reduceLeDiff,Nat.reduceLT,Nat.reduceEqDiff]
 rw [idxF_any]
end
end Go.Proofs.YtehfjlpenlffmaaGreatDoor
