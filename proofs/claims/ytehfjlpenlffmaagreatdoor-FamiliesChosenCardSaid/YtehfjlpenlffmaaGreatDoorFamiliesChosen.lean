import Derived.Test.YtehfjlpenlffmaaGreatDoorZ15
import Derived.Test.YtehfjlpenlffmaaGreatDoorZ10
import Derived.Test.YtehfjlpenlffmaaGreatDoorZ11
set_option linter.unusedVariables false
set_option linter.unusedSimpArgs false
set_option linter.defProp false
namespace Go.Proofs.YtehfjlpenlffmaaGreatDoor
open Go.RowKit
def ir_chaselaw1_FamiliesChosen:IC:=(.seq (.reg [qO 2 (.mov (.c (.bool false)))]) (.seq (.reg [qM 11 0,qO 12 (.bld [.nl 1,.int .i64 0] [(0,1,.t 11)]),qO 13 (.box 25 (.t 12)),qM 3 13]) (.seq (.reg [qM 14 3,qO 15 (.call 8 [.t 14,.c (.int .i64 7)]),qM 4 15]) (.seq (.reg [qM 16 3,qM 17 4,⟨none,.fz (.t 17),none⟩,qO 18 (.call 17 [.t 16,.t 17]),qM 19 3,qO 20 (.call 18 [.t 19]),qM 21 3,qO 22 (.call 19 [.t 21,.c (.int .i64 0),.c (.int .i64 4)]),qO 6 (.alc 45 [.str [],.int .i64 0,.int .i64 0,.str [],.str [],.int .i64 0]),qM 5 18,⟨none,.st 6 (.t 6) (.t 20),none⟩,qM 7 22]) (.seq (.reg [qM 23 4,qM 24 5,qO 25 (.call 20 [.t 23,.t 24]),qM 8 25]) (.seq (.seq (.drg [qO 26 (.ld 6 true (.t 6)),qO 27 (.pcall 0 21 [.t 26]),qO 28 (.ld 6 true (.t 6)),qO 29 (.pcall 1 22 [.t 28]),qO 30 (.bin .neq (.t 27) (.t 29)),qM 31 30,⟨some 32,.mov (.t 4),(some (31,false))⟩,⟨some 33,.mov (.t 5),(some (31,false))⟩,⟨some 34,.pcall 2 23 [.t 32,.t 33],(some (31,false))⟩,⟨some 35,.mov (.t 8),(some (31,false))⟩,⟨some 36,.bin .neq (.t 34) (.t 35),(some (31,false))⟩,qO 37 (.pick (.t 31) (.c (.bool true)) (.t 36))]) (.cond (.t 37) (.seq (.reg [qO 2 (.mov (.c (.bool false)))]) .ret) .skip)) (.seq (.reg [qM 39 4,qM 40 5,qM 41 7,⟨none,.fz (.t 39),none⟩,⟨none,.fz (.t 40),none⟩,⟨none,.fz (.t 41),none⟩,qO 42 (.call 24 [.t 39,.t 40,.t 41]),qM 38 42,qO 43 (.ext 0 (.t 38)),qO 44 (.ext 1 (.t 38)),qM 9 43,qM 10 44]) (.seq (.seq (.reg [qM 45 8,qO 46 (.bin .eql (.t 45) (.c (.int .i64 0))),qM 47 46,⟨some 48,.mov (.t 7),(some (47,true))⟩,⟨some 49,.bin .lss (.t 48) (.c (.int .i64 1)),(some (47,true))⟩,⟨some 50,.mov (.t 49),(some (47,true))⟩,⟨some 51,.mov (.t 7),(some (50,false))⟩,⟨some 52,.bin .gtr (.t 51) (.c (.int .i64 3)),(some (50,false))⟩,⟨some 53,.pick (.t 50) (.c (.bool true)) (.t 52),(some (47,true))⟩,qO 54 (.pick (.t 47) (.t 53) (.c (.bool false)))]) (.cond (.t 54) (.reg [qO 8 (.mov (.c (.int .i64 4)))]) .skip)) (.cut (.seq (.reg [qO 55 (.call 14 []),qM 56 55,⟨some 57,.mov (.t 10),(some (56,true))⟩,⟨some 58,.mov (.t 8),(some (56,true))⟩,⟨some 59,.bin .eql (.t 57) (.t 58),(some (56,true))⟩,qO 60 (.pick (.t 56) (.t 59) (.c (.bool false))),qM 61 60,⟨some 62,.mov (.t 8),(some (61,true))⟩,⟨some 63,.bin .neq (.t 62) (.c (.int .i64 0)),(some (61,true))⟩,⟨some 64,.mov (.t 63),(some (61,true))⟩,⟨some 65,.mov (.t 9),(some (64,false))⟩,⟨some 66,.mov (.t 4),(some (64,false))⟩,⟨some 67,.mov (.t 5),(some (64,false))⟩,⟨some 68,.mov (.t 7),(some (64,false))⟩,⟨none,.fz (.t 66),none⟩,⟨none,.fz (.t 67),none⟩,⟨none,.fz (.t 68),none⟩,⟨some 69,.call 26 [.t 66,.t 67,.t 68],(some (64,false))⟩,⟨some 70,.call 25 [.t 65,.t 69],(some (64,false))⟩,⟨some 71,.pick (.t 64) (.c (.bool true)) (.t 70),(some (61,true))⟩,qO 72 (.pick (.t 61) (.t 71) (.c (.bool false))),qM 2 72]) .ret))))))))))
def rs_chaselaw1_FamiliesChosen:List IRes:=[.t 2]
theorem ck_chaselaw1_FamiliesChosen:chkF Tryz.prog Tryz.f4 ir_chaselaw1_FamiliesChosen rs_chaselaw1_FamiliesChosen 73=true:=by kernel_rfl
theorem pap_itB {il:List Itm} (hP:PapOk il):ItB il:=by
 intro x hx
 obtain ⟨i,hi⟩:=List.getElem?_of_mem hx
 obtain ⟨b1,b2,b3,b4,b5,b6,b7⟩:=hP.2 i x hi
 refine ⟨by rw [b1];simp [pid],?_,b3,?_,b5,?_,b7.1⟩
 ·rcases b2 with h|h<;>rw [h]<;>simp
 ·rcases b4 with h|h<;>rw [h]<;>simp
 ·rcases b6 with h|⟨j,y,_,_,_,_,h⟩<;>rw [h]<;>simp [pid]
set_option maxHeartbeats 4000000 in
theorem familiesChosen_ok (z:List Int) (hl:z.length≤9223372036854775807):PCall Tryz.prog E4 4 [ints z] (·=.bool true):=by
 refine pcallF mixed Tryz.func4 ck_chaselaw1_FamiliesChosen ?_
 simp only [a0,l0,OS.ao,List.map_cons,List.map_nil,List.length_cons,List.length_nil,List.cons_append,List.nil_append,Nat.reduceSub,Nat.reduceAdd,List.replicate_succ,List.replicate_zero,ir_chaselaw1_FamiliesChosen,rs_chaselaw1_FamiliesChosen,ZZ,WW,Ze,reduceCtorEq,Nat.reduceAdd,Nat.reduceMul,Nat.reduceLeDiff,Nat.reduceLT,Nat.reduceEqDiff]
 simp only [ints,ZZ,WW,Ze,reduceCtorEq,Nat.reduceAdd,Nat.reduceMul,Nat.reduceLeDiff,Nat.reduceLT,Nat.reduceEqDiff]
 refine useS (k:=.l 13) (PapersX_ok z 0 7 (by omega) hl (by omega)) rfl rfl rfl zE_ ?_
 rintro x cs' ⟨il,k1,rfl,hil,hP,rfl,hk1⟩
 simp only [ZZ,WW,Ze,reduceCtorEq,Nat.reduceAdd,Nat.reduceMul,Nat.reduceLeDiff,Nat.reduceLT,Nat.reduceEqDiff]
 refine useSF (k:=.l 13) (Rulings_ok z k1 il (by omega) (pap_itB hP) (by omega) hl) rfl rfl rfl zE_ ?_
 rintro es cs' ⟨u,k2,rfl,hu,hub,rfl,hk2⟩
 simp only [ZZ,WW,Ze,reduceCtorEq,Nat.reduceAdd,Nat.reduceMul,Nat.reduceLeDiff,Nat.reduceLT,Nat.reduceEqDiff]
 refine useS (k:=.l 13) (Setup_ok z k2 (by omega) hl) rfl rfl rfl zE_ ?_
 rintro x cs' ⟨s,k3,rfl,hs,rfl,hk3⟩
 simp only [ZZ,WW,Ze,reduceCtorEq,Nat.reduceAdd,Nat.reduceMul,Nat.reduceLeDiff,Nat.reduceLT,Nat.reduceEqDiff]
 refine useS (k:=.l 13) (Range_ok z k3 0 4 (by omega) hl (by omega) (by omega) (by omega)) rfl rfl rfl zE_ ?_
 rintro x cs' ⟨y,rfl,hy1,hy2,rfl⟩
 have hbs:∀ r∈u,r.spans.length≤1000000:=fun r hr=>Nat.le_trans (hub r hr).b2 (by decide)
 have hc1:=up4 (CheckSetup_ok s hs)
 have hc2:=up4 (SetupFault_ok s hs)
 simp only [stV] at hc1 hc2
 simp only [ZZ,WW,Ze,reduceCtorEq,Nat.reduceAdd,Nat.reduceMul,Nat.reduceLeDiff,Nat.reduceLT,Nat.reduceEqDiff,stV]
 ((repeat' (with_reducible apply And.intro))<;>try ((exact sc_)))
 refine use1 (up4 (RulingsFault_ok il hP u (by omega) hbs)) rfl (.inr rfl) ?_
 simp only [ZZ,WW,Ze,reduceCtorEq,Nat.reduceAdd,Nat.reduceMul,Nat.reduceLeDiff,Nat.reduceLT,Nat.reduceEqDiff]
 refine ⟨[int (setF s),int (setF s),int (rulF il u)],?_⟩
 simp only [ZZ,WW,Ze,reduceCtorEq,Nat.reduceAdd,Nat.reduceMul,Nat.reduceLeDiff,Nat.reduceLT,Nat.reduceEqDiff,decide_true,Bool.not_true,Bool.not_false,Bool.or_self]
 refine ⟨usep hc1 rfl (.inl rfl),usep hc2 rfl (.inl rfl),usep (up4 (CheckRulings_ok il hP u (by omega) hbs)) rfl (.inr rfl),?_⟩
 refine use1 (up4 (Chosen_ok il hP (by omega) u (by omega) hbs y)) rfl (.inl rfl) ?_
 generalize rulF il u=n at *
 by_cases h0:n=0
 ·subst h0
  rcases (by omega:y=1∨y=2∨y=3∨y=0∨y=4) with rfl|rfl|rfl|rfl|rfl
  ·have q:firstE [(0:Int),ordF 1]=0:=by decide
   have d1:decide ((1:Int) < 1)=false:=rfl
   have d2:decide ((3:Int) < 1)=false:=rfl
   simp only [ZZ,WW,Ze,reduceCtorEq,Nat.reduceAdd,Nat.reduceMul,Nat.reduceLeDiff,Nat.reduceLT,Nat.reduceEqDiff,q,d1,d2,if_true,decide_true,decide_false,Bool.not_true,Bool.not_false,Bool.or_self,Bool.and_self,Bool.and_false,Bool.false_and,Bool.true_and,Bool.and_true,Bool.or_false,Bool.false_or,Bool.or_true,Bool.true_or]
   refine cut_re _ _ ReOk.refl ?_
   simp only [ZZ,WW,Ze,reduceCtorEq,Nat.reduceAdd,Nat.reduceMul,Nat.reduceLeDiff,Nat.reduceLT,Nat.reduceEqDiff,decide_true,decide_false,Bool.not_true,Bool.not_false,Bool.or_self,Bool.and_self,Bool.and_false,Bool.false_and,Bool.true_and,Bool.and_true,Bool.or_false,Bool.false_or,Bool.or_true,Bool.true_or]
   refine use1 produces_okP rfl (.inl rfl) ?_
   simp only [ZZ,WW,Ze,reduceCtorEq,Nat.reduceAdd,Nat.reduceMul,Nat.reduceLeDiff,Nat.reduceLT,Nat.reduceEqDiff,decide_true,decide_false,Bool.not_true,Bool.not_false,Bool.or_self,Bool.and_self,Bool.and_false,Bool.false_and,Bool.true_and,Bool.and_true,Bool.or_false,Bool.false_or,Bool.or_true,Bool.true_or]
   refine useG (fun _=>ChosenOf_ok il hP (by omega) u (by omega) 1 (by omega)) rfl (.inl rfl) ?_
   simp only [ZZ,WW,Ze,reduceCtorEq,Nat.reduceAdd,Nat.reduceMul,Nat.reduceLeDiff,Nat.reduceLT,Nat.reduceEqDiff]
   refine useG (fun _=>SameFamilies_ok il (by omega) (chS il u 1) (by have:=chS_len il u 1;omega)) rfl (.inl rfl) ?_
   simp only [ZZ,WW,Ze,reduceCtorEq,Nat.reduceAdd,Nat.reduceMul,Nat.reduceLeDiff,Nat.reduceLT,Nat.reduceEqDiff,decide_true,decide_false,Bool.not_true,Bool.not_false,Bool.or_self,Bool.and_self,Bool.and_false,Bool.false_and,Bool.true_and,Bool.and_true,Bool.or_false,Bool.false_or,Bool.or_true,Bool.true_or]
   done
  ·have q:firstE [(0:Int),ordF 2]=0:=by decide
   have d1:decide ((2:Int) < 1)=false:=rfl
   have d2:decide ((3:Int) < 2)=false:=rfl
   simp only [ZZ,WW,Ze,reduceCtorEq,Nat.reduceAdd,Nat.reduceMul,Nat.reduceLeDiff,Nat.reduceLT,Nat.reduceEqDiff,q,d1,d2,if_true,decide_true,decide_false,Bool.not_true,Bool.not_false,Bool.or_self,Bool.and_self,Bool.and_false,Bool.false_and,Bool.true_and,Bool.and_true,Bool.or_false,Bool.false_or,Bool.or_true,Bool.true_or]
   refine cut_re _ _ ReOk.refl ?_
   simp only [ZZ,WW,Ze,reduceCtorEq,Nat.reduceAdd,Nat.reduceMul,Nat.reduceLeDiff,Nat.reduceLT,Nat.reduceEqDiff,decide_true,decide_false,Bool.not_true,Bool.not_false,Bool.or_self,Bool.and_self,Bool.and_false,Bool.false_and,Bool.true_and,Bool.and_true,Bool.or_false,Bool.false_or,Bool.or_true,Bool.true_or]
   refine use1 produces_okP rfl (.inl rfl) ?_
   simp only [ZZ,WW,Ze,reduceCtorEq,Nat.reduceAdd,Nat.reduceMul,Nat.reduceLeDiff,Nat.reduceLT,Nat.reduceEqDiff,decide_true,decide_false,Bool.not_true,Bool.not_false,Bool.or_self,Bool.and_self,Bool.and_false,Bool.false_and,Bool.true_and,Bool.and_true,Bool.or_false,Bool.false_or,Bool.or_true,Bool.true_or]
   refine useG (fun _=>ChosenOf_ok il hP (by omega) u (by omega) 2 (by omega)) rfl (.inl rfl) ?_
   simp only [ZZ,WW,Ze,reduceCtorEq,Nat.reduceAdd,Nat.reduceMul,Nat.reduceLeDiff,Nat.reduceLT,Nat.reduceEqDiff]
   refine useG (fun _=>SameFamilies_ok il (by omega) (chS il u 2) (by have:=chS_len il u 2;omega)) rfl (.inl rfl) ?_
   simp only [ZZ,WW,Ze,reduceCtorEq,Nat.reduceAdd,Nat.reduceMul,Nat.reduceLeDiff,Nat.reduceLT,Nat.reduceEqDiff,decide_true,decide_false,Bool.not_true,Bool.not_false,Bool.or_self,Bool.and_self,Bool.and_false,Bool.false_and,Bool.true_and,Bool.and_true,Bool.or_false,Bool.false_or,Bool.or_true,Bool.true_or]
   done
  ·have q:firstE [(0:Int),ordF 3]=0:=by decide
   have d1:decide ((3:Int) < 1)=false:=rfl
   have d2:decide ((3:Int) < 3)=false:=rfl
   simp only [ZZ,WW,Ze,reduceCtorEq,Nat.reduceAdd,Nat.reduceMul,Nat.reduceLeDiff,Nat.reduceLT,Nat.reduceEqDiff,q,d1,d2,if_true,decide_true,decide_false,Bool.not_true,Bool.not_false,Bool.or_self,Bool.and_self,Bool.and_false,Bool.false_and,Bool.true_and,Bool.and_true,Bool.or_false,Bool.false_or,Bool.or_true,Bool.true_or]
   refine cut_re _ _ ReOk.refl ?_
   simp only [ZZ,WW,Ze,reduceCtorEq,Nat.reduceAdd,Nat.reduceMul,Nat.reduceLeDiff,Nat.reduceLT,Nat.reduceEqDiff,decide_true,decide_false,Bool.not_true,Bool.not_false,Bool.or_self,Bool.and_self,Bool.and_false,Bool.false_and,Bool.true_and,Bool.and_true,Bool.or_false,Bool.false_or,Bool.or_true,Bool.true_or]
   refine use1 produces_okP rfl (.inl rfl) ?_
   simp only [ZZ,WW,Ze,reduceCtorEq,Nat.reduceAdd,Nat.reduceMul,Nat.reduceLeDiff,Nat.reduceLT,Nat.reduceEqDiff,decide_true,decide_false,Bool.not_true,Bool.not_false,Bool.or_self,Bool.and_self,Bool.and_false,Bool.false_and,Bool.true_and,Bool.and_true,Bool.or_false,Bool.false_or,Bool.or_true,Bool.true_or]
   refine useG (fun _=>ChosenOf_ok il hP (by omega) u (by omega) 3 (by omega)) rfl (.inl rfl) ?_
   simp only [ZZ,WW,Ze,reduceCtorEq,Nat.reduceAdd,Nat.reduceMul,Nat.reduceLeDiff,Nat.reduceLT,Nat.reduceEqDiff]
   refine useG (fun _=>SameFamilies_ok il (by omega) (chS il u 3) (by have:=chS_len il u 3;omega)) rfl (.inl rfl) ?_
   simp only [ZZ,WW,Ze,reduceCtorEq,Nat.reduceAdd,Nat.reduceMul,Nat.reduceLeDiff,Nat.reduceLT,Nat.reduceEqDiff,decide_true,decide_false,Bool.not_true,Bool.not_false,Bool.or_self,Bool.and_self,Bool.and_false,Bool.false_and,Bool.true_and,Bool.and_true,Bool.or_false,Bool.false_or,Bool.or_true,Bool.true_or]
   done
  ·have q:firstE [(0:Int),ordF 0]=4:=by decide
   have d1:decide ((0:Int) < 1)=true:=rfl
   have d2:decide ((3:Int) < 0)=false:=rfl
   have d3:decide ((4:Int)=0)=false:=rfl
   have d4:((4:Int)=0)=False:=by simp
   simp only [ZZ,WW,Ze,reduceCtorEq,Nat.reduceAdd,Nat.reduceMul,Nat.reduceLeDiff,Nat.reduceLT,Nat.reduceEqDiff,q,d1,d2,d3,d4,if_true,if_false,decide_true,decide_false,Bool.not_true,Bool.not_false,Bool.or_self,Bool.and_self,Bool.and_false,Bool.false_and,Bool.true_and,Bool.and_true,Bool.or_false,Bool.false_or,Bool.or_true,Bool.true_or]
   refine cut_re _ _ ReOk.refl ?_
   simp only [ZZ,WW,Ze,reduceCtorEq,Nat.reduceAdd,Nat.reduceMul,Nat.reduceLeDiff,Nat.reduceLT,Nat.reduceEqDiff,decide_true,decide_false,Bool.not_true,Bool.not_false,Bool.or_self,Bool.and_self,Bool.and_false,Bool.false_and,Bool.true_and,Bool.and_true,Bool.or_false,Bool.false_or,Bool.or_true,Bool.true_or]
   refine use1 produces_okP rfl (.inl rfl) ?_
   simp only [ZZ,WW,Ze,reduceCtorEq,Nat.reduceAdd,Nat.reduceMul,Nat.reduceLeDiff,Nat.reduceLT,Nat.reduceEqDiff,d3,d4,decide_true,decide_false,Bool.not_true,Bool.not_false,Bool.or_self,Bool.and_self,Bool.and_false,Bool.false_and,Bool.true_and,Bool.and_true,Bool.or_false,Bool.false_or,Bool.or_true,Bool.true_or]
   refine useG (r:=.sl 2 []) (fun h=>by cases h) rfl (.inl rfl) ?_
   simp only [ZZ,WW,Ze,reduceCtorEq,Nat.reduceAdd,Nat.reduceMul,Nat.reduceLeDiff,Nat.reduceLT,Nat.reduceEqDiff]
   refine useG (r:=.bool true) (fun h=>by cases h) rfl (.inl rfl) ?_
   simp only [ZZ,WW,Ze,reduceCtorEq,Nat.reduceAdd,Nat.reduceMul,Nat.reduceLeDiff,Nat.reduceLT,Nat.reduceEqDiff]
  ·have q:firstE [(0:Int),ordF 4]=4:=by decide
   have d1:decide ((4:Int) < 1)=false:=rfl
   have d2:decide ((3:Int) < 4)=true:=rfl
   have d3:decide ((4:Int)=0)=false:=rfl
   have d4:((4:Int)=0)=False:=by simp
   simp only [ZZ,WW,Ze,reduceCtorEq,Nat.reduceAdd,Nat.reduceMul,Nat.reduceLeDiff,Nat.reduceLT,Nat.reduceEqDiff,q,d1,d2,d3,d4,if_true,if_false,decide_true,decide_false,Bool.not_true,Bool.not_false,Bool.or_self,Bool.and_self,Bool.and_false,Bool.false_and,Bool.true_and,Bool.and_true,Bool.or_false,Bool.false_or,Bool.or_true,Bool.true_or]
   refine cut_re _ _ ReOk.refl ?_
   simp only [ZZ,WW,Ze,reduceCtorEq,Nat.reduceAdd,Nat.reduceMul,Nat.reduceLeDiff,Nat.reduceLT,Nat.reduceEqDiff,decide_true,decide_false,Bool.not_true,Bool.not_false,Bool.or_self,Bool.and_self,Bool.and_false,Bool.false_and,Bool.true_and,Bool.and_true,Bool.or_false,Bool.false_or,Bool.or_true,Bool.true_or]
   refine use1 produces_okP rfl (.inl rfl) ?_
   simp only [ZZ,WW,Ze,reduceCtorEq,Nat.reduceAdd,Nat.reduceMul,Nat.reduceLeDiff,Nat.reduceLT,Nat.reduceEqDiff,d3,d4,decide_true,decide_false,Bool.not_true,Bool.not_false,Bool.or_self,Bool.and_self,Bool.and_false,Bool.false_and,Bool.true_and,Bool.and_true,Bool.or_false,Bool.false_or,Bool.or_true,Bool.true_or]
   refine useG (r:=.sl 2 []) (fun h=>by cases h) rfl (.inl rfl) ?_
   simp only [ZZ,WW,Ze,reduceCtorEq,Nat.reduceAdd,Nat.reduceMul,Nat.reduceLeDiff,Nat.reduceLT,Nat.reduceEqDiff]
   refine useG (r:=.bool true) (fun h=>by cases h) rfl (.inl rfl) ?_
   simp only [ZZ,WW,Ze,reduceCtorEq,Nat.reduceAdd,Nat.reduceMul,Nat.reduceLeDiff,Nat.reduceLT,Nat.reduceEqDiff]
 ·have q:firstE [n,ordF y]=n:=by rw [firstE,if_neg h0]
  have d1:decide (n=0)=false:=decide_eq_false h0
  simp only [ZZ,WW,Ze,reduceCtorEq,Nat.reduceAdd,Nat.reduceMul,Nat.reduceLeDiff,Nat.reduceLT,Nat.reduceEqDiff,q,d1,h0,if_false,decide_true,decide_false,Bool.not_true,Bool.not_false,Bool.or_self,Bool.and_self,Bool.and_false,Bool.false_and,Bool.true_and,Bool.and_true,Bool.or_false,Bool.false_or,Bool.or_true,Bool.true_or]
  refine ⟨fun h=>h.elim,?_⟩
  refine cut_re _ _ ReOk.refl ?_
  simp only [ZZ,WW,Ze,reduceCtorEq,Nat.reduceAdd,Nat.reduceMul,Nat.reduceLeDiff,Nat.reduceLT,Nat.reduceEqDiff,decide_true,decide_false,Bool.not_true,Bool.not_false,Bool.or_self,Bool.and_self,Bool.and_false,Bool.false_and,Bool.true_and,Bool.and_true,Bool.or_false,Bool.false_or,Bool.or_true,Bool.true_or]
  refine use1 produces_okP rfl (.inl rfl) ?_
  simp only [ZZ,WW,Ze,reduceCtorEq,Nat.reduceAdd,Nat.reduceMul,Nat.reduceLeDiff,Nat.reduceLT,Nat.reduceEqDiff,d1,h0,decide_true,decide_false,Bool.not_true,Bool.not_false,Bool.or_self,Bool.and_self,Bool.and_false,Bool.false_and,Bool.true_and,Bool.and_true,Bool.or_false,Bool.false_or,Bool.or_true,Bool.true_or]
  refine useG (r:=.sl 2 []) (fun h=>by cases h) rfl (.inl rfl) ?_
  simp only [ZZ,WW,Ze,reduceCtorEq,Nat.reduceAdd,Nat.reduceMul,Nat.reduceLeDiff,Nat.reduceLT,Nat.reduceEqDiff]
  refine useG (r:=.bool true) (fun h=>by cases h) rfl (.inl rfl) ?_
  simp only [ZZ,WW,Ze,reduceCtorEq,Nat.reduceAdd,Nat.reduceMul,Nat.reduceLeDiff,Nat.reduceLT,Nat.reduceEqDiff]
theorem familiesChosen_walk (a0:Option Addr) (len0 cap0:Nat) (z0:List Int) (w:World) (h0:IsRow .i64 w a0 len0 cap0 z0) (he:E4.ok w∧∀ b,E4.bl b→b < w.heap.size) :
  Calls Tryz.prog 4 #[.slice a0 len0 cap0] w fun e w'=>e=.returned (.bool true)∧Below w.heap.size w w':=
 walk_of familiesChosen_ok a0 len0 cap0 z0 w h0 he.1 he.2
end Go.Proofs.YtehfjlpenlffmaaGreatDoor
