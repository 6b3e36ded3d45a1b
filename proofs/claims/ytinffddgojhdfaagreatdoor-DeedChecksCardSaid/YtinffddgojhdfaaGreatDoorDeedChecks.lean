import Derived.Test.YtinffddgojhdfaaGreatDoorZ12
import Derived.Test.YtinffddgojhdfaaGreatDoorZ13
set_option linter.unusedVariables false
set_option linter.unusedSimpArgs false
set_option linter.defProp false
namespace Go.Proofs.YtinffddgojhdfaaGreatDoor
open Go.RowKit
def ir_chaselaw1_DeedChecks:IC:=(.seq (.reg [qO 2 (.mov (.c (.bool false)))]) (.seq (.reg [qM 9 0,qO 10 (.bld [.nl 1,.int .i64 0] [(0,1,.t 9)]),qO 11 (.box 25 (.t 10)),qM 3 11]) (.seq (.reg [qM 12 3,qO 13 (.call 6 [.t 12]),qM 4 13]) (.seq (.seq (.reg [qM 14 3,qO 15 (.call 7 [.t 14,.c (.int .i64 3)]),qO 16 (.not (.t 15))]) (.cond (.t 16) (.reg [qM 17 3,qM 18 4,⟨none,.fz (.t 18),none⟩,qO 19 (.call 8 [.t 17,.t 18]),qM 4 19]) .skip)) (.cut (.seq (.reg [qM 21 4,qO 22 (.call 9 [.t 21]),qM 20 22,qO 23 (.ext 0 (.t 20)),qO 24 (.ext 1 (.t 20)),qM 5 23,qM 6 24]) (.seq (.reg [qM 26 4,qO 27 (.call 10 [.t 26]),qM 25 27,qO 28 (.ext 0 (.t 25)),qO 29 (.ext 1 (.t 25)),qM 7 28,qM 8 29]) (.seq (.reg [qO 30 (.call 11 []),qM 31 30,⟨some 32,.mov (.t 6),(some (31,true))⟩,⟨some 33,.mov (.t 8),(some (31,true))⟩,⟨some 34,.bin .eql (.t 32) (.t 33),(some (31,true))⟩,qO 35 (.pick (.t 31) (.t 34) (.c (.bool false))),qM 36 35,⟨some 37,.mov (.t 5),(some (36,true))⟩,⟨some 38,.mov (.t 7),(some (36,true))⟩,⟨some 39,.bin .eql (.t 37) (.t 38),(some (36,true))⟩,qO 40 (.pick (.t 36) (.t 39) (.c (.bool false))),qM 2 40]) .ret))))))))
def rs_chaselaw1_DeedChecks:List IRes:=[.t 2]
theorem ck_chaselaw1_DeedChecks:chkF Tryz.prog Tryz.f3 ir_chaselaw1_DeedChecks rs_chaselaw1_DeedChecks 41=true:=by kernel_rfl
def DcM (fr:List AV) (L:Objs):Prop:=∃ q:List Dd,DdsB q∧q.length≤2001∧fr=[oo,oo,oo,oo,.p (.sl 12 (ddE q)),oo,oo,oo,oo,oo,oo,oo,oo,oo,oo,oo,oo,oo,oo,oo,oo,oo,oo,oo,oo,oo,oo,oo,oo,oo,oo,oo,oo,oo,oo,oo,oo,oo,oo,oo,oo]∧L=[]
set_option maxHeartbeats 4000000 in
theorem deedChecks_ok (z:List Int) (hl:z.length≤9223372036854775807):PCall Tryz.prog ED 3 [ints z] (·=.bool true):=by
 refine pcallF mixed Tryz.func3 ck_chaselaw1_DeedChecks ?_
 simp only [a0,l0,OS.ao,List.map_cons,List.map_nil,List.length_cons,List.length_nil,List.cons_append,List.nil_append,Nat.reduceSub,Nat.reduceAdd,List.replicate_succ,List.replicate_zero,ir_chaselaw1_DeedChecks,rs_chaselaw1_DeedChecks,ZZ,WW,Ze,reduceCtorEq,Nat.reduceAdd,Nat.reduceMul,Nat.reduceLeDiff,Nat.reduceLT,Nat.reduceEqDiff]
 simp only [ints,ZZ,WW,Ze,reduceCtorEq,Nat.reduceAdd,Nat.reduceMul,Nat.reduceLeDiff,Nat.reduceLT,Nat.reduceEqDiff]
 refine useS (k:=.l 11) (Deeds_ok z 0 (by omega) hl) rfl rfl rfl zE_ ?_
 rintro x cs' ⟨o,k1,rfl,hR,rfl,hk1⟩
 simp only [ZZ,WW,Ze,reduceCtorEq,Nat.reduceAdd,Nat.reduceMul,Nat.reduceLeDiff,Nat.reduceLT,Nat.reduceEqDiff]
 refine useS (k:=.l 11) (Flip_ok z k1 3 (by omega) hl (by decide)) rfl rfl rfl zE_ ?_
 rintro x cs' ⟨b,rfl,rfl⟩
 simp only [ZZ,WW,Ze,reduceCtorEq,Nat.reduceAdd,Nat.reduceMul,Nat.reduceLeDiff,Nat.reduceLT,Nat.reduceEqDiff]
 refine br_join DcM ?_ ?_ ?_
 ·intro _
  simp only [ZZ,WW,Ze,reduceCtorEq,Nat.reduceAdd,Nat.reduceMul,Nat.reduceLeDiff,Nat.reduceLT,Nat.reduceEqDiff]
  refine useS (k:=.l 11) (SpoiledDeeds_ok z (k1+1) o (by omega) hl hR) rfl rfl rfl zE_ ?_
  rintro x cs' ⟨q,k2,rfl,hqB,hql,rfl,hk2⟩
  simp only [ZZ,WW,Ze,reduceCtorEq,Nat.reduceAdd,Nat.reduceMul,Nat.reduceLeDiff,Nat.reduceLT,Nat.reduceEqDiff]
  exact to_mid [oo,oo,oo,oo,.p (.sl 12 (ddE q)),oo,oo,oo,oo,oo,oo,oo,oo,oo,oo,oo,oo,oo,oo,oo,oo,oo,oo,oo,oo,oo,oo,oo,oo,oo,oo,oo,oo,oo,oo,oo,oo,oo,oo,oo,oo] [] (by (simp only [ZZ,WW,Ze,reduceCtorEq,Nat.reduceAdd,Nat.reduceMul,Nat.reduceLeDiff,Nat.reduceLT,Nat.reduceEqDiff];try trivial)) (by (simp only [ZZ,WW,Ze,reduceCtorEq,Nat.reduceAdd,Nat.reduceMul,Nat.reduceLeDiff,Nat.reduceLT,Nat.reduceEqDiff];try trivial)) ⟨q,hqB,hql,rfl,rfl⟩
 ·intro _
  simp only [ZZ,WW,Ze,reduceCtorEq,Nat.reduceAdd,Nat.reduceMul,Nat.reduceLeDiff,Nat.reduceLT,Nat.reduceEqDiff]
  exact to_mid [oo,oo,oo,oo,.p (.sl 12 (ddE o)),oo,oo,oo,oo,oo,oo,oo,oo,oo,oo,oo,oo,oo,oo,oo,oo,oo,oo,oo,oo,oo,oo,oo,oo,oo,oo,oo,oo,oo,oo,oo,oo,oo,oo,oo,oo] [] (by (simp only [ZZ,WW,Ze,reduceCtorEq,Nat.reduceAdd,Nat.reduceMul,Nat.reduceLeDiff,Nat.reduceLT,Nat.reduceEqDiff];try trivial)) (by (simp only [ZZ,WW,Ze,reduceCtorEq,Nat.reduceAdd,Nat.reduceMul,Nat.reduceLeDiff,Nat.reduceLT,Nat.reduceEqDiff];try trivial)) ⟨o,hR.b,by have:=hR.len;omega,rfl,rfl⟩
 rintro fr L ⟨q,hqB,hql,rfl,rfl⟩
 simp only [ZZ,WW,Ze,reduceCtorEq,Nat.reduceAdd,Nat.reduceMul,Nat.reduceLeDiff,Nat.reduceLT,Nat.reduceEqDiff]
 refine use1 (CheckDeeds_ok q hqB (by omega)) rfl (.inl rfl) ?_
 simp only [ZZ,WW,Ze,reduceCtorEq,Nat.reduceAdd,Nat.reduceMul,Nat.reduceLeDiff,Nat.reduceLT,Nat.reduceEqDiff]
 refine use1 (DeedsFault_ok q hqB (by omega)) rfl (.inl rfl) ?_
 generalize ckdF q=e
 simp only [ZZ,WW,Ze,reduceCtorEq,Nat.reduceAdd,Nat.reduceMul,Nat.reduceLeDiff,Nat.reduceLT,Nat.reduceEqDiff]
 refine use1 matters_ok rfl (.inl rfl) ?_
 simp only [ZZ,WW,Ze,reduceCtorEq,Nat.reduceAdd,Nat.reduceMul,Nat.reduceLeDiff,Nat.reduceLT,Nat.reduceEqDiff,decide_true,Bool.and_self,Bool.true_and,Bool.and_true,implies_true,forall_const]
theorem deedChecks_walk (a0:Option Addr) (len0 cap0:Nat) (z0:List Int) (w:World) (h0:IsRow .i64 w a0 len0 cap0 z0) (he:ED.ok w∧∀ b,ED.bl b→b < w.heap.size) :
  Calls Tryz.prog 3 #[.slice a0 len0 cap0] w fun e w'=>e=.returned (.bool true)∧Below w.heap.size w w':=
 walk_of deedChecks_ok a0 len0 cap0 z0 w h0 he.1 he.2
end Go.Proofs.YtinffddgojhdfaaGreatDoor
