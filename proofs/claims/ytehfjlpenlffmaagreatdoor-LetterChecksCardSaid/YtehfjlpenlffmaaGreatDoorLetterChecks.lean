import Derived.Test.YtehfjlpenlffmaaGreatDoorZ11
import Derived.Test.YtehfjlpenlffmaaGreatDoorZ12
import Derived.Test.YtehfjlpenlffmaaGreatDoorZ8
import Derived.Test.YtehfjlpenlffmaaGreatDoorZ6
set_option linter.unusedVariables false
set_option linter.unusedSimpArgs false
set_option linter.defProp false
namespace Go.Proofs.YtehfjlpenlffmaaGreatDoor
open Go.RowKit
def ir_chaselaw1_LetterChecks:IC:=(.seq (.reg [qO 2 (.mov (.c (.bool false)))]) (.seq (.reg [qM 10 0,qO 11 (.bld [.nl 1,.int .i64 0] [(0,1,.t 10)]),qO 12 (.box 25 (.t 11)),qM 3 12]) (.seq (.reg [qM 13 3,qM 14 3,qO 15 (.call 10 [.t 14,.c (.int .i64 5000)]),qO 16 (.bsl 1 [.c (.str [114,49])]),⟨none,.fz (.t 15),none⟩,qO 17 (.call 27 [.t 13,.c (.str [109,49]),.t 15,.t 16]),qO 4 (.alc 60 [.str [],.int .i64 0,.str [],.str [],.nl 2,.nl 2,.nl 1,.str [],.str []]),⟨none,.st 9 (.t 4) (.t 17),none⟩]) (.seq (.seq (.reg [qM 18 3,qO 19 (.call 9 [.t 18,.c (.int .i64 2)])]) (.cond (.t 19) (.reg [qM 20 3,qO 21 (.ld 9 true (.t 4)),qO 22 (.call 28 [.t 20,.t 21]),⟨none,.st 9 (.t 4) (.t 22),none⟩]) .skip)) (.cut (.seq (.reg [qO 23 (.ld 9 true (.t 4)),qO 24 (.call 29 [.t 23]),qM 5 24]) (.seq (.seq (.reg [qO 25 (.ld 9 true (.t 4)),qO 26 (.call 30 [.t 25]),qM 27 5,qO 28 (.bin .neq (.t 26) (.t 27))]) (.cond (.t 28) (.seq (.reg [qO 2 (.mov (.c (.bool false)))]) .ret) .skip)) (.seq (.reg [qO 30 (.ld 9 true (.t 4)),qO 31 (.call 31 [.t 30]),qM 29 31,qO 32 (.ext 0 (.t 29)),qO 33 (.ext 1 (.t 29)),qM 6 32,qM 7 33]) (.seq (.reg [qO 35 (.ld 9 true (.t 4)),qO 36 (.call 32 [.t 35]),qM 34 36,qO 37 (.ext 0 (.t 34)),qO 38 (.ext 1 (.t 34)),qM 8 37,qM 9 38]) (.seq (.seq (.reg [qM 39 5,qO 40 (.bin .neq (.t 39) (.c (.int .i64 0)))]) (.cond (.t 40) (.seq (.reg [qO 41 (.call 33 []),qM 42 41,⟨some 43,.mov (.t 7),(some (42,true))⟩,⟨some 44,.mov (.t 5),(some (42,true))⟩,⟨some 45,.bin .eql (.t 43) (.t 44),(some (42,true))⟩,qO 46 (.pick (.t 42) (.t 45) (.c (.bool false))),qM 47 46,⟨some 48,.mov (.t 9),(some (47,true))⟩,⟨some 49,.mov (.t 5),(some (47,true))⟩,⟨some 50,.bin .eql (.t 48) (.t 49),(some (47,true))⟩,qO 51 (.pick (.t 47) (.t 50) (.c (.bool false))),qM 2 51]) .ret) .skip)) (.seq (.seq (.reg [qO 52 (.ld 9 true (.t 4)),qO 53 (.call 34 [.t 52]),qO 54 (.sln (.t 53)),qO 55 (.bin .gtr (.t 54) (.c (.int .i64 200000)))]) (.cond (.t 55) (.seq (.reg [qO 56 (.call 33 []),qM 57 56,⟨some 58,.mov (.t 7),(some (57,true))⟩,⟨some 59,.bin .eql (.t 58) (.c (.int .i64 2)),(some (57,true))⟩,qO 60 (.pick (.t 57) (.t 59) (.c (.bool false))),qM 61 60,⟨some 62,.mov (.t 9),(some (61,true))⟩,⟨some 63,.bin .eql (.t 62) (.c (.int .i64 0)),(some (61,true))⟩,qO 64 (.pick (.t 61) (.t 63) (.c (.bool false))),qM 2 64]) .ret) .skip)) (.seq (.reg [qO 65 (.call 33 []),qM 66 65,⟨some 67,.mov (.t 7),(some (66,true))⟩,⟨some 68,.bin .eql (.t 67) (.c (.int .i64 0)),(some (66,true))⟩,qO 69 (.pick (.t 66) (.t 68) (.c (.bool false))),qM 70 69,⟨some 71,.mov (.t 9),(some (70,true))⟩,⟨some 72,.bin .eql (.t 71) (.c (.int .i64 0)),(some (70,true))⟩,qO 73 (.pick (.t 70) (.t 72) (.c (.bool false))),qM 74 73,⟨some 75,.mov (.t 6),(some (74,true))⟩,⟨some 76,.ld 9 true (.t 4),(some (74,true))⟩,⟨some 77,.call 34 [.t 76],(some (74,true))⟩,⟨some 78,.bin .eql (.t 75) (.t 77),(some (74,true))⟩,qO 79 (.pick (.t 74) (.t 78) (.c (.bool false))),qM 80 79,⟨some 81,.mov (.t 8),(some (80,true))⟩,⟨some 82,.ld 9 true (.t 4),(some (80,true))⟩,⟨some 83,.call 36 [.t 82],(some (80,true))⟩,⟨some 84,.call 35 [.t 81,.t 83],(some (80,true))⟩,qO 85 (.pick (.t 80) (.t 84) (.c (.bool false))),qM 2 85]) .ret))))))))))))
def rs_chaselaw1_LetterChecks:List IRes:=[.t 2]
theorem ck_chaselaw1_LetterChecks:chkF Tryz.prog Tryz.f5 ir_chaselaw1_LetterChecks rs_chaselaw1_LetterChecks 86=true:=by kernel_rfl
theorem LtM.text {m:Ltr} (h:LtM 300 m):∃ i,letF m=0→LtP m i:=by
 by_cases h0:letF m=0
 ·have hat:0≤m.at_∧m.at_≤5761439:=by
   unfold letF at h0
   split at h0
   ·cases h0
   ·split at h0
    ·cases h0
    ·rename_i h2
     simpa [inE] using h2
  obtain ⟨i,h1,h2⟩:=Dn_ex (m.at_.toNat / 1440)
  refine ⟨i,fun _=>⟨h.b1,⟨h.b2,h.b3⟩,?_,h.b5,?_,h.b7,?_,h.b9,h.b10,h.b11,hat,h1,h2⟩⟩
  ·have:=h.b4;omega
  ·have:=h.b6;omega
  ·have:=h.b8;omega
 ·exact ⟨0,fun h=>absurd h h0⟩
set_option maxHeartbeats 4000000 in
set_option maxRecDepth 100000 in
theorem letterChecks_ok (z:List Int) (hl:z.length≤9223372036854775807):PCall Tryz.prog E6 5 [ints z] (·=.bool true):=by
 refine pcallF mixed Tryz.func5 ck_chaselaw1_LetterChecks ?_
 simp only [a0,l0,OS.ao,List.map_cons,List.map_nil,List.length_cons,List.length_nil,List.cons_append,List.nil_append,Nat.reduceSub,Nat.reduceAdd,List.replicate_succ,List.replicate_zero,ir_chaselaw1_LetterChecks,rs_chaselaw1_LetterChecks,ZZ,WW,Ze,reduceCtorEq,Nat.reduceAdd,Nat.reduceMul,Nat.reduceLeDiff,Nat.reduceLT,Nat.reduceEqDiff]
 simp only [ints,ZZ,WW,Ze,reduceCtorEq,Nat.reduceAdd,Nat.reduceMul,Nat.reduceLeDiff,Nat.reduceLT,Nat.reduceEqDiff]
 refine useS (k:=.l 12) (Next_ok z 0 5000 (by omega) hl (by omega)) rfl rfl rfl zE_ ?_
 rintro x cs' ⟨y,rfl,rfl⟩
 generalize below y 5000=at_
 simp only [ZZ,WW,Ze,reduceCtorEq,Nat.reduceAdd,Nat.reduceMul,Nat.reduceLeDiff,Nat.reduceLT,Nat.reduceEqDiff]
 refine useS (k:=.l 12) (Letter_ok z (0+1) [109,49] at_ [[114,49]] (by simp) (by simp) (by simp) (by omega) hl) rfl rfl rfl zE_ ?_
 rintro x cs' ⟨m,k1,rfl,hm,rfl,hk1⟩
 simp only [ltV]
 simp only [ZZ,WW,Ze,reduceCtorEq,Nat.reduceAdd,Nat.reduceMul,Nat.reduceLeDiff,Nat.reduceLT,Nat.reduceEqDiff]
 refine useS (k:=.l 12) (Flip_ok z k1 2 (by omega) hl (by decide)) rfl rfl rfl zE_ ?_
 rintro x cs' ⟨b,rfl,rfl⟩
 simp only [ZZ,WW,Ze,reduceCtorEq,Nat.reduceAdd,Nat.reduceMul,Nat.reduceLeDiff,Nat.reduceLT,Nat.reduceEqDiff]
 refine br_join (fun fr L=>∃ (m:Ltr) (k:Nat),LtM 300 m∧fr=[oo,oo,oo,.adr (.l 12) 0,.adr (.l 4) 0,oo,oo,oo,oo,oo,oo,oo,oo,oo,oo,oo,oo,oo,oo,oo,oo,oo,oo,oo,oo,oo,oo,oo,oo,oo,oo,oo,oo,oo,oo,oo,oo,oo,oo,oo,oo,oo,oo,oo,oo,oo,oo,oo,oo,oo,oo,oo,oo,oo,oo,oo,oo,oo,oo,oo,oo,oo,oo,oo,oo,oo,oo,oo,oo,oo,oo,oo,oo,oo,oo,oo,oo,oo,oo,oo,oo,oo,oo,oo,oo,oo]∧L=[(.l 12,.box ((stm z (k)).map .p) T),(.l 4,.box [.p (.str m.id),.p (int m.at_),.p (.str m.fr.1),.p (.str m.fr.2),.p (.sl 2 (adrE m.tos)),.p (.sl 2 (adrE m.ccs)),.p (.sl 1 (strE m.refs)),.p (.str m.sub),.p (.str m.body)] tMail)]) ?_ ?_ ?_
 ·intro _
  simp only [ZZ,WW,Ze,reduceCtorEq,Nat.reduceAdd,Nat.reduceMul,Nat.reduceLeDiff,Nat.reduceLT,Nat.reduceEqDiff]
  refine useS (k:=.l 12) (Spoiled_ok z (k1+1) m (hm.le (by omega)) (by omega) hl) rfl rfl rfl zE_ ?_
  rintro x cs' ⟨m',k2,rfl,hm',rfl,hk2⟩
  simp only [ltV]
  simp only [ZZ,WW,Ze,reduceCtorEq,Nat.reduceAdd,Nat.reduceMul,Nat.reduceLeDiff,Nat.reduceLT,Nat.reduceEqDiff]
  refine to_mid [oo,oo,oo,.adr (.l 12) 0,.adr (.l 4) 0,oo,oo,oo,oo,oo,oo,oo,oo,oo,oo,oo,oo,oo,oo,oo,oo,oo,oo,oo,oo,oo,oo,oo,oo,oo,oo,oo,oo,oo,oo,oo,oo,oo,oo,oo,oo,oo,oo,oo,oo,oo,oo,oo,oo,oo,oo,oo,oo,oo,oo,oo,oo,oo,oo,oo,oo,oo,oo,oo,oo,oo,oo,oo,oo,oo,oo,oo,oo,oo,oo,oo,oo,oo,oo,oo,oo,oo,oo,oo,oo,oo] [(.l 12,.box ((stm z k2).map .p) T),(.l 4,.box [.p (.str m'.id),.p (int m'.at_),.p (.str m'.fr.1),.p (.str m'.fr.2),.p (.sl 2 (adrE m'.tos)),.p (.sl 2 (adrE m'.ccs)),.p (.sl 1 (strE m'.refs)),.p (.str m'.sub),.p (.str m'.body)] tMail)] (by (simp only [ZZ,WW,Ze,reduceCtorEq,Nat.reduceAdd,Nat.reduceMul,Nat.reduceLeDiff,Nat.reduceLT,Nat.reduceEqDiff];try trivial)) zE_ ⟨m',k2,hm',rfl,rfl⟩
 ·intro _
  simp only [ZZ,WW,Ze,reduceCtorEq,Nat.reduceAdd,Nat.reduceMul,Nat.reduceLeDiff,Nat.reduceLT,Nat.reduceEqDiff]
  exact to_mid [oo,oo,oo,.adr (.l 12) 0,.adr (.l 4) 0,oo,oo,oo,oo,oo,oo,oo,oo,oo,oo,oo,oo,oo,oo,oo,oo,oo,oo,oo,oo,oo,oo,oo,oo,oo,oo,oo,oo,oo,oo,oo,oo,oo,oo,oo,oo,oo,oo,oo,oo,oo,oo,oo,oo,oo,oo,oo,oo,oo,oo,oo,oo,oo,oo,oo,oo,oo,oo,oo,oo,oo,oo,oo,oo,oo,oo,oo,oo,oo,oo,oo,oo,oo,oo,oo,oo,oo,oo,oo,oo,oo] [(.l 12,.box ((stm z (k1+1)).map .p) T),(.l 4,.box [.p (.str m.id),.p (int m.at_),.p (.str m.fr.1),.p (.str m.fr.2),.p (.sl 2 (adrE m.tos)),.p (.sl 2 (adrE m.ccs)),.p (.sl 1 (strE m.refs)),.p (.str m.sub),.p (.str m.body)] tMail)] (by (simp only [ZZ,WW,Ze,reduceCtorEq,Nat.reduceAdd,Nat.reduceMul,Nat.reduceLeDiff,Nat.reduceLT,Nat.reduceEqDiff];try trivial)) zE_ ⟨m,k1+1,hm.le (by omega),rfl,rfl⟩
 clear hm hk1
 rintro fr L ⟨m,k,hm,rfl,rfl⟩
 have hB:LtB m:=hm.big (by omega)
 obtain ⟨i,hP⟩:=hm.text
 have hpr:=Print_ok m hB i hP
 have hpa:=Parties_ok m hB
 have hsl:(sortF (ptsOf m)).length≤1000000:=by
  have h1:=sortF_leW (ptsOf m)
  have h2:(ptsOf m).length=m.tos.length+m.ccs.length+1:=by simp [ptsOf]
  have h3:=hm.b4
  have h4:=hm.b6
  omega
 simp only [ZZ,WW,Ze,reduceCtorEq,Nat.reduceAdd,Nat.reduceMul,Nat.reduceLeDiff,Nat.reduceLT,Nat.reduceEqDiff]
 refine use1 (up6 (LetterFault_ok m hB)) rfl (.inl rfl) ?_
 simp only [ZZ,WW,Ze,reduceCtorEq,Nat.reduceAdd,Nat.reduceMul,Nat.reduceLeDiff,Nat.reduceLT,Nat.reduceEqDiff]
 refine use1 (up6 (TCheck_ok m hB)) rfl (.inl rfl) ?_
 simp only [ZZ,WW,Ze,reduceCtorEq,Nat.reduceAdd,Nat.reduceMul,Nat.reduceLeDiff,Nat.reduceLT,Nat.reduceEqDiff]
 refine br (fun h=>by simp at h) ?_
 intro _
 simp only [ZZ,WW,Ze,reduceCtorEq,Nat.reduceAdd,Nat.reduceMul,Nat.reduceLeDiff,Nat.reduceLT,Nat.reduceEqDiff]
 refine use1 hpr rfl (.inl rfl) ?_
 simp only [ZZ,WW,Ze,reduceCtorEq,Nat.reduceAdd,Nat.reduceMul,Nat.reduceLeDiff,Nat.reduceLT,Nat.reduceEqDiff]
 refine use1 hpa rfl (.inl rfl) ?_
 simp only [ZZ,WW,Ze,reduceCtorEq,Nat.reduceAdd,Nat.reduceMul,Nat.reduceLeDiff,Nat.reduceLT,Nat.reduceEqDiff]
 refine br ?_ ?_
 ·intro h
  have h0:¬ letF m=0:=by simpa using h
  simp only [ZZ,WW,Ze,reduceCtorEq,Nat.reduceAdd,Nat.reduceMul,Nat.reduceLeDiff,Nat.reduceLT,Nat.reduceEqDiff]
  refine use1 (up6 threads_ok) rfl (.inl rfl) ?_
  simp only [ZZ,WW,Ze,reduceCtorEq,Nat.reduceAdd,Nat.reduceMul,Nat.reduceLeDiff,Nat.reduceLT,Nat.reduceEqDiff]
  simp [h0]
 intro h
 have h0:letF m=0:=by simpa using h
 have hlt:=LetterText_ok m i (hP h0)
 rw [h0]
 simp only [ZZ,WW,Ze,reduceCtorEq,Nat.reduceAdd,Nat.reduceMul,Nat.reduceLeDiff,Nat.reduceLT,Nat.reduceEqDiff]
 refine use1 hlt rfl (.inl rfl) ?_
 simp only [ZZ,WW,Ze,reduceCtorEq,Nat.reduceAdd,Nat.reduceMul,Nat.reduceLeDiff,Nat.reduceLT,Nat.reduceEqDiff]
 refine br ?_ ?_
 ·intro h2
  have h3:200000 < ((ltT m i).length:Int):=of_decide_eq_true h2
  simp only [ZZ,WW,Ze,reduceCtorEq,Nat.reduceAdd,Nat.reduceMul,Nat.reduceLeDiff,Nat.reduceLT,Nat.reduceEqDiff]
  refine use1 (up6 threads_ok) rfl (.inl rfl) ?_
  simp only [ZZ,WW,Ze,reduceCtorEq,Nat.reduceAdd,Nat.reduceMul,Nat.reduceLeDiff,Nat.reduceLT,Nat.reduceEqDiff]
  simp [h3]
 intro h2
 have h3:¬ 200000 < ((ltT m i).length:Int):=of_decide_eq_false h2
 simp only [ZZ,WW,Ze,reduceCtorEq,Nat.reduceAdd,Nat.reduceMul,Nat.reduceLeDiff,Nat.reduceLT,Nat.reduceEqDiff]
 refine use1 (up6 threads_ok) rfl (.inl rfl) ?_
 simp only [ZZ,WW,Ze,reduceCtorEq,Nat.reduceAdd,Nat.reduceMul,Nat.reduceLeDiff,Nat.reduceLT,Nat.reduceEqDiff,h3,not_false_eq_true,if_true,if_false]
 refine useG (fun _=>hlt) rfl (.inl rfl) ?_
 simp only [ZZ,WW,Ze,reduceCtorEq,Nat.reduceAdd,Nat.reduceMul,Nat.reduceLeDiff,Nat.reduceLT,Nat.reduceEqDiff]
 refine useG (fun _=>PartiesOf_ok m hB) rfl (.inl rfl) ?_
 simp only [ZZ,WW,Ze,reduceCtorEq,Nat.reduceAdd,Nat.reduceMul,Nat.reduceLeDiff,Nat.reduceLT,Nat.reduceEqDiff]
 refine useG (fun _=>EqualT_ok (sortF (ptsOf m)) (sortF (ptsOf m)) (by omega)) rfl (.inr rfl) ?_
 simp only [ZZ,WW,Ze,reduceCtorEq,Nat.reduceAdd,Nat.reduceMul,Nat.reduceLeDiff,Nat.reduceLT,Nat.reduceEqDiff]
 simp
theorem letterChecks_walk (a0:Option Addr) (len0 cap0:Nat) (z0:List Int) (w:World) (h0:IsRow .i64 w a0 len0 cap0 z0) (he:E6.ok w∧∀ b,E6.bl b→b < w.heap.size) :
  Calls Tryz.prog 5 #[.slice a0 len0 cap0] w fun e w'=>e=.returned (.bool true)∧Below w.heap.size w w':=
 walk_of letterChecks_ok a0 len0 cap0 z0 w h0 he.1 he.2
end Go.Proofs.YtehfjlpenlffmaaGreatDoor
