import Derived.Test.YtehfjlpenlffmaaGreatDoorZ9
import Derived.Test.YtehfjlpenlffmaaGreatDoorZ8
import Derived.Test.YtehfjlpenlffmaaGreatDoorZ7
import Derived.Test.YtehfjlpenlffmaaGreatDoorZ3
import Derived.Test.YtehfjlpenlffmaaGreatDoorZ4
import Derived.Test.YtehfjlpenlffmaaGreatDoorLaySort
import Derived.Test.YtehfjlpenlffmaaGreatDoorLayCompact
import Derived.Lib.OwnBridge
import Derived.WalkKit
import Derived.Test.YtehfjlpenlffmaaGreatDoorZ6
import Derived.Lib.Join
import Derived.Test.YtehfjlpenlffmaaGreatDoorLayItoa
import Derived.Lib.AtoiErrMem
import Derived.Shelf.Strconv.Atoi
import Derived.Test.YtehfjlpenlffmaaGreatDoorLayFields
import Derived.Shelf.Strings.SplitShaped
import Derived.Lib.ItoaLen
set_option linter.unusedVariables false
set_option linter.unusedSimpArgs false
set_option linter.defProp false
namespace Go.Proofs.YtehfjlpenlffmaaGreatDoor
open Go.RowKit
def ir_chaseref1_LetterFault_L1:IC:=(.seq (.reg [qO 62 (.bin .lss (.t 61) (.t 60))]) (.seq (.cond (.t 62) .skip (.exit 3)) (.seq (.block 4 (.seq (.reg [qM 63 61,qO 64 (.ixa 1 (.t 59) (.t 61)),qO 65 (.ld 1 false (.t 64)),qM 6 63,qM 7 65]) (.block 5 (.seq (.reg [qM 67 7,qO 68 (.call 98 [.t 67]),qO 69 (.not (.t 68)),qM 66 69]) (.cond (.t 66) (.seq (.reg [qO 2 (.mov (.c (.int .i64 3)))]) .ret) (.seq (.reg [qO 71 (.fla 6 (.t 1)),qO 72 (.ld 1 false (.t 71)),qM 73 6,qO 74 (.vsl 1 (.t 72) none (some (.t 73))),qM 75 7,qO 76 (.call 94 [.t 74,.t 75]),qM 70 76]) (.cond (.t 70) (.seq (.reg [qO 2 (.mov (.c (.int .i64 6)))]) .ret) (.seq (.reg [qM 78 7,qO 79 (.fla 0 (.t 1)),qO 80 (.ld 1 false (.t 79)),qO 81 (.bin .eql (.t 78) (.t 80)),qM 77 81]) (.cond (.t 77) (.seq (.reg [qO 2 (.mov (.c (.int .i64 14)))]) .ret) .skip))))))))) (.reg [qO 82 (.bin .add (.t 61) (.c (.int .i64 1))),qM 61 82]))))
def ir_chaseref1_LetterFault_L0:IC:=(.seq (.reg [qO 41 (.bin .lss (.t 40) (.t 39))]) (.seq (.cond (.t 41) .skip (.exit 1)) (.seq (.block 2 (.seq (.reg [qM 42 40,qO 43 (.ixa 2 (.t 38) (.t 40)),qO 44 (.ld 2 true (.t 43)),qO 5 (.alc 56 [.str [],.str []]),qM 4 42,⟨none,.st 2 (.t 5) (.t 44),none⟩]) (.seq (.seq (.reg [qO 45 (.ld 2 true (.t 5)),qO 46 (.call 100 [.t 45]),qO 47 (.not (.t 46))]) (.cond (.t 47) (.seq (.reg [qO 2 (.mov (.c (.int .i64 3)))]) .ret) .skip)) (.seq (.reg [qM 48 3,qM 49 4,⟨none,.fz (.t 48),none⟩,qO 50 (.vsl 2 (.t 48) none (some (.t 49))),qO 51 (.mkf 103 [.t 5]),qO 52 (.call 102 [.t 50,.t 51])]) (.cond (.t 52) (.seq (.reg [qO 2 (.mov (.c (.int .i64 6)))]) .ret) .skip))))) (.reg [qO 53 (.bin .add (.t 40) (.c (.int .i64 1))),qM 40 53]))))
def ir_chaseref1_LetterFault:IC:=(.seq (.reg [qO 1 (.box 60 (.t 0)),qO 2 (.mov (.c (.int .i64 0)))]) (.seq (.block 0 (.seq (.reg [qO 9 (.fla 0 (.t 1)),qO 10 (.ld 1 false (.t 9)),qO 11 (.call 98 [.t 10]),qO 12 (.not (.t 11)),qM 8 12]) (.cond (.t 8) (.seq (.reg [qO 2 (.mov (.c (.int .i64 3)))]) .ret) (.seq (.reg [qO 14 (.fla 1 (.t 1)),qO 15 (.ld 1 false (.t 14)),qO 16 (.call 99 [.t 15]),qO 17 (.not (.t 16)),qM 13 17]) (.cond (.t 13) (.seq (.reg [qO 2 (.mov (.c (.int .i64 1)))]) .ret) (.seq (.reg [qO 19 (.fla 2 (.t 1)),qO 20 (.ld 2 true (.t 19)),qO 21 (.call 100 [.t 20]),qO 22 (.not (.t 21)),qM 18 22]) (.cond (.t 18) (.seq (.reg [qO 2 (.mov (.c (.int .i64 3)))]) .ret) (.seq (.reg [qO 24 (.fla 4 (.t 1)),qO 25 (.ld 1 false (.t 24)),qO 26 (.len (.t 25)),qO 27 (.fla 5 (.t 1)),qO 28 (.ld 1 false (.t 27)),qO 29 (.len (.t 28)),qO 30 (.bin .add (.t 26) (.t 29)),qO 31 (.bin .gtr (.t 30) (.c (.int .i64 100))),qM 23 31]) (.cond (.t 23) (.seq (.reg [qO 2 (.mov (.c (.int .i64 2)))]) .ret) .skip))))))))) (.seq (.reg [qO 32 (.fla 4 (.t 1)),qO 33 (.ld 1 false (.t 32)),qO 34 (.fla 5 (.t 1)),qO 35 (.ld 1 false (.t 34)),qO 36 (.bsl 1 [.t 33,.t 35]),qO 37 (.call 101 [.t 36]),qM 3 37]) (.seq (.seq (.reg [qM 38 3,qO 39 (.len (.t 38)),qO 40 (.mov (.c (.int .i64 0)))]) (.block 1 (.loop ir_chaseref1_LetterFault_L0))) (.seq (.seq (.reg [qO 54 (.fla 6 (.t 1)),qO 55 (.ld 1 false (.t 54)),qO 56 (.len (.t 55)),qO 57 (.bin .gtr (.t 56) (.c (.int .i64 50)))]) (.cond (.t 57) (.seq (.reg [qO 2 (.mov (.c (.int .i64 2)))]) .ret) .skip)) (.seq (.seq (.reg [qO 58 (.fla 6 (.t 1)),qO 59 (.ld 1 false (.t 58)),qO 60 (.len (.t 59)),qO 61 (.mov (.c (.int .i64 0)))]) (.block 3 (.loop ir_chaseref1_LetterFault_L1))) (.seq (.block 6 (.seq (.reg [qO 84 (.fla 7 (.t 1)),qO 85 (.ld 1 false (.t 84)),qO 86 (.call 76 [.t 85]),qO 87 (.not (.t 86)),qM 88 87,⟨some 89,.fla 7 (.t 1),(some (88,false))⟩,⟨some 90,.ld 1 false (.t 89),(some (88,false))⟩,⟨some 91,.sln (.t 90),(some (88,false))⟩,⟨some 92,.bin .gtr (.t 91) (.c (.int .i64 200)),(some (88,false))⟩,qO 93 (.pick (.t 88) (.c (.bool true)) (.t 92)),qM 83 93]) (.cond (.t 83) (.seq (.reg [qO 2 (.mov (.c (.int .i64 3)))]) .ret) .skip))) (.seq (.reg [qO 94 (.fla 8 (.t 1)),qO 95 (.ld 1 false (.t 94)),qO 96 (.call 104 [.t 95]),qM 2 96]) .ret))))))))
def rs_chaseref1_LetterFault:List IRes:=[.t 2]
theorem ck_chaseref1_LetterFault:chkF Tryz.prog Tryz.f29 ir_chaseref1_LetterFault rs_chaseref1_LetterFault 97=true:=by kernel_rfl
def ir_chaseref1_LetterFault_1:IC:=(.seq (.reg [qO 2 (.box 56 (.t 0)),qO 3 (.mov (.c (.bool false)))]) (.seq (.reg [qO 4 (.fla 1 (.t 2)),qO 5 (.ld 1 false (.t 4)),qO 6 (.fla 1 (.t 1)),qO 7 (.ld 1 false (.t 6)),qO 8 (.bin .eql (.t 5) (.t 7)),qM 3 8]) .ret))
def rs_chaseref1_LetterFault_1:List IRes:=[.t 3]
theorem ck_chaseref1_LetterFault_1:chkF Tryz.prog Tryz.f103 ir_chaseref1_LetterFault_1 rs_chaseref1_LetterFault_1 9=true:=by kernel_rfl
theorem LetterFault1_ok {E:Envt} (x y:AdT):PCall Tryz.prog E 103 [.agg (adC x),.ptr (adC y)] (·=.bool (decide (x.2=y.2))):=by
 simp only [adC]
 refine pcallF mixed Tryz.func103 ck_chaseref1_LetterFault_1 ?_
 simp only [a0,l0,OS.ao,List.map_cons,List.map_nil,List.length_cons,List.length_nil,List.cons_append,List.nil_append,Nat.reduceSub,Nat.reduceAdd,List.replicate_succ,List.replicate_zero,ir_chaseref1_LetterFault_1,rs_chaseref1_LetterFault_1,ZZ,WW,Ze,reduceCtorEq,Nat.reduceAdd,Nat.reduceMul,Nat.reduceLeDiff,Nat.reduceLT,Nat.reduceEqDiff]
theorem adrE_take (l:List AdT) (k:Nat):(adrE l).take k=adrE (l.take k):=by simp [adrE,List.map_take]
theorem LetterFault_ok (m:Ltr) (hm:LtB m):PCall Tryz.prog E0 29 [.agg (ltV m)] (·=int (letF m)):=by
 obtain ⟨b1,b2,b3,b4,b5,b6,b7,b8,b9,b10,b11⟩:=hm
 refine pcallF mixed Tryz.func29 ck_chaseref1_LetterFault ?_
 simp only [a0,l0,OS.ao,List.map_cons,List.map_nil,List.length_cons,List.length_nil,List.cons_append,List.nil_append,Nat.reduceSub,Nat.reduceAdd,List.replicate_succ,List.replicate_zero,ir_chaseref1_LetterFault,rs_chaseref1_LetterFault,ZZ,WW,Ze,reduceCtorEq,Nat.reduceAdd,Nat.reduceMul,Nat.reduceLeDiff,Nat.reduceLT,Nat.reduceEqDiff]
 simp only [ltV,ZZ,WW,Ze,reduceCtorEq,Nat.reduceAdd,Nat.reduceMul,Nat.reduceLeDiff,Nat.reduceLT,Nat.reduceEqDiff]
 refine use1 (messageIdR_ok m.id (by omega)) rfl (.inl rfl) ?_
 simp only [ZZ,WW,Ze,reduceCtorEq,Nat.reduceAdd,Nat.reduceMul,Nat.reduceLeDiff,Nat.reduceLT,Nat.reduceEqDiff]
 refine br ?_ ?_
 ·intro h
  have h1:idB m.id=false:=by simpa using h
  simp only [ZZ,WW,Ze,reduceCtorEq,Nat.reduceAdd,Nat.reduceMul,Nat.reduceLeDiff,Nat.reduceLT,Nat.reduceEqDiff]
  rw [letF,if_pos h1]
 intro h
 have h1:¬ idB m.id=false:=by simpa using h
 simp only [ZZ,WW,Ze,reduceCtorEq,Nat.reduceAdd,Nat.reduceMul,Nat.reduceLeDiff,Nat.reduceLT,Nat.reduceEqDiff]
 refine use1 (MomentR_ok m.at_) rfl (.inl rfl) ?_
 simp only [ZZ,WW,Ze,reduceCtorEq,Nat.reduceAdd,Nat.reduceMul,Nat.reduceLeDiff,Nat.reduceLT,Nat.reduceEqDiff]
 refine br ?_ ?_
 ·intro h
  have h2:inE m.at_ 0 5761439=false:=by simpa using h
  simp only [ZZ,WW,Ze,reduceCtorEq,Nat.reduceAdd,Nat.reduceMul,Nat.reduceLeDiff,Nat.reduceLT,Nat.reduceEqDiff]
  rw [letF,if_neg h1,if_pos h2]
 intro h
 have h2:¬ inE m.at_ 0 5761439=false:=by simpa using h
 simp only [ZZ,WW,Ze,reduceCtorEq,Nat.reduceAdd,Nat.reduceMul,Nat.reduceLeDiff,Nat.reduceLT,Nat.reduceEqDiff]
 refine use1 (AddressRight_ok m.fr.1 m.fr.2 (by omega) (by omega)) rfl (.inl rfl) ?_
 simp only [ZZ,WW,Ze,reduceCtorEq,Nat.reduceAdd,Nat.reduceMul,Nat.reduceLeDiff,Nat.reduceLT,Nat.reduceEqDiff]
 refine br ?_ ?_
 ·intro h
  have h3:adB m.fr=false:=by unfold adB;rwa [Bool.not_eq_true'] at h
  simp only [ZZ,WW,Ze,reduceCtorEq,Nat.reduceAdd,Nat.reduceMul,Nat.reduceLeDiff,Nat.reduceLT,Nat.reduceEqDiff]
  rw [letF,if_neg h1,if_neg h2,if_pos h3]
 intro h
 have h3:¬ adB m.fr=false:=by unfold adB;rw [Bool.not_eq_false'] at h;rw [h];decide
 simp only [ZZ,WW,Ze,reduceCtorEq,Nat.reduceAdd,Nat.reduceMul,Nat.reduceLeDiff,Nat.reduceLT,Nat.reduceEqDiff,adrE_len]
 ((repeat' (with_reducible apply And.intro))<;>try ((exact sc_)))
 refine br ?_ ?_
 ·intro h
  have h4:=of_decide_eq_true h
  simp only [ZZ,WW,Ze,reduceCtorEq,Nat.reduceAdd,Nat.reduceMul,Nat.reduceLeDiff,Nat.reduceLT,Nat.reduceEqDiff]
  rw [letF,if_neg h1,if_neg h2,if_neg h3,if_pos h4]
 intro h
 have h4:=of_decide_eq_false h
 have hL:letF m=firstE [adsErr (m.tos++m.ccs),tailF m]:=by rw [letF,if_neg h1,if_neg h2,if_neg h3,if_neg h4]
 rw [hL]
 clear hL h
 simp only [ZZ,WW,Ze,reduceCtorEq,Nat.reduceAdd,Nat.reduceMul,Nat.reduceLeDiff,Nat.reduceLT,Nat.reduceEqDiff]
 refine useF (ConcatA_ok [m.tos,m.ccs] (by simp) (by simp [lenSA];omega)) rfl rfl ?_
 rintro es rfl
 rw [cat2]
 have hb:∀ a∈m.tos++m.ccs,a.1.length≤1000000∧a.2.length≤1000000:=fun a ha=>(List.mem_append.1 ha).elim (b5 a) (b7 a)
 have hAl:(m.tos++m.ccs).length≤2000000:=by simp;omega
 generalize m.tos++m.ccs=A at *
 simp only [ZZ,WW,Ze,reduceCtorEq,Nat.reduceAdd,Nat.reduceMul,Nat.reduceLeDiff,Nat.reduceLT,Nat.reduceEqDiff,adrE_len]
 rw [adsErr]
 have hget:=fun {k:Nat} (h:k < A.length)=>firstE_drop _ k _ (tab_getI (adF1 A) h)
 generalize hG:(List.range A.length).map (adF1 A)=G at *
 have hGl:G.length=A.length:=by rw [← hG];simp
 refine loop_re (fun n fr L=>∃ (k:Nat),k≤A.length∧n=A.length - k∧(firstE G=firstE (G.drop k))∧fr=[oo,.adr (.l 1) 0,oo,.p (.sl 2 (adrE A)),oo,oo,oo,oo,oo,oo,oo,oo,oo,oo,oo,oo,oo,oo,oo,oo,oo,oo,oo,oo,oo,oo,oo,oo,oo,oo,oo,oo,oo,oo,oo,oo,oo,oo,.p (.sl 2 (adrE A)),.p (int (A.length:Nat)),.p (int (k:Nat)),oo,oo,oo,oo,oo,oo,oo,oo,oo,oo,oo,oo,oo,oo,oo,oo,oo,oo,oo,oo,oo,oo,oo,oo,oo,oo,oo,oo,oo,oo,oo,oo,oo,oo,oo,oo,oo,oo,oo,oo,oo,oo,oo,oo,oo,oo,oo,oo,oo,oo,oo,oo,oo,oo,oo,oo]∧L=[(.l 1,.box [.p (.str m.id),.p (int m.at_),.p (.str m.fr.1),.p (.str m.fr.2),.p (.sl 2 (adrE m.tos)),.p (.sl 2 (adrE m.ccs)),.p (.sl 1 (strE m.refs)),.p (.str m.sub),.p (.str m.body)] tMail)]) (A.length) [oo,.adr (.l 1) 0,oo,.p (.sl 2 (adrE A)),oo,oo,oo,oo,oo,oo,oo,oo,oo,oo,oo,oo,oo,oo,oo,oo,oo,oo,oo,oo,oo,oo,oo,oo,oo,oo,oo,oo,oo,oo,oo,oo,oo,oo,.p (.sl 2 (adrE A)),.p (int (A.length:Nat)),.p (int (0:Nat)),oo,oo,oo,oo,oo,oo,oo,oo,oo,oo,oo,oo,oo,oo,oo,oo,oo,oo,oo,oo,oo,oo,oo,oo,oo,oo,oo,oo,oo,oo,oo,oo,oo,oo,oo,oo,oo,oo,oo,oo,oo,oo,oo,oo,oo,oo,oo,oo,oo,oo,oo,oo,oo,oo,oo,oo] [(.l 1,.box [.p (.str m.id),.p (int m.at_),.p (.str m.fr.1),.p (.str m.fr.2),.p (.sl 2 (adrE m.tos)),.p (.sl 2 (adrE m.ccs)),.p (.sl 1 (strE m.refs)),.p (.str m.sub),.p (.str m.body)] tMail)] (ReOk.trans (re_row (k:=.l 37) rfl) (by simp only [ZZ,WW,Ze,reduceCtorEq,Nat.reduceAdd,Nat.reduceMul,Nat.reduceLeDiff,Nat.reduceLT,Nat.reduceEqDiff];exact re_weak (by (simp only [ZZ,WW,Ze,reduceCtorEq,Nat.reduceAdd,Nat.reduceMul,Nat.reduceLeDiff,Nat.reduceLT,Nat.reduceEqDiff];try trivial)) zE_)) ⟨0,by omega,by omega,by simp,rfl,rfl⟩ ?_
 rintro n fr L ⟨k,hk,rfl,hf,rfl,rfl⟩
 simp only [ir_chaseref1_LetterFault_L0,ZZ,WW,Ze,reduceCtorEq,Nat.reduceAdd,Nat.reduceMul,Nat.reduceLeDiff,Nat.reduceLT,Nat.reduceEqDiff]
 refine br ?_ ?_
 ·intro h
  have hlt:k < A.length:=by have:=of_decide_eq_true h;omega
  obtain ⟨x,hx⟩:∃ x,A[k]?=some x:=⟨_,List.getElem?_eq_getElem hlt⟩
  have hg:=adrE_get hx
  have hxd:A.getD k ([],[])=x:=by simp [List.getD,hx]
  have hbx:=hb x (List.mem_of_getElem? hx)
  have hd:=hget hlt
  have htk:=adrE_take A k
  have he:adF1 A k=firstE [whenE (!(nameB x.1 && mailF x.2)) 3,whenE ((A.take k).any (fun p=>decide (p.2=x.2))) 6]:=by rw [adF1,hxd];rfl
  simp only [ZZ,WW,Ze,reduceCtorEq,Nat.reduceAdd,Nat.reduceMul,Nat.reduceLeDiff,Nat.reduceLT,Nat.reduceEqDiff,hg,adrE_len]
  ((repeat' (with_reducible apply And.intro))<;>try ((exact sc_)))
  refine use1 (AddressRight_ok x.1 x.2 (by omega) (by omega)) rfl (.inl rfl) ?_
  simp only [ZZ,WW,Ze,reduceCtorEq,Nat.reduceAdd,Nat.reduceMul,Nat.reduceLeDiff,Nat.reduceLT,Nat.reduceEqDiff]
  refine br ?_ ?_
  ·intro h7
   have hk:adF1 A k=3:=by rw [he,h7];rfl
   simp only [ZZ,WW,Ze,reduceCtorEq,Nat.reduceAdd,Nat.reduceMul,Nat.reduceLeDiff,Nat.reduceLT,Nat.reduceEqDiff]
   rw [firstE_cons,hf,hd,hk]
   rfl
  intro h7
  simp only [ZZ,WW,Ze,reduceCtorEq,Nat.reduceAdd,Nat.reduceMul,Nat.reduceLeDiff,Nat.reduceLT,Nat.reduceEqDiff,adrE_len,htk]
  ((repeat' (with_reducible apply And.intro))<;>try ((exact sc_)))
  refine use1 (ContainsFuncA_ok (A.take k) 103 [.ptr (adC x)] (fun p=>decide (p.2=x.2)) (by simp;omega) (fun _=>by kernel_rfl) rfl (fun y _=>LetterFault1_ok y x) (fun _=>rfl) (fun _=>rfl)) rfl (.inr rfl) ?_
  simp only [ZZ,WW,Ze,reduceCtorEq,Nat.reduceAdd,Nat.reduceMul,Nat.reduceLeDiff,Nat.reduceLT,Nat.reduceEqDiff]
  refine br ?_ ?_
  ·intro ho
   have hk:adF1 A k=6:=by rw [he,h7,ho];rfl
   simp only [ZZ,WW,Ze,reduceCtorEq,Nat.reduceAdd,Nat.reduceMul,Nat.reduceLeDiff,Nat.reduceLT,Nat.reduceEqDiff]
   rw [firstE_cons,hf,hd,hk]
   rfl
  intro ho
  have hk:adF1 A k=0:=by rw [he,h7,ho];rfl
  simp only [ZZ,WW,Ze,reduceCtorEq,Nat.reduceAdd,Nat.reduceMul,Nat.reduceLeDiff,Nat.reduceLT,Nat.reduceEqDiff]
  ((repeat' (with_reducible apply And.intro))<;>try ((exact sc_)))
  refine end_round (A.length - (k+1)) [oo,.adr (.l 1) 0,oo,.p (.sl 2 (adrE A)),oo,oo,oo,oo,oo,oo,oo,oo,oo,oo,oo,oo,oo,oo,oo,oo,oo,oo,oo,oo,oo,oo,oo,oo,oo,oo,oo,oo,oo,oo,oo,oo,oo,oo,.p (.sl 2 (adrE A)),.p (int (A.length:Nat)),.p (int ((k+1):Nat)),oo,oo,oo,oo,oo,oo,oo,oo,oo,oo,oo,oo,oo,oo,oo,oo,oo,oo,oo,oo,oo,oo,oo,oo,oo,oo,oo,oo,oo,oo,oo,oo,oo,oo,oo,oo,oo,oo,oo,oo,oo,oo,oo,oo,oo,oo,oo,oo,oo,oo,oo,oo,oo,oo,oo,oo] [(.l 1,.box [.p (.str m.id),.p (int m.at_),.p (.str m.fr.1),.p (.str m.fr.2),.p (.sl 2 (adrE m.tos)),.p (.sl 2 (adrE m.ccs)),.p (.sl 1 (strE m.refs)),.p (.str m.sub),.p (.str m.body)] tMail)] (by omega) (by (simp only [ZZ,WW,Ze,reduceCtorEq,Nat.reduceAdd,Nat.reduceMul,Nat.reduceLeDiff,Nat.reduceLT,Nat.reduceEqDiff];try trivial)) (by (simp only [ZZ,WW,Ze,reduceCtorEq,Nat.reduceAdd,Nat.reduceMul,Nat.reduceLeDiff,Nat.reduceLT,Nat.reduceEqDiff];try trivial)) ⟨k+1,by omega,rfl,by rw [hf,hd,if_pos hk],rfl,rfl⟩
 intro h
 have hge:A.length≤k:=by have:=of_decide_eq_false h;omega
 rw [show firstE [firstE G,tailF m]=tailF m from by rw [firstE_cons,hf,List.drop_eq_nil_of_le (by omega)];rw [firstE_nil,if_pos rfl,firstE_cons,firstE_nil];split<;>rename_i h<;>simp [h]]
 simp only [ZZ,WW,Ze,reduceCtorEq,Nat.reduceAdd,Nat.reduceMul,Nat.reduceLeDiff,Nat.reduceLT,Nat.reduceEqDiff,strE_len]
 refine br ?_ ?_
 ·intro h
  have h5:=of_decide_eq_true h
  simp only [ZZ,WW,Ze,reduceCtorEq,Nat.reduceAdd,Nat.reduceMul,Nat.reduceLeDiff,Nat.reduceLT,Nat.reduceEqDiff]
  rw [tailF,if_pos h5]
 intro h
 have h5:=of_decide_eq_false h
 rw [tailF,if_neg h5]
 clear h hf hget hG hGl
 simp only [ZZ,WW,Ze,reduceCtorEq,Nat.reduceAdd,Nat.reduceMul,Nat.reduceLeDiff,Nat.reduceLT,Nat.reduceEqDiff,strE_len]
 rw [refsErr]
 have hget:=fun {k:Nat} (h:k < m.refs.length)=>firstE_drop _ k _ (tab_getI (refF1 m.id m.refs) h)
 generalize hG:(List.range m.refs.length).map (refF1 m.id m.refs)=R at *
 have hGl:R.length=m.refs.length:=by rw [← hG];simp
 refine loop_intro (fun n fr L=>∃ (j:Nat),j≤m.refs.length∧n=m.refs.length - j∧(firstE R=firstE (R.drop j))∧fr=[oo,.adr (.l 1) 0,oo,oo,oo,oo,oo,oo,oo,oo,oo,oo,oo,oo,oo,oo,oo,oo,oo,oo,oo,oo,oo,oo,oo,oo,oo,oo,oo,oo,oo,oo,oo,oo,oo,oo,oo,oo,oo,oo,oo,oo,oo,oo,oo,oo,oo,oo,oo,oo,oo,oo,oo,oo,oo,oo,oo,oo,oo,.p (.sl 1 (strE m.refs)),.p (int (m.refs.length:Nat)),.p (int (j:Nat)),oo,oo,oo,oo,oo,oo,oo,oo,oo,oo,oo,oo,oo,oo,oo,oo,oo,oo,oo,oo,oo,oo,oo,oo,oo,oo,oo,oo,oo,oo,oo,oo,oo,oo,oo]∧L=[(.l 1,.box [.p (.str m.id),.p (int m.at_),.p (.str m.fr.1),.p (.str m.fr.2),.p (.sl 2 (adrE m.tos)),.p (.sl 2 (adrE m.ccs)),.p (.sl 1 (strE m.refs)),.p (.str m.sub),.p (.str m.body)] tMail)]) (m.refs.length) [oo,.adr (.l 1) 0,oo,oo,oo,oo,oo,oo,oo,oo,oo,oo,oo,oo,oo,oo,oo,oo,oo,oo,oo,oo,oo,oo,oo,oo,oo,oo,oo,oo,oo,oo,oo,oo,oo,oo,oo,oo,oo,oo,oo,oo,oo,oo,oo,oo,oo,oo,oo,oo,oo,oo,oo,oo,oo,oo,oo,oo,oo,.p (.sl 1 (strE m.refs)),.p (int (m.refs.length:Nat)),.p (int (0:Nat)),oo,oo,oo,oo,oo,oo,oo,oo,oo,oo,oo,oo,oo,oo,oo,oo,oo,oo,oo,oo,oo,oo,oo,oo,oo,oo,oo,oo,oo,oo,oo,oo,oo,oo,oo] [(.l 1,.box [.p (.str m.id),.p (int m.at_),.p (.str m.fr.1),.p (.str m.fr.2),.p (.sl 2 (adrE m.tos)),.p (.sl 2 (adrE m.ccs)),.p (.sl 1 (strE m.refs)),.p (.str m.sub),.p (.str m.body)] tMail)] (by simp only [ZZ,WW,Ze,reduceCtorEq,Nat.reduceAdd,Nat.reduceMul,Nat.reduceLeDiff,Nat.reduceLT,Nat.reduceEqDiff,strE_len];try trivial) (by (simp only [ZZ,WW,Ze,reduceCtorEq,Nat.reduceAdd,Nat.reduceMul,Nat.reduceLeDiff,Nat.reduceLT,Nat.reduceEqDiff];try trivial)) ⟨0,by omega,by omega,by simp,rfl,rfl⟩ ?_
 rintro n fr L ⟨j,hj,rfl,hf,rfl,rfl⟩
 simp only [ir_chaseref1_LetterFault_L1,ZZ,WW,Ze,reduceCtorEq,Nat.reduceAdd,Nat.reduceMul,Nat.reduceLeDiff,Nat.reduceLT,Nat.reduceEqDiff]
 refine br ?_ ?_
 ·intro h
  have hlt:j < m.refs.length:=by have:=of_decide_eq_true h;omega
  obtain ⟨x,hx⟩:∃ x,m.refs[j]?=some x:=⟨_,List.getElem?_eq_getElem hlt⟩
  have hg:=strE_get hx
  have hxd:m.refs.getD j []=x:=by simp [List.getD,hx]
  have hbx:=b9 x (List.mem_of_getElem? hx)
  have hd:=hget hlt
  have htk:=strE_take m.refs j
  have he:refF1 m.id m.refs j=firstE [whenE (!idB x) 3,whenE (decide (x∈m.refs.take j)) 6,whenE (decide (x=m.id)) 14]:=by rw [refF1,hxd]
  simp only [ZZ,WW,Ze,reduceCtorEq,Nat.reduceAdd,Nat.reduceMul,Nat.reduceLeDiff,Nat.reduceLT,Nat.reduceEqDiff,hg,strE_len]
  ((repeat' (with_reducible apply And.intro))<;>try ((exact sc_)))
  refine use1 (messageIdR_ok x (by omega)) rfl (.inl rfl) ?_
  simp only [ZZ,WW,Ze,reduceCtorEq,Nat.reduceAdd,Nat.reduceMul,Nat.reduceLeDiff,Nat.reduceLT,Nat.reduceEqDiff]
  refine br ?_ ?_
  ·intro h7
   have hk:refF1 m.id m.refs j=3:=by rw [he,h7];rfl
   simp only [ZZ,WW,Ze,reduceCtorEq,Nat.reduceAdd,Nat.reduceMul,Nat.reduceLeDiff,Nat.reduceLT,Nat.reduceEqDiff]
   rw [firstE_cons,hf,hd,hk]
   rfl
  intro h7
  simp only [ZZ,WW,Ze,reduceCtorEq,Nat.reduceAdd,Nat.reduceMul,Nat.reduceLeDiff,Nat.reduceLT,Nat.reduceEqDiff,htk,strE_len]
  ((repeat' (with_reducible apply And.intro))<;>try ((exact sc_)))
  refine use1 (ContainsS_ok _ x (by rw [List.length_take];omega)) rfl (.inl rfl) ?_
  simp only [ZZ,WW,Ze,reduceCtorEq,Nat.reduceAdd,Nat.reduceMul,Nat.reduceLeDiff,Nat.reduceLT,Nat.reduceEqDiff]
  refine br ?_ ?_
  ·intro ho
   have hk:refF1 m.id m.refs j=6:=by rw [he,h7,ho];rfl
   simp only [ZZ,WW,Ze,reduceCtorEq,Nat.reduceAdd,Nat.reduceMul,Nat.reduceLeDiff,Nat.reduceLT,Nat.reduceEqDiff]
   rw [firstE_cons,hf,hd,hk]
   rfl
  intro ho
  simp only [ZZ,WW,Ze,reduceCtorEq,Nat.reduceAdd,Nat.reduceMul,Nat.reduceLeDiff,Nat.reduceLT,Nat.reduceEqDiff]
  refine br ?_ ?_
  ·intro hq
   have hk:refF1 m.id m.refs j=14:=by rw [he,h7,ho,hq];rfl
   simp only [ZZ,WW,Ze,reduceCtorEq,Nat.reduceAdd,Nat.reduceMul,Nat.reduceLeDiff,Nat.reduceLT,Nat.reduceEqDiff]
   rw [firstE_cons,hf,hd,hk]
   rfl
  intro hq
  have hk:refF1 m.id m.refs j=0:=by rw [he,h7,ho,hq];rfl
  simp only [ZZ,WW,Ze,reduceCtorEq,Nat.reduceAdd,Nat.reduceMul,Nat.reduceLeDiff,Nat.reduceLT,Nat.reduceEqDiff]
  ((repeat' (with_reducible apply And.intro))<;>try ((exact sc_)))
  refine end_round (m.refs.length - (j+1)) [oo,.adr (.l 1) 0,oo,oo,oo,oo,oo,oo,oo,oo,oo,oo,oo,oo,oo,oo,oo,oo,oo,oo,oo,oo,oo,oo,oo,oo,oo,oo,oo,oo,oo,oo,oo,oo,oo,oo,oo,oo,oo,oo,oo,oo,oo,oo,oo,oo,oo,oo,oo,oo,oo,oo,oo,oo,oo,oo,oo,oo,oo,.p (.sl 1 (strE m.refs)),.p (int (m.refs.length:Nat)),.p (int ((j+1):Nat)),oo,oo,oo,oo,oo,oo,oo,oo,oo,oo,oo,oo,oo,oo,oo,oo,oo,oo,oo,oo,oo,oo,oo,oo,oo,oo,oo,oo,oo,oo,oo,oo,oo,oo,oo] [(.l 1,.box [.p (.str m.id),.p (int m.at_),.p (.str m.fr.1),.p (.str m.fr.2),.p (.sl 2 (adrE m.tos)),.p (.sl 2 (adrE m.ccs)),.p (.sl 1 (strE m.refs)),.p (.str m.sub),.p (.str m.body)] tMail)] (by omega) (by (simp only [ZZ,WW,Ze,reduceCtorEq,Nat.reduceAdd,Nat.reduceMul,Nat.reduceLeDiff,Nat.reduceLT,Nat.reduceEqDiff];try trivial)) (by (simp only [ZZ,WW,Ze,reduceCtorEq,Nat.reduceAdd,Nat.reduceMul,Nat.reduceLeDiff,Nat.reduceLT,Nat.reduceEqDiff];try trivial)) ⟨j+1,by omega,rfl,by rw [hf,hd,if_pos hk],rfl,rfl⟩
 intro h
 have hge:m.refs.length≤j:=by have:=of_decide_eq_false h;omega
 have hfin:firstE [firstE R,subErr m.sub,bodyE m.body]=firstE [subErr m.sub,bodyE m.body]:=by rw [firstE_cons,hf,List.drop_eq_nil_of_le (by omega)];rfl
 rw [hfin]
 simp only [ZZ,WW,Ze,reduceCtorEq,Nat.reduceAdd,Nat.reduceMul,Nat.reduceLeDiff,Nat.reduceLT,Nat.reduceEqDiff]
 refine use1 (PlainOf_ok m.sub (by omega)) rfl (.inl rfl) ?_
 simp only [ZZ,WW,Ze,reduceCtorEq,Nat.reduceAdd,Nat.reduceMul,Nat.reduceLeDiff,Nat.reduceLT,Nat.reduceEqDiff]
 refine ⟨fun h=>by rw [h];rfl,?_⟩
 rw [Bool.or_comm]
 refine br ?_ ?_
 ·intro h
  simp only [ZZ,WW,Ze,reduceCtorEq,Nat.reduceAdd,Nat.reduceMul,Nat.reduceLeDiff,Nat.reduceLT,Nat.reduceEqDiff]
  rw [firstE_cons,subErr,whenE,if_pos h]
  rfl
 intro h
 have hs:subErr m.sub=0:=by rw [subErr,whenE,if_neg (by rw [h];decide)]
 simp only [ZZ,WW,Ze,reduceCtorEq,Nat.reduceAdd,Nat.reduceMul,Nat.reduceLeDiff,Nat.reduceLT,Nat.reduceEqDiff]
 refine use1 (BodyFault_ok m.body (by omega)) rfl (.inl rfl) ?_
 simp only [ZZ,WW,Ze,reduceCtorEq,Nat.reduceAdd,Nat.reduceMul,Nat.reduceLeDiff,Nat.reduceLT,Nat.reduceEqDiff]
 rw [firstE_cons,hs,if_pos rfl,firstE_cons,firstE_nil]
 split
 ·rename_i h;rw [h]
 ·rfl
section
variable {E:Envt}
end
def lt0:Ltr:=⟨[],0,([],[]),[],[],[],[],[]⟩
end Go.Proofs.YtehfjlpenlffmaaGreatDoor
namespace Go.Proofs.YtehfjlpenlffmaaGreatDoor
open Go.Lib Go.RowKit Go.Shelf Go.Sort
def sE (l:List UInt8):Value:=.string ⟨l.toArray⟩
theorem strE_vals {w:World} {U:Nat→Prop}:∀ {l:List (List UInt8)} {vs:List Value},PRepL w U (strE l).flatten vs↔vs=l.map sE
 |[],vs=>by simp [strE,PRepL]
 |c :: r,vs=>by
  have ih:∀ vs,PRepL w U (strE r).flatten vs↔vs=r.map sE:=fun vs=>strE_vals
  simp only [strE,List.map_cons,List.flatten_cons,List.cons_append,List.nil_append,PRepL,PRep] at ih ⊢
  constructor
  ·rintro ⟨v,r',rfl,rfl,h⟩
   rw [(ih r').1 h]
   rfl
  ·rintro rfl
   exact ⟨_,_,rfl,rfl,(ih _).2 rfl⟩
theorem repE_sE {w:World} {U:Nat→Prop} {b:Nat}:∀ (l:List (List UInt8)) (off:Nat),(∀ i u,(l.map sE)[i]?=some u→w.cell? ⟨b,off+i,none⟩=some u)→PRepE w U b 1 off (strE l)
 |[],off,h=>trivial
 |x :: r,off,h=>by
  refine ⟨rfl,⟨⟨.string ⟨x.toArray⟩,by simpa [sE] using h 0 _ rfl,rfl,rfl⟩,trivial⟩,repE_sE r (off+1) fun i u hu=>?_⟩
  have:=h (i+1) u (by simpa using hu)
  rwa [show off+(i+1)=off+1+i from by omega] at this
theorem sortS_row {E:Envt} (et:Nat) (l:List (List UInt8)) (hl:l.length≤1000000000000):RCall Tryz.prog E 191 et 1 (strE l) [] (fun x es'=>x=.tup []∧es'=strE (l.mergeSort fun x y=>decide (x≤y))):=by
 intro w U vs v0 hU hE hEb hA hB
 obtain ⟨hB1,us,hrow,h1,hrep,hz⟩:=hB
 simp only [PRepL] at hA
 subst hA
 rw [strE_vals] at hrep
 subst hrep
 rw [strE_len] at hrow
 have hml:(l.mergeSort fun x y=>decide (x≤y)).length=l.length:=List.length_mergeSort _
 rcases hrow.2 with ⟨rfl,hn⟩|⟨b,cap,cur,fz,rfl,hg,hn,hcap,hcs,htk,hfz⟩
 ·have hl0:l=[]:=List.eq_nil_of_length_eq_zero hn
  subst hl0
  refine (AnyM.slices_Sort_string_none Tryz.laySort none 0 w).mono ?_
  rintro e w' ⟨rfl,rfl⟩
  exact ⟨_,.p (.tup []),.row et 1 [],rfl,⟨_,_,rfl,rfl,rfl,by simp [strE]⟩,⟨[],rfl,by simp [PRepL]⟩,Grow.refl _ _,⟨[],⟨by simp,.inl ⟨rfl,rfl⟩⟩,by simp,by simp [PRepL],by simp⟩⟩
 ·have hf0:fz=(0,0):=by rcases hfz with h|h;exact h;exact absurd h.1 (by simp)
  subst hf0
  have hb:b < w.heap.size:=by
   rcases Nat.lt_or_ge b w.heap.size with h|h
   ·exact h
   ·rw [Array.getElem?_eq_none h] at hg;cases hg
  simp only [Nat.mul_one] at htk hcs
  have hH:Holds encStr w b 0 l.toArray:=by
   intro j hj
   have hj':j < l.length:=by simpa using hj
   have e1:cur[j]?=some (encStr l.toArray[j]!):=by
    rw [← Array.getElem?_toList,← List.getElem?_take_of_lt hj',htk,List.getElem?_map,List.getElem?_eq_getElem hj',getElem!_pos l.toArray j hj]
    rfl
   refine ⟨?_,?_⟩
   ·simp only [World.cell?,hg]
    simpa using e1
   ·simp [World.frozen?,hg]
  refine (AnyM.slices_Sort_string Tryz.laySort b 0 cap l w hH hb (by omega)).mono ?_
  rintro e w' ⟨rfl,n,os,rfl⟩
  generalize (l.mergeSort fun x y=>decide (x≤y))=m at *
  have hblk:∀ c,c≠b→c < w.heap.size→(grow (putRow encStr (Sort.ahead w n) b 0 m.toArray) os).heap[c]?=w.heap[c]?:=by
   intro c hc hlt
   simp only [grow,putRow,mapBlock]
   rw [Array.getElem?_append_left (by simpa using hlt),Array.getElem?_modify,if_neg (fun e=>hc e.symm)]
   rfl
  have hnew:(grow (putRow encStr (Sort.ahead w n) b 0 m.toArray) os).heap[b]?=some (.cells (putCells encStr 0 m.toArray cur) et (0,0)):=by
   simp only [grow,putRow,mapBlock]
   rw [Array.getElem?_append_left (by simpa using hb),Array.getElem?_modify,if_pos rfl]
   show Option.map _ w.heap[b]?=_
   rw [hg]
   rfl
  have hGr:Grow w (grow (putRow encStr (Sort.ahead w n) b 0 m.toArray) os) (fun c=>blk (.slice (some ⟨b,0,none⟩) l.length cap)=some c):=by
   refine ⟨rfl,rfl,rfl,?_,fun c hc hne=>hblk c (fun e=>hne (by rw [e];rfl)) hc⟩
   simp [grow,putRow,mapBlock,Sort.ahead]
  refine ⟨_,.p (.tup []),.row et 1 (strE m),rfl,⟨_,_,rfl,rfl,rfl,rfl⟩,⟨[],rfl,by simp [PRepL]⟩,hGr,?_⟩
  refine ⟨m.map sE,⟨by rw [strE_len];simp,.inr ⟨b,cap,_,(0,0),by rw [strE_len,hml],hnew,by rw [strE_len,hml];exact hn,hcap,by simp [putCells,hcs],?_,.inl rfl⟩⟩,?_,strE_vals.2 rfl,?_⟩
  ·rw [strE_len]
   apply List.ext_getElem?
   intro j
   by_cases hj:j < m.length
   ·rw [List.getElem?_take_of_lt (by simpa using hj),Array.getElem?_toList]
    simp only [putCells,Array.getElem?_mapIdx]
    rw [Array.getElem?_eq_getElem (by omega),Option.map_some,if_pos ⟨Nat.zero_le _,by simpa using hj⟩,Nat.sub_zero,getElem!_pos _ j (by simpa using hj)]
    simp [hj,sE]
   ·rw [List.getElem?_eq_none (by rw [List.length_take];omega),List.getElem?_eq_none (by simp;omega)]
  ·intro u hu
   obtain ⟨x,_,rfl⟩:=List.mem_map.1 hu
   rfl
  ·intro x hx
   simp only [strE,List.mem_map] at hx
   obtain ⟨y,_,rfl⟩:=hx
   rfl
theorem compact_le (l:List (List UInt8)):(Lib.compact l).length≤l.length:=by
 unfold Lib.compact Lib.compactUpTo
 rw [List.length_map]
 exact Nat.le_trans (List.length_filter_le _ _) (by simp)
section
variable {E:Envt} {L:Objs} {k:Key} {fr:List AV} {d:Option Nat} {is:List IOper} {Y:List PV} {K:List AV→Objs→Prop}
theorem useComp (i:Nat) (l:List (List UInt8)) (hlen:l.length≤1000000000) (hlk:Zas L k=some (.row (strE l) 9 1 true))
  (hk:awpOps Tryz.prog E Y is (Zg (fr.map (·.kill (.l i))) d (.p (.sl 1 (strE (Lib.compact l))))) (delO L k) K):CallOp Tryz.prog E 198 [.row k] L d fr (contO Tryz.prog E Y is K):=by
 refine .inr (.inr ⟨i,?_⟩)
 intro w X ι vs hs hX hE hEb hA
 simp only [ARepL,ARep] at hA
 obtain ⟨v1,r1,rfl,⟨rfl,A,n,c,hv⟩,rfl⟩:=hA
 obtain ⟨us,u1,u2,u3,u4⟩:=hs.obj k _ hlk
 rw [strE_vals] at u3
 subst u3
 have hown:=u1.owns
 rw [strE_len] at hown
 by_cases hne:ι k=.slice none 0 0
 ·have hl0:l=[]:=by
   rcases hown.2 with ⟨_,h0⟩|⟨q,cap,cur,h1,_⟩
   ·exact List.eq_nil_of_length_eq_zero h0
   ·rw [hne] at h1;cases h1
  subst hl0
  rw [hne]
  refine (Any.slices_Compact_string_empty Tryz.layCompact none 0 w).mono ?_
  rintro e w' ⟨rfl,rfl⟩
  have hsub:∀ j a,Zas (delO L k) j=some a→Zas L j=some a:=by
   intro j a hj
   rw [look_delO] at hj
   by_cases e:j=k
   ·rw [if_pos e] at hj;cases hj
   ·rwa [if_neg e] at hj
  have hown3:∀ x,Own (delO L k) ι x→Own L ι x:=fun x ⟨j,a,h1,h2⟩=>⟨j,a,hsub j a h1,h2⟩
  have hkp:Keeps w' w' (fun x=>Own L ι x∨X x) (fun x=>Own (delO L k) ι x∨X x):=fun x hx hu=>⟨rfl,fun h=>hu (h.imp (hown3 x) id)⟩
  refine ⟨_,.p (.sl 1 (strE (Lib.compact []))),delO L k,ι,rfl,hk,?_,⟨⟨?_,fun j j' a a' x h1 h2 h3 h4=>hs.inj j j' a a' x (hsub j a h1) (hsub j' a' h2) h3 h4⟩,Grow.refl _ _,fun x h=>.inl (hown3 x h),fun j _=>rfl,fun j hj=>?_⟩⟩
  ·show PRep w' _ (.sl 1 (strE (Lib.compact []))) _
   exact ⟨none,0,rfl,by simp [strE,Lib.compact,Lib.compactUpTo],fun h=>absurd rfl h⟩
  ·intro j a h1
   exact ObjOk.mono hkp (fun x hx=>rfl) (hs.obj j a (hsub j a h1))
  ·obtain ⟨a,ha⟩:=Option.isSome_iff_exists.1 hj
   exact .inl (by rw [hsub j a ha];rfl)
 obtain ⟨b,cap,hvb,_,hlt,hnc,hcm,_,hH⟩:=Lib.holds_of_ownsRow (enc:=encStr) hown hne
 rw [hvb] at hown
 have hOb:Own L ι b:=⟨k,_,hlk,by rw [hvb];rfl⟩
 have hcall:=Any.slices_Compact_string Tryz.layCompact b 0 cap l w hH (by omega) (by simpa using hnc)
 rw [hvb]
 refine hcall.mono ?_
 rintro e w' ⟨rfl,q,rfl⟩
 have hle:(Lib.compact l).length≤l.length:=compact_le l
 have hown2:=Lib.ownsRow_putRow (enc:=encStr) (q:=q) (k:=(Lib.compact l).length) (ys:=(Lib.compact l)++List.replicate (l.length - (Lib.compact l).length) []) hown (by simp;omega) hle
 rw [List.take_left' rfl] at hown2
 generalize hW:putRow encStr (Sort.ahead w q) b 0 ((Lib.compact l)++List.replicate (l.length - (Lib.compact l).length) []).toArray=w1 at hown2 ⊢
 have hG:Grow w w1 (fun x=>x=b):=by
  rw [← hW]
  refine ⟨rfl,rfl,rfl,by simp [putRow,mapBlock,Sort.ahead],fun x hx hn=>?_⟩
  simp [putRow,mapBlock,Sort.ahead,Array.getElem?_modify,show b≠x from fun e=>hn e.symm]
 have hsub:∀ j a,Zas (delO L k) j=some a→j≠k∧Zas L j=some a:=by
  intro j a hj
  rw [look_delO] at hj
  by_cases e:j=k
  ·rw [if_pos e] at hj;cases hj
  ·rw [if_neg e] at hj;exact ⟨e,hj⟩
 have hown3:∀ x,Own (delO L k) ι x→Own L ι x:=fun x ⟨j,a,h1,h2⟩=>⟨j,a,(hsub j a h1).2,h2⟩
 have hnb:¬ (Own (delO L k) ι b∨X b):=by
  rintro (⟨j,a,h1,h2⟩|h)
  ·obtain ⟨e,h3⟩:=hsub j a h1
   exact e (hs.inj j k a _ b h3 hlk h2 (by rw [hvb];rfl))
  ·exact (hX b h).2 hOb
 have hgrow:Grow w w1 (Own L ι):=⟨hG.os,hG.tape,hG.output,hG.size,fun x hx hn=>hG.block x hx (fun e=>hn (by rw [e];exact hOb))⟩
 have hkp:Keeps w w1 (fun x=>Own L ι x∨X x) (fun x=>Own (delO L k) ι x∨X x):=fun x hx hu=>⟨hgrow.block x hx (fun h=>hu (.inl h)),fun h=>hu (h.imp (hown3 x) id)⟩
 refine ⟨_,.p (.sl 1 (strE (Lib.compact l))),delO L k,ι,rfl,hk,?_,⟨⟨?_,fun j j' a a' x h1 h2 h3 h4=>hs.inj j j' a a' x (hsub j a h1).2 (hsub j' a' h2).2 h3 h4⟩,hgrow,fun x h=>.inl (hown3 x h),fun j _=>rfl,fun j hj=>?_⟩⟩
 ·show PRep w1 _ (.sl 1 (strE _)) _
  refine ⟨some ⟨b,0,none⟩,cap,by rw [strE_len],by rw [strE_len];omega,fun _=>⟨b,0,rfl,Nat.lt_of_lt_of_le hlt hG.size,hnb,repE_sE _ 0 fun j u hu=>?_⟩⟩
  rw [Nat.zero_add]
  have:=hown2.cells (g:=b) rfl j u hu
  rw [show ({ block:=b,off:=0 }:Addr).add j=⟨b,j,none⟩ from by cases j<;>simp [Addr.add]] at this
  exact this
 ·intro j a h1
  obtain ⟨e,h2⟩:=hsub j a h1
  refine ObjOk.mono hkp (fun x hx=>hG.block x ((hs.obj j a h2).blk_lt hx) (fun ex=>?_)) (hs.obj j a h2)
  subst ex
  exact e (hs.inj j k a _ x h2 hlk hx (by rw [hvb];rfl))
 ·obtain ⟨a,ha⟩:=Option.isSome_iff_exists.1 hj
  exact .inl (by rw [(hsub j a ha).2];rfl)
end
end Go.Proofs.YtehfjlpenlffmaaGreatDoor
namespace Go.Proofs.YtehfjlpenlffmaaGreatDoor
open Go.RowKit
def ir_chaseref1_sorted:IC:=(.seq (.reg [qO 2 (.mov (.c (.nl 1)))]) (.seq (.reg [qM 4 0,qO 5 (.call 48 [.t 4]),qM 3 5]) (.seq (.reg [qM 6 3,qO 7 (.call 191 [.t 6])]) (.seq (.reg [qM 8 3,qO 9 (.call 198 [.t 8]),qM 2 9]) .ret))))
def rs_chaseref1_sorted:List IRes:=[.t 2]
theorem ck_chaseref1_sorted:chkF Tryz.prog Tryz.f121 ir_chaseref1_sorted rs_chaseref1_sorted 10=true:=by kernel_rfl
def sortF (l:List (List UInt8)):List (List UInt8):=Lib.compact (l.mergeSort fun x y=>decide (x≤y))
theorem sorted_ok {E:Envt} (l:List (List UInt8)) (hl:l.length≤1000000):PCall Tryz.prog E 121 [.sl 1 (strE l)] (·=.sl 1 (strE (sortF l))):=by
 refine pcallF mixed Tryz.func121 ck_chaseref1_sorted ?_
 simp only [a0,l0,OS.ao,List.map_cons,List.map_nil,List.length_cons,List.length_nil,List.cons_append,List.nil_append,Nat.reduceSub,Nat.reduceAdd,List.replicate_succ,List.replicate_zero,ir_chaseref1_sorted,rs_chaseref1_sorted,ZZ,WW,Ze,reduceCtorEq,Nat.reduceAdd,Nat.reduceMul,Nat.reduceLeDiff,Nat.reduceLT,Nat.reduceEqDiff]
 refine useF (CloneS_ok (strE l) (by rw [strE_len];omega)) rfl rfl ?_
 rintro es rfl
 simp only [ZZ,WW,Ze,reduceCtorEq,Nat.reduceAdd,Nat.reduceMul,Nat.reduceLeDiff,Nat.reduceLT,Nat.reduceEqDiff]
 refine useR (sortS_row tStr l (by omega)) rfl rfl rfl zE_ ?_
 rintro x es ⟨rfl,rfl⟩
 simp only [ZZ,WW,Ze,reduceCtorEq,Nat.reduceAdd,Nat.reduceMul,Nat.reduceLeDiff,Nat.reduceLT,Nat.reduceEqDiff]
 refine useComp 1000 (l.mergeSort fun x y=>decide (x≤y)) (by rw [List.length_mergeSort];omega) rfl ?_
 simp only [ZZ,WW,Ze,reduceCtorEq,Nat.reduceAdd,Nat.reduceMul,Nat.reduceLeDiff,Nat.reduceLT,Nat.reduceEqDiff]
 rfl
theorem cmp_memW (m:List (List UInt8)) (x:List UInt8):x∈Lib.compact m↔x∈m:=by
 unfold Lib.compact Lib.compactUpTo
 simp only [List.mem_map,List.mem_filter,List.mem_range]
 constructor
 ·rintro ⟨j,⟨hj,_⟩,rfl⟩
  rw [getElem!_pos m.toArray j (by simpa using hj)]
  simp
 ·intro hx
  have hlt:m.findIdx (· == x) < m.length:=List.findIdx_lt_length_of_exists ⟨x,hx,by simp⟩
  have hg:m[m.findIdx (· == x)]=x:=by simpa using List.findIdx_getElem (w:=hlt)
  refine ⟨m.findIdx (· == x),⟨hlt,?_⟩,?_⟩
  ·unfold Lib.keeps
   rw [decide_eq_true_iff,getElem!_pos m.toArray _ (by simpa using hlt),getElem!_pos m.toArray (m.findIdx (· == x) - 1) (by simp;omega)]
   simp only [List.getElem_toArray]
   rcases Nat.eq_zero_or_pos (m.findIdx (· == x)) with h0|h0
   ·exact .inl h0
   ·refine .inr fun e=>?_
    have h1:=List.not_of_lt_findIdx (xs:=m) (p:=(· == x)) (i:=m.findIdx (· == x) - 1) (by omega)
    rw [← e,hg] at h1
    simp at h1
  ·rw [getElem!_pos m.toArray _ (by simpa using hlt)]
   simpa using hg
theorem sortF_memW (l:List (List UInt8)) (x:List UInt8):x∈sortF l↔x∈l:=by
 rw [sortF,cmp_memW]
 exact (List.mergeSort_perm l _).mem_iff
theorem sortF_leW (l:List (List UInt8)):(sortF l).length≤l.length:=by
 have:=compact_le (l.mergeSort fun x y=>decide (x≤y))
 rw [List.length_mergeSort] at this
 exact this
end Go.Proofs.YtehfjlpenlffmaaGreatDoor
namespace Go.Proofs.YtehfjlpenlffmaaGreatDoor
section
variable {E:Envt}
end
end Go.Proofs.YtehfjlpenlffmaaGreatDoor
namespace Go.Proofs.YtehfjlpenlffmaaGreatDoor
open Go.RowKit
def ir_thread_parties_L0:IC:=(.seq (.reg [qO 19 (.bin .lss (.t 18) (.t 17))]) (.seq (.cond (.t 19) .skip (.exit 0)) (.seq (.block 1 (.seq (.reg [qO 20 (.ixa 2 (.t 16) (.t 18)),qO 21 (.ld 2 true (.t 20)),qO 5 (.alc 56 [.str [],.str []]),⟨none,.st 2 (.t 5) (.t 21),none⟩]) (.reg [qM 22 3,qO 23 (.fla 1 (.t 5)),qO 24 (.ld 1 false (.t 23)),⟨none,.mpu (.t 22) (.t 24) (.c (.bool true)),none⟩]))) (.reg [qO 25 (.bin .add (.t 18) (.c (.int .i64 1))),qM 18 25]))))
def ir_thread_parties:IC:=(.seq (.reg [qO 1 (.box 60 (.t 0)),qO 2 (.mov (.c (.raw (.map none))))]) (.seq (.reg [qO 6 (.mkm 9 4),qO 7 (.fla 2 (.t 1)),qO 8 (.fla 1 (.t 7)),qO 9 (.ld 1 false (.t 8)),⟨none,.mpu (.t 6) (.t 9) (.c (.bool true)),none⟩,qM 10 6,qM 3 10]) (.seq (.seq (.reg [qO 11 (.fla 4 (.t 1)),qO 12 (.ld 1 false (.t 11)),qO 13 (.fla 5 (.t 1)),qO 14 (.ld 1 false (.t 13)),qO 15 (.bsl 1 [.t 12,.t 14]),qO 16 (.call 101 [.t 15]),qO 17 (.len (.t 16)),qO 18 (.mov (.c (.int .i64 0)))]) (.block 0 (.loop ir_thread_parties_L0))) (.seq (.reg [qM 26 3,qM 2 26]) .ret))))
def rs_thread_parties:List IRes:=[.t 2]
theorem ck_thread_parties:chkF Tryz.prog Tryz.f116 ir_thread_parties rs_thread_parties 27=true:=by kernel_rfl
def ir_chaseref1_PartiesOf_L0:IC:=(.seq (.reg [qO 18 (.bin .lss (.t 17) (.t 16))]) (.seq (.cond (.t 18) .skip (.exit 0)) (.seq (.block 1 (.seq (.reg [qO 19 (.ixa 2 (.t 15) (.t 17)),qO 20 (.ld 2 true (.t 19)),qO 5 (.alc 56 [.str [],.str []]),⟨none,.st 2 (.t 5) (.t 20),none⟩]) (.reg [qM 21 3,qO 22 (.fla 1 (.t 5)),qO 23 (.ld 1 false (.t 22)),qO 24 (.bsl 1 [.t 23]),qO 25 (.app 9 1 16 (.t 21) (.t 24)),qM 3 25]))) (.reg [qO 26 (.bin .add (.t 17) (.c (.int .i64 1))),qM 17 26]))))
def ir_chaseref1_PartiesOf:IC:=(.seq (.reg [qO 1 (.box 60 (.t 0)),qO 2 (.mov (.c (.nl 1)))]) (.seq (.reg [qO 6 (.fla 2 (.t 1)),qO 7 (.fla 1 (.t 6)),qO 8 (.ld 1 false (.t 7)),qO 9 (.bsr 9 1 [.t 8]),qM 3 9]) (.seq (.seq (.reg [qO 10 (.fla 4 (.t 1)),qO 11 (.ld 1 false (.t 10)),qO 12 (.fla 5 (.t 1)),qO 13 (.ld 1 false (.t 12)),qO 14 (.bsl 1 [.t 11,.t 13]),qO 15 (.call 101 [.t 14]),qO 16 (.len (.t 15)),qO 17 (.mov (.c (.int .i64 0)))]) (.block 0 (.loop ir_chaseref1_PartiesOf_L0))) (.seq (.reg [qM 27 3,⟨none,.fz (.t 27),none⟩,qO 28 (.call 121 [.t 27]),qM 2 28]) .ret))))
def rs_chaseref1_PartiesOf:List IRes:=[.t 2]
theorem ck_chaseref1_PartiesOf:chkF Tryz.prog Tryz.f36 ir_chaseref1_PartiesOf rs_chaseref1_PartiesOf 29=true:=by kernel_rfl
theorem PartiesOf_ok {E:Envt} (m:Ltr) (hm:LtB m):PCall Tryz.prog E 36 [.agg (ltV m)] (·=.sl 1 (strE (sortF (ptsOf m)))):=by
 obtain ⟨b1,b2,b3,b4,b5,b6,b7,b8,b9,b10,b11⟩:=hm
 refine pcallF mixed Tryz.func36 ck_chaseref1_PartiesOf ?_
 simp only [a0,l0,OS.ao,List.map_cons,List.map_nil,List.length_cons,List.length_nil,List.cons_append,List.nil_append,Nat.reduceSub,Nat.reduceAdd,List.replicate_succ,List.replicate_zero,ir_chaseref1_PartiesOf,rs_chaseref1_PartiesOf,ZZ,WW,Ze,reduceCtorEq,Nat.reduceAdd,Nat.reduceMul,Nat.reduceLeDiff,Nat.reduceLT,Nat.reduceEqDiff]
 simp only [ltV,ZZ,WW,Ze,reduceCtorEq,Nat.reduceAdd,Nat.reduceMul,Nat.reduceLeDiff,Nat.reduceLT,Nat.reduceEqDiff]
 refine useF (ConcatA_ok [m.tos,m.ccs] (by simp) (by simp [lenSA];omega)) rfl rfl ?_
 rintro es rfl
 rw [cat2]
 have hAl:(m.tos++m.ccs).length≤200000:=by simp;omega
 unfold ptsOf
 generalize m.tos++m.ccs=A at *
 simp only [ZZ,WW,Ze,reduceCtorEq,Nat.reduceAdd,Nat.reduceMul,Nat.reduceLeDiff,Nat.reduceLT,Nat.reduceEqDiff,adrE_len]
 have hR0:[[PV.str m.fr.2]]=strE (m.fr.2 :: (A.take 0).map (·.2)):=rfl
 rw [hR0]
 refine loop_intro (fun n fr L=>∃ (k:Nat),k≤A.length∧n=A.length - k∧fr=[oo,oo,oo,.row (.l 9),oo,oo,oo,oo,oo,oo,oo,oo,oo,oo,oo,.row (.l 15),.p (int (A.length:Nat)),.p (int (k:Nat)),oo,oo,oo,oo,oo,oo,oo,oo,oo,oo,oo]∧L=[(.l 9,.row (strE (m.fr.2 :: (A.take k).map (·.2))) 9 1 true),(.l 15,.row (adrE A) tAdr 2 true)]) (A.length) [oo,oo,oo,.row (.l 9),oo,oo,oo,oo,oo,oo,oo,oo,oo,oo,oo,.row (.l 15),.p (int (A.length:Nat)),.p (int (0:Nat)),oo,oo,oo,oo,oo,oo,oo,oo,oo,oo,oo] [(.l 9,.row (strE (m.fr.2 :: (A.take 0).map (·.2))) 9 1 true),(.l 15,.row (adrE A) tAdr 2 true)] (by simp only [ZZ,WW,Ze,reduceCtorEq,Nat.reduceAdd,Nat.reduceMul,Nat.reduceLeDiff,Nat.reduceLT,Nat.reduceEqDiff,adrE_len];try trivial) (by (simp only [ZZ,WW,Ze,reduceCtorEq,Nat.reduceAdd,Nat.reduceMul,Nat.reduceLeDiff,Nat.reduceLT,Nat.reduceEqDiff];try trivial)) ⟨0,by omega,by omega,rfl,rfl⟩ ?_
 rintro n fr L ⟨k,hk,rfl,rfl,rfl⟩
 simp only [ir_chaseref1_PartiesOf_L0,ZZ,WW,Ze,reduceCtorEq,Nat.reduceAdd,Nat.reduceMul,Nat.reduceLeDiff,Nat.reduceLT,Nat.reduceEqDiff]
 refine br ?_ ?_
 ·intro h
  have hlt:k < A.length:=by have:=of_decide_eq_true h;omega
  obtain ⟨x,hx⟩:∃ x,A[k]?=some x:=⟨_,List.getElem?_eq_getElem hlt⟩
  have hg:=adrE_get hx
  have hq:strE (m.fr.2 :: (A.take k).map (·.2))++[[PV.str x.2]]=strE (m.fr.2 :: (A.take (k+1)).map (·.2)):=by rw [map_take_succ _ hx,← List.cons_append,strE_app];rfl
  have hql:(m.fr.2 :: (A.take k).map (·.2)).length=k+1:=by simp;omega
  simp only [ZZ,WW,Ze,reduceCtorEq,Nat.reduceAdd,Nat.reduceMul,Nat.reduceLeDiff,Nat.reduceLT,Nat.reduceEqDiff,hg,adrE_len]
  simp only [strE_len,hql,ZZ,WW,Ze,reduceCtorEq,Nat.reduceAdd,Nat.reduceMul,Nat.reduceLeDiff,Nat.reduceLT,Nat.reduceEqDiff]
  ((repeat' (with_reducible apply And.intro))<;>try ((exact sc_)))
  rw [hq]
  refine end_round (A.length - (k+1)) [oo,oo,oo,.row (.l 9),oo,oo,oo,oo,oo,oo,oo,oo,oo,oo,oo,.row (.l 15),.p (int (A.length:Nat)),.p (int ((k+1):Nat)),oo,oo,oo,oo,oo,oo,oo,oo,oo,oo,oo] [(.l 9,.row (strE (m.fr.2 :: (A.take (k+1)).map (·.2))) 9 1 true),(.l 15,.row (adrE A) tAdr 2 true)] (by omega) (by (simp only [ZZ,WW,Ze,reduceCtorEq,Nat.reduceAdd,Nat.reduceMul,Nat.reduceLeDiff,Nat.reduceLT,Nat.reduceEqDiff];try trivial)) (by (simp only [ZZ,WW,Ze,reduceCtorEq,Nat.reduceAdd,Nat.reduceMul,Nat.reduceLeDiff,Nat.reduceLT,Nat.reduceEqDiff];try trivial)) ⟨k+1,by omega,rfl,rfl,rfl⟩
 intro h
 have hge:A.length≤k:=by have:=of_decide_eq_false h;omega
 rw [List.take_of_length_le hge]
 simp only [ZZ,WW,Ze,reduceCtorEq,Nat.reduceAdd,Nat.reduceMul,Nat.reduceLeDiff,Nat.reduceLT,Nat.reduceEqDiff]
 refine use1 (sorted_ok _ (by simp;omega)) rfl (.inl rfl) ?_
 simp only [ZZ,WW,Ze,reduceCtorEq,Nat.reduceAdd,Nat.reduceMul,Nat.reduceLeDiff,Nat.reduceLT,Nat.reduceEqDiff]
def ir_chasemake_people:IC:=(.seq (.reg [qO 0 (.mov (.c (.nl 1)))]) (.seq (.reg [qO 1 (.bsl 1 [.c (.str [97,110,110,64,102,105,114,109,46,100,101]),.c (.str [98,111,64,102,105,114,109,46,100,101]),.c (.str [108,97,119,64,111,117,114,115,46,100,101]),.c (.str [97,105,100,64,111,117,114,115,46,100,101]),.c (.str [99,121,64,101,108,115,101,46,100,101]),.c (.str [97,108,108,64,102,105,114,109,46,100,101]),.c (.str [100,101,101,64,120,46,102,105,114,109,46,100,101])]),qM 0 1]) .ret))
def rs_chasemake_people:List IRes:=[.t 0]
theorem ck_chasemake_people:chkF Tryz.prog Tryz.f92 ir_chasemake_people rs_chasemake_people 2=true:=by kernel_rfl
section
variable {E:Envt}
def peA:List (List UInt8):=[[97,110,110,64,102,105,114,109,46,100,101],[98,111,64,102,105,114,109,46,100,101],[108,97,119,64,111,117,114,115,46,100,101],[97,105,100,64,111,117,114,115,46,100,101],[99,121,64,101,108,115,101,46,100,101],[97,108,108,64,102,105,114,109,46,100,101],[100,101,101,64,120,46,102,105,114,109,46,100,101]]
theorem peA_len:∀ s∈peA,s.length≤60:=by decide
theorem people_ok:PCall Tryz.prog E 92 [] (·=strs peA):=by
 refine pcallF mixed Tryz.func92 ck_chasemake_people ?_
 simp only [a0,l0,OS.ao,List.map_cons,List.map_nil,List.length_cons,List.length_nil,List.cons_append,List.nil_append,Nat.reduceSub,Nat.reduceAdd,List.replicate_succ,List.replicate_zero,ir_chasemake_people,rs_chasemake_people,ZZ,WW,Ze,reduceCtorEq,Nat.reduceAdd,Nat.reduceMul,Nat.reduceLeDiff,Nat.reduceLT,Nat.reduceEqDiff]
 rfl
end
def ir_slices_Clone_api_Address_api_Address:IC:=(.seq (.reg [qO 2 (.nilr 56 2)]) (.seq (.seq (.reg [qM 3 0,qO 4 (.isn (.t 3))]) (.cond (.t 4) (.seq (.reg [qO 2 (.nilr 56 2)]) .ret) .skip)) (.seq (.reg [qO 5 (.bsr 56 2 []),qM 6 0,qO 7 (.app 56 2 32 (.t 5) (.t 6)),qM 2 7]) .ret)))
def rs_slices_Clone_api_Address_api_Address:List IRes:=[.t 2]
theorem ck_slices_Clone_api_Address_api_Address:chkF Tryz.prog Tryz.f97 ir_slices_Clone_api_Address_api_Address rs_slices_Clone_api_Address_api_Address 8=true:=by kernel_rfl
def ir_chasemake_Stream_SpoiledLetter:IC:=(.seq (.reg [qO 3 (.box 60 (.t 1)),qO 4 (.alc 60 [.str [],.int .i64 0,.str [],.str [],.nl 2,.nl 2,.nl 1,.str [],.str []])]) (.seq (.seq (.reg [qM 5 0,qO 6 (.call 10 [.t 5,.c (.int .i64 9)])]) (.block 0 (.seq (.reg [qO 15 (.bin .eql (.t 6) (.c (.int .i64 0))),qM 14 15]) (.cond (.t 14) (.reg [qM 16 0,qO 17 (.call 44 [.c (.str [105]),.c (.int .i64 80)]),qO 18 (.call 44 [.c (.str [105]),.c (.int .i64 81)]),qO 19 (.bsl 1 [.c (.str []),.c (.str [97,32,98]),.c (.str [60,120,62]),.t 17,.t 18]),qO 20 (.call 42 [.t 16,.t 19]),qO 21 (.fla 0 (.t 3)),⟨none,.st 1 (.t 21) (.t 20),none⟩]) (.seq (.reg [qO 23 (.bin .eql (.t 6) (.c (.int .i64 1))),qM 22 23]) (.cond (.t 22) (.reg [qM 24 0,qO 25 (.bsl 1 [.c (.int .i64 (-1)),.c (.int .i64 5761440)]),qO 26 (.call 43 [.t 24,.t 25]),qO 27 (.fla 1 (.t 3)),⟨none,.st 1 (.t 27) (.t 26),none⟩]) (.seq (.reg [qO 29 (.bin .eql (.t 6) (.c (.int .i64 2))),qM 28 29]) (.cond (.t 28) (.reg [qM 30 0,qO 31 (.bsl 1 [.c (.str []),.c (.str [97,110,110]),.c (.str [65,110,110,64,98,46,100,101])]),qO 32 (.call 42 [.t 30,.t 31]),qO 33 (.fla 2 (.t 3)),qO 34 (.fla 1 (.t 33)),⟨none,.st 1 (.t 34) (.t 32),none⟩]) (.seq (.reg [qO 36 (.bin .eql (.t 6) (.c (.int .i64 3))),qM 35 36]) (.cond (.t 35) (.reg [qM 37 0,qO 38 (.call 44 [.c (.str [110]),.c (.int .i64 61)]),qO 39 (.bsl 1 [.c (.str [32,120]),.c (.str [97,32,32,98]),.c (.str [97,34,98]),.t 38]),qO 40 (.call 42 [.t 37,.t 39]),qO 41 (.fla 2 (.t 3)),qO 42 (.fla 0 (.t 41)),⟨none,.st 1 (.t 42) (.t 40),none⟩]) (.seq (.reg [qO 44 (.bin .eql (.t 6) (.c (.int .i64 4))),qM 43 44]) (.cond (.t 43) (.reg [qO 45 (.fla 4 (.t 3)),qO 46 (.ld 1 false (.t 45)),qO 47 (.call 97 [.t 46]),qM 48 0,qO 49 (.bsl 1 [.c (.str [97,110,110,64,102,105,114,109,46,100,101]),.c (.str [98,111,64,102,105,114,109,46,100,101]),.c (.str [])]),qO 50 (.call 42 [.t 48,.t 49]),⟨none,.fz (.t 50),none⟩,qO 51 (.bld [.str [],.str []] [(1,1,.t 50)]),qO 52 (.bsl 2 [.t 51]),qO 53 (.app 56 2 32 (.t 47) (.t 52)),qO 54 (.fla 4 (.t 3)),⟨none,.st 1 (.t 54) (.t 53),none⟩]) (.seq (.reg [qO 56 (.bin .eql (.t 6) (.c (.int .i64 5))),qM 55 56]) (.cond (.t 55) (.drg [⟨none,.fz (.t 64),none⟩,⟨none,.hole 59,none⟩,qO 57 (.fla 6 (.t 3)),qO 58 (.ldl 1 false (.t 57)),qO 59 (.fcl 0 48 [.t 58] 9 1),qM 60 0,qO 61 (.fla 0 (.t 3)),qO 62 (.ldl 1 false (.t 61)),qO 63 (.bsl 1 [.t 62,.c (.str [103,111,110,101,49]),.c (.str [103,111,110,101,49]),.c (.str [])]),qO 64 (.dcall true 42 [.t 60,.t 63]),qO 65 (.bsl 1 [.t 64]),qO 66 (.app 9 1 16 (.t 59) (.t 65)),qO 67 (.fla 6 (.t 3)),⟨none,.st 1 (.t 67) (.t 66),none⟩]) (.seq (.reg [qO 69 (.bin .eql (.t 6) (.c (.int .i64 6))),qM 68 69]) (.cond (.t 68) (.reg [qM 70 0,qO 71 (.call 44 [.c (.str [115]),.c (.int .i64 200)]),qO 72 (.call 44 [.c (.str [115]),.c (.int .i64 201)]),qO 73 (.bsl 1 [.c (.str [32,120]),.c (.str [97,32,32,98]),.t 71,.t 72,.c (.str [97,9,98])]),qO 74 (.call 42 [.t 70,.t 73]),qO 75 (.fla 7 (.t 3)),⟨none,.st 1 (.t 75) (.t 74),none⟩]) (.seq (.reg [qO 77 (.bin .eql (.t 6) (.c (.int .i64 7))),qM 76 77]) (.cond (.t 76) (.reg [qM 78 0,qO 79 (.call 44 [.c (.str [98]),.c (.int .i64 20000)]),qO 80 (.bin .add (.t 79) (.c (.str [10]))),qO 81 (.bsl 1 [.c (.str [120]),.c (.str [97,9,98,10]),.c (.str [255,10]),.t 80]),qO 82 (.call 42 [.t 78,.t 81]),qO 83 (.fla 8 (.t 3)),⟨none,.st 1 (.t 83) (.t 82),none⟩]) (.drg [⟨none,.hole 9,none⟩,qO 7 (.fla 5 (.t 3)),qO 8 (.ld 1 false (.t 7)),qO 9 (.fcl 0 97 [.t 8] 56 2),qO 10 (.fla 4 (.t 3)),qO 11 (.ld 1 false (.t 10)),qO 12 (.app 56 2 32 (.t 9) (.t 11)),qO 13 (.fla 5 (.t 3)),⟨none,.st 1 (.t 13) (.t 12),none⟩]))))))))))))))))))) (.cut (.seq (.reg [qO 84 (.ld 9 true (.t 3)),⟨none,.st 9 (.t 4) (.t 84),none⟩]) .ret))))
def rs_chasemake_Stream_SpoiledLetter:List IRes:=[.c 4 9 true]
theorem ck_chasemake_Stream_SpoiledLetter:chkF Tryz.prog Tryz.f28 ir_chasemake_Stream_SpoiledLetter rs_chasemake_Stream_SpoiledLetter 85=true:=by kernel_rfl
structure LtM (N:Nat) (m:Ltr):Prop where
 b1:m.id.length≤30000
 b2:m.fr.1.length≤30000
 b3:m.fr.2.length≤30000
 b4:m.tos.length≤N
 b5:∀ a∈m.tos,a.1.length≤30000∧a.2.length≤30000
 b6:m.ccs.length≤N
 b7:∀ a∈m.ccs,a.1.length≤30000∧a.2.length≤30000
 b8:m.refs.length≤N
 b9:∀ r∈m.refs,r.length≤30000
 b10:m.sub.length≤30000
 b11:m.body.length≤30000
theorem LtM.big {N:Nat} {m:Ltr} (h:LtM N m) (hN:N≤100000):LtB m:=
 ⟨by have:=h.b1;omega,by have:=h.b2;omega,by have:=h.b3;omega,by have:=h.b4;omega,fun a ha=>by have:=h.b5 a ha;omega,by have:=h.b6;omega,fun a ha=>by have:=h.b7 a ha;omega,by have:=h.b8;omega,fun a ha=>by have:=h.b9 a ha;omega,by have:=h.b10;omega,by have:=h.b11;omega⟩
theorem LtM.le {N M:Nat} {m:Ltr} (h:LtM N m) (hN:N≤M):LtM M m:=
 ⟨h.b1,h.b2,h.b3,Nat.le_trans h.b4 hN,h.b5,Nat.le_trans h.b6 hN,h.b7,Nat.le_trans h.b8 hN,h.b9,h.b10,h.b11⟩
section
variable {E:Envt}
theorem CloneA_ok (es:List (List PV)) (hn:es.length≤1000000):FCall Tryz.prog E 97 [.sl 2 es] tAdr 2 (·=es):=by
 unfold FCall
 refine gcallR mixed Tryz.func97 ck_slices_Clone_api_Address_api_Address ?_
 simp only [a0,l0,OS.ao,List.map_cons,List.map_nil,List.length_cons,List.length_nil,List.cons_append,List.nil_append,Nat.reduceSub,Nat.reduceAdd,List.replicate_succ,List.replicate_zero,ir_slices_Clone_api_Address_api_Address,rs_slices_Clone_api_Address_api_Address,ZZ,WW,Ze,reduceCtorEq,Nat.reduceAdd,Nat.reduceMul,Nat.reduceLeDiff,Nat.reduceLT,Nat.reduceEqDiff]
 intro b hb
 refine br ?_ ?_
 ·intro h
  have:=hb h
  simp only [ZZ,WW,Ze,reduceCtorEq,Nat.reduceAdd,Nat.reduceMul,Nat.reduceLeDiff,Nat.reduceLT,Nat.reduceEqDiff]
  exact fin_F 2 [] rfl rfl this.symm
 ·intro h
  simp only [ZZ,WW,Ze,reduceCtorEq,Nat.reduceAdd,Nat.reduceMul,Nat.reduceLeDiff,Nat.reduceLT,Nat.reduceEqDiff]
  exact ⟨by omega,fin_F 5 es rfl rfl rfl⟩
theorem Spoiled_ok (l:List Int) (k:Nat) (m:Ltr) (hm:LtM 100 m) (hk:k≤900000) (hl:l.length≤9223372036854775807) :
  SCall Tryz.prog E 28 T (stm l k) [.agg (ltV m)] (fun x cs'=>∃ m' k',x=.agg (ltV m')∧LtM 300 m'∧cs'=stm l k'∧k'≤k+5):=by
 have hM:=hm.le (M:=300) (by omega)
 unfold SCall
 refine gcallP mixed Tryz.func28 ck_chasemake_Stream_SpoiledLetter ?_
 simp only [a0,l0,OS.ao,List.map_cons,List.map_nil,List.length_cons,List.length_nil,List.cons_append,List.nil_append,Nat.reduceSub,Nat.reduceAdd,List.replicate_succ,List.replicate_zero,ir_chasemake_Stream_SpoiledLetter,rs_chasemake_Stream_SpoiledLetter,ZZ,WW,Ze,reduceCtorEq,Nat.reduceAdd,Nat.reduceMul,Nat.reduceLeDiff,Nat.reduceLT,Nat.reduceEqDiff]
 simp only [ltV,ZZ,WW,Ze,reduceCtorEq,Nat.reduceAdd,Nat.reduceMul,Nat.reduceLeDiff,Nat.reduceLT,Nat.reduceEqDiff]
 refine useS (Next_ok l k 9 (by omega) hl (by decide)) rfl rfl rfl zE_ ?_
 rintro x cs' ⟨y,rfl,rfl⟩
 generalize below y 9=c
 simp only [ZZ,WW,Ze,reduceCtorEq,Nat.reduceAdd,Nat.reduceMul,Nat.reduceLeDiff,Nat.reduceLT,Nat.reduceEqDiff]
 refine br ?_ ?_
 ·intro _
  simp only [ZZ,WW,Ze,reduceCtorEq,Nat.reduceAdd,Nat.reduceMul,Nat.reduceLeDiff,Nat.reduceLT,Nat.reduceEqDiff]
  refine use1 (RepeatG_ok [105] 80 (by omega) (by simp)) rfl (.inl rfl) ?_
  have g0:(Lib.repeatL [105] 80).length=80:=by rw [Lib.repeatL_length];rfl
  generalize Lib.repeatL [105] 80=r0 at g0 ⊢
  simp only [ZZ,WW,Ze,reduceCtorEq,Nat.reduceAdd,Nat.reduceMul,Nat.reduceLeDiff,Nat.reduceLT,Nat.reduceEqDiff]
  refine use1 (RepeatG_ok [105] 81 (by omega) (by simp)) rfl (.inl rfl) ?_
  have g1:(Lib.repeatL [105] 81).length=81:=by rw [Lib.repeatL_length];rfl
  generalize Lib.repeatL [105] 81=r1 at g1 ⊢
  simp only [ZZ,WW,Ze,reduceCtorEq,Nat.reduceAdd,Nat.reduceMul,Nat.reduceLeDiff,Nat.reduceLT,Nat.reduceEqDiff]
  refine useS (one_ok l (k+1) [[],[97,32,98],[60,120,62],r0,r1] (by omega) hl (by simp) (by simp)) rfl rfl rfl zE_ ?_
  rintro x cs' ⟨u,rfl,hu,rfl⟩
  have hu:u.length≤30000:=by simp only [List.mem_cons,List.not_mem_nil,or_false] at hu;rcases hu with rfl|rfl|rfl|rfl|rfl<;>first|omega|decide
  simp only [ZZ,WW,Ze,reduceCtorEq,Nat.reduceAdd,Nat.reduceMul,Nat.reduceLeDiff,Nat.reduceLT,Nat.reduceEqDiff]
  refine cut_same zE_ ?_
  simp only [ZZ,WW,Ze,reduceCtorEq,Nat.reduceAdd,Nat.reduceMul,Nat.reduceLeDiff,Nat.reduceLT,Nat.reduceEqDiff]
  exact fin_S (stm l (k+1+1)) rfl ⟨{ m with id:=u },_,rfl,⟨hu,hM.b2,hM.b3,hM.b4,hM.b5,hM.b6,hM.b7,hM.b8,hM.b9,hM.b10,hM.b11⟩,rfl,by omega⟩
 intro _
 simp only [ZZ,WW,Ze,reduceCtorEq,Nat.reduceAdd,Nat.reduceMul,Nat.reduceLeDiff,Nat.reduceLT,Nat.reduceEqDiff]
 refine br ?_ ?_
 ·intro _
  simp only [ZZ,WW,Ze,reduceCtorEq,Nat.reduceAdd,Nat.reduceMul,Nat.reduceLeDiff,Nat.reduceLT,Nat.reduceEqDiff]
  refine useS (Pick_ok l (k+1) [-1,5761440] (by omega) hl (by simp) (by simp)) rfl rfl rfl zE_ ?_
  rintro x cs' ⟨u,rfl,hu,rfl⟩
  simp only [ZZ,WW,Ze,reduceCtorEq,Nat.reduceAdd,Nat.reduceMul,Nat.reduceLeDiff,Nat.reduceLT,Nat.reduceEqDiff]
  refine cut_same zE_ ?_
  simp only [ZZ,WW,Ze,reduceCtorEq,Nat.reduceAdd,Nat.reduceMul,Nat.reduceLeDiff,Nat.reduceLT,Nat.reduceEqDiff]
  exact fin_S (stm l (k+1+1)) rfl ⟨{ m with at_:=u },_,rfl,⟨hM.b1,hM.b2,hM.b3,hM.b4,hM.b5,hM.b6,hM.b7,hM.b8,hM.b9,hM.b10,hM.b11⟩,rfl,by omega⟩
 intro _
 simp only [ZZ,WW,Ze,reduceCtorEq,Nat.reduceAdd,Nat.reduceMul,Nat.reduceLeDiff,Nat.reduceLT,Nat.reduceEqDiff]
 refine br ?_ ?_
 ·intro _
  simp only [ZZ,WW,Ze,reduceCtorEq,Nat.reduceAdd,Nat.reduceMul,Nat.reduceLeDiff,Nat.reduceLT,Nat.reduceEqDiff]
  refine useS (one_ok l (k+1) [[],[97,110,110],[65,110,110,64,98,46,100,101]] (by omega) hl (by simp) (by simp)) rfl rfl rfl zE_ ?_
  rintro x cs' ⟨u,rfl,hu,rfl⟩
  have hu:u.length≤30000:=by simp only [List.mem_cons,List.not_mem_nil,or_false] at hu;rcases hu with rfl|rfl|rfl<;>first|omega|decide
  simp only [ZZ,WW,Ze,reduceCtorEq,Nat.reduceAdd,Nat.reduceMul,Nat.reduceLeDiff,Nat.reduceLT,Nat.reduceEqDiff]
  refine cut_same zE_ ?_
  simp only [ZZ,WW,Ze,reduceCtorEq,Nat.reduceAdd,Nat.reduceMul,Nat.reduceLeDiff,Nat.reduceLT,Nat.reduceEqDiff]
  exact fin_S (stm l (k+1+1)) rfl ⟨{ m with fr:=(m.fr.1,u) },_,rfl,⟨hM.b1,hM.b2,hu,hM.b4,hM.b5,hM.b6,hM.b7,hM.b8,hM.b9,hM.b10,hM.b11⟩,rfl,by omega⟩
 intro _
 simp only [ZZ,WW,Ze,reduceCtorEq,Nat.reduceAdd,Nat.reduceMul,Nat.reduceLeDiff,Nat.reduceLT,Nat.reduceEqDiff]
 refine br ?_ ?_
 ·intro _
  simp only [ZZ,WW,Ze,reduceCtorEq,Nat.reduceAdd,Nat.reduceMul,Nat.reduceLeDiff,Nat.reduceLT,Nat.reduceEqDiff]
  refine use1 (RepeatG_ok [110] 61 (by omega) (by simp)) rfl (.inl rfl) ?_
  have g0:(Lib.repeatL [110] 61).length=61:=by rw [Lib.repeatL_length];rfl
  generalize Lib.repeatL [110] 61=r0 at g0 ⊢
  simp only [ZZ,WW,Ze,reduceCtorEq,Nat.reduceAdd,Nat.reduceMul,Nat.reduceLeDiff,Nat.reduceLT,Nat.reduceEqDiff]
  refine useS (one_ok l (k+1) [[32,120],[97,32,32,98],[97,34,98],r0] (by omega) hl (by simp) (by simp)) rfl rfl rfl zE_ ?_
  rintro x cs' ⟨u,rfl,hu,rfl⟩
  have hu:u.length≤30000:=by simp only [List.mem_cons,List.not_mem_nil,or_false] at hu;rcases hu with rfl|rfl|rfl|rfl<;>first|omega|decide
  simp only [ZZ,WW,Ze,reduceCtorEq,Nat.reduceAdd,Nat.reduceMul,Nat.reduceLeDiff,Nat.reduceLT,Nat.reduceEqDiff]
  refine cut_same zE_ ?_
  simp only [ZZ,WW,Ze,reduceCtorEq,Nat.reduceAdd,Nat.reduceMul,Nat.reduceLeDiff,Nat.reduceLT,Nat.reduceEqDiff]
  exact fin_S (stm l (k+1+1)) rfl ⟨{ m with fr:=(u,m.fr.2) },_,rfl,⟨hM.b1,hu,hM.b3,hM.b4,hM.b5,hM.b6,hM.b7,hM.b8,hM.b9,hM.b10,hM.b11⟩,rfl,by omega⟩
 intro _
 simp only [ZZ,WW,Ze,reduceCtorEq,Nat.reduceAdd,Nat.reduceMul,Nat.reduceLeDiff,Nat.reduceLT,Nat.reduceEqDiff]
 refine br ?_ ?_
 ·intro _
  simp only [ZZ,WW,Ze,reduceCtorEq,Nat.reduceAdd,Nat.reduceMul,Nat.reduceLeDiff,Nat.reduceLT,Nat.reduceEqDiff]
  refine useF (CloneA_ok (adrE m.tos) (by rw [adrE_len];have:=hm.b4;omega)) rfl rfl ?_
  rintro es rfl
  simp only [ZZ,WW,Ze,reduceCtorEq,Nat.reduceAdd,Nat.reduceMul,Nat.reduceLeDiff,Nat.reduceLT,Nat.reduceEqDiff]
  refine useS (one_ok l (k+1) [[97,110,110,64,102,105,114,109,46,100,101],[98,111,64,102,105,114,109,46,100,101],[]] (by omega) hl (by simp) (by simp)) rfl rfl rfl zE_ ?_
  rintro x cs' ⟨u,rfl,hu,rfl⟩
  have hu:u.length≤30000:=by simp only [List.mem_cons,List.not_mem_nil,or_false] at hu;rcases hu with rfl|rfl|rfl<;>first|omega|decide
  simp only [ZZ,WW,Ze,reduceCtorEq,Nat.reduceAdd,Nat.reduceMul,Nat.reduceLeDiff,Nat.reduceLT,Nat.reduceEqDiff]
  have g4:=hm.b4
  refine ⟨by rw [adrE_len];omega,?_⟩
  refine cut_re _ _ (re_row (k:=.l 47) rfl) ?_
  simp only [ZZ,WW,Ze,reduceCtorEq,Nat.reduceAdd,Nat.reduceMul,Nat.reduceLeDiff,Nat.reduceLT,Nat.reduceEqDiff]
  exact fin_S (stm l (k+1+1)) rfl ⟨{ m with tos:=m.tos++[([],u)] },_,by simp only [ltV,adrE,List.map_append];rfl,⟨hM.b1,hM.b2,hM.b3,(by simp;omega),(fun a ha=>by rcases List.mem_append.1 ha with ha|ha;exact hM.b5 a ha;rw [List.mem_singleton] at ha;subst ha;exact ⟨by simp,hu⟩),hM.b6,hM.b7,hM.b8,hM.b9,hM.b10,hM.b11⟩,rfl,by omega⟩
 intro _
 simp only [ZZ,WW,Ze,reduceCtorEq,Nat.reduceAdd,Nat.reduceMul,Nat.reduceLeDiff,Nat.reduceLT,Nat.reduceEqDiff]
 refine br ?_ ?_
 ·intro _
  simp only [ZZ,WW,Ze,reduceCtorEq,Nat.reduceAdd,Nat.reduceMul,Nat.reduceLeDiff,Nat.reduceLT,Nat.reduceEqDiff]
  refine drg1 (x1:=.sl 1 (strE m.refs)) ?_
  simp only [ZZ,WW,Ze,reduceCtorEq,Nat.reduceAdd,Nat.reduceMul,Nat.reduceLeDiff,Nat.reduceLT,Nat.reduceEqDiff]
  have g8:=hm.b8
  refine ⟨useFD (CloneS_ok (strE m.refs) (by rw [strE_len];omega)),?_⟩
  refine useD (one_ok l (k+1) [m.id,[103,111,110,101,49],[103,111,110,101,49],[]] (by omega) hl (by simp) (by simp)) ⟨_,_,m.id,rfl,by simp,rfl⟩ rfl rfl rfl zE_ (fun _=>⟨0,rfl⟩) ?_
  rintro x cs' ⟨u,rfl,hu,rfl⟩
  have hu:u.length≤30000:=by simp only [List.mem_cons,List.not_mem_nil,or_false] at hu;rcases hu with rfl|rfl|rfl|rfl<;>first|exact hM.b1|decide
  simp only [ZZ,WW,Ze,reduceCtorEq,Nat.reduceAdd,Nat.reduceMul,Nat.reduceLeDiff,Nat.reduceLT,Nat.reduceEqDiff]
  refine ⟨by rw [strE_len];omega,?_⟩
  refine cut_re _ _ (re_row (k:=.l 59) rfl) ?_
  simp only [ZZ,WW,Ze,reduceCtorEq,Nat.reduceAdd,Nat.reduceMul,Nat.reduceLeDiff,Nat.reduceLT,Nat.reduceEqDiff]
  exact fin_S (stm l (k+1+1)) rfl ⟨{ m with refs:=m.refs++[u] },_,by simp only [ltV,strE_app];rfl,⟨hM.b1,hM.b2,hM.b3,hM.b4,hM.b5,hM.b6,hM.b7,(by simp;have:=hm.b8;omega),(fun a ha=>by rcases List.mem_append.1 ha with ha|ha;exact hM.b9 a ha;rw [List.mem_singleton] at ha;subst ha;exact hu),hM.b10,hM.b11⟩,rfl,by omega⟩
 intro _
 simp only [ZZ,WW,Ze,reduceCtorEq,Nat.reduceAdd,Nat.reduceMul,Nat.reduceLeDiff,Nat.reduceLT,Nat.reduceEqDiff]
 refine br ?_ ?_
 ·intro _
  simp only [ZZ,WW,Ze,reduceCtorEq,Nat.reduceAdd,Nat.reduceMul,Nat.reduceLeDiff,Nat.reduceLT,Nat.reduceEqDiff]
  refine use1 (RepeatG_ok [115] 200 (by omega) (by simp)) rfl (.inl rfl) ?_
  have g0:(Lib.repeatL [115] 200).length=200:=by rw [Lib.repeatL_length];rfl
  generalize Lib.repeatL [115] 200=r0 at g0 ⊢
  simp only [ZZ,WW,Ze,reduceCtorEq,Nat.reduceAdd,Nat.reduceMul,Nat.reduceLeDiff,Nat.reduceLT,Nat.reduceEqDiff]
  refine use1 (RepeatG_ok [115] 201 (by omega) (by simp)) rfl (.inl rfl) ?_
  have g1:(Lib.repeatL [115] 201).length=201:=by rw [Lib.repeatL_length];rfl
  generalize Lib.repeatL [115] 201=r1 at g1 ⊢
  simp only [ZZ,WW,Ze,reduceCtorEq,Nat.reduceAdd,Nat.reduceMul,Nat.reduceLeDiff,Nat.reduceLT,Nat.reduceEqDiff]
  refine useS (one_ok l (k+1) [[32,120],[97,32,32,98],r0,r1,[97,9,98]] (by omega) hl (by simp) (by simp)) rfl rfl rfl zE_ ?_
  rintro x cs' ⟨u,rfl,hu,rfl⟩
  have hu:u.length≤30000:=by simp only [List.mem_cons,List.not_mem_nil,or_false] at hu;rcases hu with rfl|rfl|rfl|rfl|rfl<;>first|omega|decide
  simp only [ZZ,WW,Ze,reduceCtorEq,Nat.reduceAdd,Nat.reduceMul,Nat.reduceLeDiff,Nat.reduceLT,Nat.reduceEqDiff]
  refine cut_same zE_ ?_
  simp only [ZZ,WW,Ze,reduceCtorEq,Nat.reduceAdd,Nat.reduceMul,Nat.reduceLeDiff,Nat.reduceLT,Nat.reduceEqDiff]
  exact fin_S (stm l (k+1+1)) rfl ⟨{ m with sub:=u },_,rfl,⟨hM.b1,hM.b2,hM.b3,hM.b4,hM.b5,hM.b6,hM.b7,hM.b8,hM.b9,hu,hM.b11⟩,rfl,by omega⟩
 intro _
 simp only [ZZ,WW,Ze,reduceCtorEq,Nat.reduceAdd,Nat.reduceMul,Nat.reduceLeDiff,Nat.reduceLT,Nat.reduceEqDiff]
 refine br ?_ ?_
 ·intro _
  simp only [ZZ,WW,Ze,reduceCtorEq,Nat.reduceAdd,Nat.reduceMul,Nat.reduceLeDiff,Nat.reduceLT,Nat.reduceEqDiff]
  refine use1 (RepeatG_ok [98] 20000 (by omega) (by simp)) rfl (.inl rfl) ?_
  have g0:(Lib.repeatL [98] 20000).length=20000:=by rw [Lib.repeatL_length];rfl
  generalize Lib.repeatL [98] 20000=r0 at g0 ⊢
  simp only [ZZ,WW,Ze,reduceCtorEq,Nat.reduceAdd,Nat.reduceMul,Nat.reduceLeDiff,Nat.reduceLT,Nat.reduceEqDiff]
  refine ⟨by simp [g0],?_⟩
  refine useS (one_ok l (k+1) [[120],[97,9,98,10],[255,10],r0++[10]] (by omega) hl (by simp) (by simp)) rfl rfl rfl zE_ ?_
  rintro x cs' ⟨u,rfl,hu,rfl⟩
  have hu:u.length≤30000:=by simp only [List.mem_cons,List.not_mem_nil,or_false] at hu;rcases hu with rfl|rfl|rfl|rfl<;>first|decide|(rw [List.length_append,g0];decide)
  simp only [ZZ,WW,Ze,reduceCtorEq,Nat.reduceAdd,Nat.reduceMul,Nat.reduceLeDiff,Nat.reduceLT,Nat.reduceEqDiff]
  refine cut_same zE_ ?_
  simp only [ZZ,WW,Ze,reduceCtorEq,Nat.reduceAdd,Nat.reduceMul,Nat.reduceLeDiff,Nat.reduceLT,Nat.reduceEqDiff]
  exact fin_S (stm l (k+1+1)) rfl ⟨{ m with body:=u },_,rfl,⟨hM.b1,hM.b2,hM.b3,hM.b4,hM.b5,hM.b6,hM.b7,hM.b8,hM.b9,hM.b10,hu⟩,rfl,by omega⟩
 intro _
 simp only [ZZ,WW,Ze,reduceCtorEq,Nat.reduceAdd,Nat.reduceMul,Nat.reduceLeDiff,Nat.reduceLT,Nat.reduceEqDiff]
 refine drg1 (x1:=.sl 2 (adrE m.ccs)) ?_
 simp only [ZZ,WW,Ze,reduceCtorEq,Nat.reduceAdd,Nat.reduceMul,Nat.reduceLeDiff,Nat.reduceLT,Nat.reduceEqDiff]
 have g4:=hm.b4
 have g6:=hm.b6
 refine ⟨useFD (CloneA_ok (adrE m.ccs) (by rw [adrE_len];omega)),?_⟩
 refine ⟨by rw [adrE_len,adrE_len];omega,?_⟩
 refine cut_re _ _ (re_row (k:=.l 9) rfl) ?_
 simp only [ZZ,WW,Ze,reduceCtorEq,Nat.reduceAdd,Nat.reduceMul,Nat.reduceLeDiff,Nat.reduceLT,Nat.reduceEqDiff]
 exact fin_S (stm l (k+1)) rfl ⟨{ m with ccs:=m.ccs++m.tos },_,by simp only [ltV,adrE,List.map_append],⟨hM.b1,hM.b2,hM.b3,hM.b4,hM.b5,(by simp;have:=hm.b4;have:=hm.b6;omega),(fun a ha=>(List.mem_append.1 ha).elim (hM.b7 a) (hM.b5 a)),hM.b8,hM.b9,hM.b10,hM.b11⟩,rfl,by omega⟩
end
theorem join_bdW (l:List (List UInt8)) (sep:List UInt8) (m:Nat) (h:∀ x∈l,x.length≤m):(Lib.join l sep).length≤l.length * (m+sep.length):=by
 cases l with
 |nil=>simp [Lib.join_nil]
 |cons x r=>
  have:=lens_bd m (x :: r) h
  rw [Lib.join_length,Nat.mul_add]
  simp only [List.length_cons,List.length_nil] at *
  rw [Nat.succ_mul r.length sep.length,Nat.mul_comm r.length sep.length]
  omega
theorem ids_tail:∀ r:List (List UInt8),[62]++Lib.joinTail [32] (r.map fun x=>60 :: (x++[62]))=Lib.joinTail [62,32,60] r++[62]
 |[]=>rfl
 |y :: r=>by
  have ih:=ids_tail r
  have e1:Lib.joinTail [32] ((y :: r).map fun x=>60 :: (x++[62]))=[32]++(60 :: (y++[62]))++Lib.joinTail [32] (r.map fun x=>60 :: (x++[62])):=by simp [Lib.joinTail]
  have e2:Lib.joinTail [62,32,60] (y :: r)=[62,32,60]++y++Lib.joinTail [62,32,60] r:=by simp [Lib.joinTail]
  rw [e1,e2,List.append_assoc ([62,32,60]++y),← ih]
  simp
def idsT (l:List (List UInt8)):List UInt8:=60 :: (Lib.join l [62,32,60]++[62])
theorem ids_same (l:List (List UInt8)) (h:l≠[]):Lib.join (l.map fun x=>60 :: (x++[62])) [32]=idsT l:=by
 cases l with
 |nil=>exact absurd rfl h
 |cons x r=>
  have:=ids_tail r
  unfold idsT
  rw [List.map_cons,Lib.join_cons,Lib.join_cons,List.append_assoc x,← this]
  simp
def adsT (l:List AdT):List UInt8:=Lib.join (l.map fun a=>adT a.1 a.2) [44,32]
def fromT (a:AdT):List UInt8:=[70,114,111,109,58,32]++adT a.1 a.2++[10]
def toT (l:List AdT):List UInt8:=if l=[] then [] else [84,111,58,32]++adsT l++[10]
def ccT (l:List AdT):List UInt8:=if l=[] then [] else [67,99,58,32]++adsT l++[10]
theorem adT_len (a:AdT) (h1:a.1.length≤30000) (h2:a.2.length≤30000):(adT a.1 a.2).length≤60003:=by
 unfold adT
 split
 ·omega
 ·simp;omega
theorem adsT_len {N:Nat} {l:List AdT} (hl:l.length≤N) (hN:N≤1000) (hb:∀ a∈l,a.1.length≤30000∧a.2.length≤30000):(adsT l).length≤70000000:=by
 have h:=join_bdW (l.map fun a=>adT a.1 a.2) [44,32] 60003 (fun x hx=>by
  obtain ⟨a,ha,rfl⟩:=List.mem_map.1 hx
  exact adT_len a (hb a ha).1 (hb a ha).2)
 rw [List.length_map] at h
 have:l.length * (60003+([44,32]:List UInt8).length)≤1000 * 60005:=Nat.mul_le_mul (by omega) (by simp)
 unfold adsT
 omega
theorem idsT_len {N:Nat} {l:List (List UInt8)} (hl:l.length≤N) (hN:N≤1000) (hb:∀ r∈l,r.length≤30000):(idsT l).length≤40000000:=by
 have h:=join_bdW l [62,32,60] 30000 hb
 have:l.length * (30000+([62,32,60]:List UInt8).length)≤1000 * 30003:=Nat.mul_le_mul (by omega) (by simp)
 unfold idsT
 simp only [List.length_cons,List.length_append,List.length_nil]
 omega
def ir_thread_Print_1_L0:IC:=(.seq (.reg [qO 9 (.bin .lss (.t 8) (.t 7))]) (.seq (.cond (.t 9) .skip (.exit 0)) (.seq (.block 1 (.seq (.reg [qO 10 (.ixa 2 (.t 6) (.t 8)),qO 11 (.ld 2 true (.t 10)),qO 5 (.alc 56 [.str [],.str []]),⟨none,.st 2 (.t 5) (.t 11),none⟩]) (.reg [qM 12 3,qO 13 (.ld 2 true (.t 5)),qO 14 (.call 111 [.t 13]),qO 15 (.bsl 1 [.t 14]),qO 16 (.app 9 1 16 (.t 12) (.t 15)),qM 3 16]))) (.reg [qO 17 (.bin .add (.t 8) (.c (.int .i64 1))),qM 8 17]))))
def ir_thread_Print_1:IC:=(.seq (.reg [qO 2 (.mov (.c (.str [])))]) (.seq (.reg [qO 3 (.nilr 9 1)]) (.seq (.seq (.reg [qM 6 0,qO 7 (.len (.t 6)),qO 8 (.mov (.c (.int .i64 0)))]) (.block 0 (.loop ir_thread_Print_1_L0))) (.seq (.reg [qM 18 3,qO 19 (.call 95 [.t 18,.c (.str [44,32])]),qM 2 19]) .ret))))
def rs_thread_Print_1:List IRes:=[.t 2]
theorem ck_thread_Print_1:chkF Tryz.prog Tryz.f110 ir_thread_Print_1 rs_thread_Print_1 20=true:=by kernel_rfl
def ir_thread_ids:IC:=(.seq (.reg [qO 2 (.mov (.c (.str [])))]) (.seq (.reg [qM 3 0,qO 4 (.call 95 [.t 3,.c (.str [62,32,60])]),qO 5 (.bin .add (.c (.str [60])) (.t 4)),qO 6 (.bin .add (.t 5) (.c (.str [62]))),qM 2 6]) .ret))
def rs_thread_ids:List IRes:=[.t 2]
theorem ck_thread_ids:chkF Tryz.prog Tryz.f113 ir_thread_ids rs_thread_ids 7=true:=by kernel_rfl
def ir_chaseref1_idList_L0:IC:=(.seq (.reg [qO 9 (.bin .lss (.t 8) (.t 7))]) (.seq (.cond (.t 9) .skip (.exit 0)) (.seq (.block 1 (.seq (.reg [qO 10 (.ixa 1 (.t 6) (.t 8)),qO 11 (.ld 1 false (.t 10)),qM 5 11]) (.reg [qM 12 3,qM 13 5,qO 14 (.bin .add (.c (.str [60])) (.t 13)),qO 15 (.bin .add (.t 14) (.c (.str [62]))),qO 16 (.bsl 1 [.t 15]),qO 17 (.app 9 1 16 (.t 12) (.t 16)),qM 3 17]))) (.reg [qO 18 (.bin .add (.t 8) (.c (.int .i64 1))),qM 8 18]))))
def ir_chaseref1_idList:IC:=(.seq (.reg [qO 2 (.mov (.c (.str [])))]) (.seq (.reg [qO 3 (.nilr 9 1)]) (.seq (.seq (.reg [qM 6 0,qO 7 (.len (.t 6)),qO 8 (.mov (.c (.int .i64 0)))]) (.block 0 (.loop ir_chaseref1_idList_L0))) (.seq (.reg [qM 19 3,qO 20 (.call 95 [.t 19,.c (.str [32])]),qM 2 20]) .ret))))
def rs_chaseref1_idList:List IRes:=[.t 2]
theorem ck_chaseref1_idList:chkF Tryz.prog Tryz.f120 ir_chaseref1_idList rs_chaseref1_idList 21=true:=by kernel_rfl
section
variable {E:Envt}
theorem PrintList_ok (l:List AdT) (hl:l.length≤1000) (hb:∀ a∈l,a.1.length≤30000∧a.2.length≤30000):PCall Tryz.prog E 110 [.sl 2 (adrE l)] (·=.str (adsT l)):=by
 have hj:=adsT_len hl (Nat.le_refl _) hb
 refine pcallF mixed Tryz.func110 ck_thread_Print_1 ?_
 simp only [a0,l0,OS.ao,List.map_cons,List.map_nil,List.length_cons,List.length_nil,List.cons_append,List.nil_append,Nat.reduceSub,Nat.reduceAdd,List.replicate_succ,List.replicate_zero,ir_thread_Print_1,rs_thread_Print_1,ZZ,WW,Ze,reduceCtorEq,Nat.reduceAdd,Nat.reduceMul,Nat.reduceLeDiff,Nat.reduceLT,Nat.reduceEqDiff]
 have hR0:([]:List (List PV))=strE ((l.take 0).map fun a=>adT a.1 a.2):=rfl
 simp only [ZZ,WW,Ze,reduceCtorEq,Nat.reduceAdd,Nat.reduceMul,Nat.reduceLeDiff,Nat.reduceLT,Nat.reduceEqDiff,adrE_len]
 rw [hR0]
 refine loop_intro (fun n fr L=>∃ (k:Nat),k≤l.length∧n=l.length - k∧fr=[oo,oo,oo,.row (.l 3),oo,oo,.p (.sl 2 (adrE l)),.p (int (l.length:Nat)),.p (int (k:Nat)),oo,oo,oo,oo,oo,oo,oo,oo,oo,oo,oo]∧L=[(.l 3,.row (strE ((l.take k).map fun a=>adT a.1 a.2)) 9 1 true)]) (l.length) [oo,oo,oo,.row (.l 3),oo,oo,.p (.sl 2 (adrE l)),.p (int (l.length:Nat)),.p (int (0:Nat)),oo,oo,oo,oo,oo,oo,oo,oo,oo,oo,oo] [(.l 3,.row (strE ((l.take 0).map fun a=>adT a.1 a.2)) 9 1 true)] (by simp only [ZZ,WW,Ze,reduceCtorEq,Nat.reduceAdd,Nat.reduceMul,Nat.reduceLeDiff,Nat.reduceLT,Nat.reduceEqDiff,adrE_len];try trivial) (by (simp only [ZZ,WW,Ze,reduceCtorEq,Nat.reduceAdd,Nat.reduceMul,Nat.reduceLeDiff,Nat.reduceLT,Nat.reduceEqDiff];try trivial)) ⟨0,by omega,by omega,rfl,rfl⟩ ?_
 rintro n fr L ⟨k,hk,rfl,rfl,rfl⟩
 simp only [ir_thread_Print_1_L0,ZZ,WW,Ze,reduceCtorEq,Nat.reduceAdd,Nat.reduceMul,Nat.reduceLeDiff,Nat.reduceLT,Nat.reduceEqDiff]
 refine br ?_ ?_
 ·intro h
  have hlt:k < l.length:=by have:=of_decide_eq_true h;omega
  obtain ⟨x,hx⟩:∃ x,l[k]?=some x:=⟨_,List.getElem?_eq_getElem hlt⟩
  have hg:=adrE_get hx
  have hbx:=hb x (List.mem_of_getElem? hx)
  have hq:strE ((l.take k).map fun a=>adT a.1 a.2)++[[PV.str (adT x.1 x.2)]]=strE ((l.take (k+1)).map fun a=>adT a.1 a.2):=by rw [map_take_succ _ hx,strE_app];rfl
  simp only [ZZ,WW,Ze,reduceCtorEq,Nat.reduceAdd,Nat.reduceMul,Nat.reduceLeDiff,Nat.reduceLT,Nat.reduceEqDiff,hg,adrE_len]
  ((repeat' (with_reducible apply And.intro))<;>try ((exact sc_)))
  refine use1 (printed_ok x.1 x.2 (by omega) (by omega)) rfl (.inl rfl) ?_
  simp only [ZZ,WW,Ze,reduceCtorEq,Nat.reduceAdd,Nat.reduceMul,Nat.reduceLeDiff,Nat.reduceLT,Nat.reduceEqDiff,strE_len]
  ((repeat' (with_reducible apply And.intro))<;>try ((exact sc_)))
  rw [hq]
  refine end_round (l.length - (k+1)) [oo,oo,oo,.row (.l 3),oo,oo,.p (.sl 2 (adrE l)),.p (int (l.length:Nat)),.p (int ((k+1):Nat)),oo,oo,oo,oo,oo,oo,oo,oo,oo,oo,oo] [(.l 3,.row (strE ((l.take (k+1)).map fun a=>adT a.1 a.2)) 9 1 true)] (by omega) (by (simp only [ZZ,WW,Ze,reduceCtorEq,Nat.reduceAdd,Nat.reduceMul,Nat.reduceLeDiff,Nat.reduceLT,Nat.reduceEqDiff];try trivial)) (by (simp only [ZZ,WW,Ze,reduceCtorEq,Nat.reduceAdd,Nat.reduceMul,Nat.reduceLeDiff,Nat.reduceLT,Nat.reduceEqDiff];try trivial)) ⟨k+1,by omega,rfl,rfl,rfl⟩
 intro h
 have hge:l.length≤k:=by have:=of_decide_eq_false h;omega
 rw [List.take_of_length_le hge]
 simp only [ZZ,WW,Ze,reduceCtorEq,Nat.reduceAdd,Nat.reduceMul,Nat.reduceLeDiff,Nat.reduceLT,Nat.reduceEqDiff]
 refine use1 (Join_ok (l.map fun a=>adT a.1 a.2) [44,32] (by simp;omega) (by unfold adsT at hj;omega)) rfl (.inr rfl) ?_
 simp only [ZZ,WW,Ze,reduceCtorEq,Nat.reduceAdd,Nat.reduceMul,Nat.reduceLeDiff,Nat.reduceLT,Nat.reduceEqDiff]
 rfl
theorem ids_ok (l:List (List UInt8)) (hl:l.length≤1000) (hb:∀ r∈l,r.length≤30000):PCall Tryz.prog E 113 [.sl 1 (strE l)] (·=.str (idsT l)):=by
 have hj:=idsT_len hl (Nat.le_refl _) hb
 have hj2:(Lib.join l [62,32,60]).length≤40000000:=by unfold idsT at hj;simp only [List.length_cons,List.length_append] at hj;omega
 refine pcallF mixed Tryz.func113 ck_thread_ids ?_
 simp only [a0,l0,OS.ao,List.map_cons,List.map_nil,List.length_cons,List.length_nil,List.cons_append,List.nil_append,Nat.reduceSub,Nat.reduceAdd,List.replicate_succ,List.replicate_zero,ir_thread_ids,rs_thread_ids,ZZ,WW,Ze,reduceCtorEq,Nat.reduceAdd,Nat.reduceMul,Nat.reduceLeDiff,Nat.reduceLT,Nat.reduceEqDiff]
 refine use1 (Join_ok l [62,32,60] (by omega) (by omega)) rfl (.inl rfl) ?_
 simp only [ZZ,WW,Ze,reduceCtorEq,Nat.reduceAdd,Nat.reduceMul,Nat.reduceLeDiff,Nat.reduceLT,Nat.reduceEqDiff]
 ((repeat' (with_reducible apply And.intro))<;>try ((exact sc_)))
theorem idList_ok (l:List (List UInt8)) (hl:l.length≤1000) (hb:∀ r∈l,r.length≤30000) (hn:l≠[]):PCall Tryz.prog E 120 [.sl 1 (strE l)] (·=.str (idsT l)):=by
 have hj:=idsT_len hl (Nat.le_refl _) hb
 rw [← ids_same l hn] at hj ⊢
 refine pcallF mixed Tryz.func120 ck_chaseref1_idList ?_
 simp only [a0,l0,OS.ao,List.map_cons,List.map_nil,List.length_cons,List.length_nil,List.cons_append,List.nil_append,Nat.reduceSub,Nat.reduceAdd,List.replicate_succ,List.replicate_zero,ir_chaseref1_idList,rs_chaseref1_idList,ZZ,WW,Ze,reduceCtorEq,Nat.reduceAdd,Nat.reduceMul,Nat.reduceLeDiff,Nat.reduceLT,Nat.reduceEqDiff]
 have hR0:([]:List (List PV))=strE ((l.take 0).map fun x=>60 :: (x++[62])):=rfl
 simp only [ZZ,WW,Ze,reduceCtorEq,Nat.reduceAdd,Nat.reduceMul,Nat.reduceLeDiff,Nat.reduceLT,Nat.reduceEqDiff,strE_len]
 rw [hR0]
 refine loop_intro (fun n fr L=>∃ (k:Nat),k≤l.length∧n=l.length - k∧fr=[oo,oo,oo,.row (.l 3),oo,oo,.p (.sl 1 (strE l)),.p (int (l.length:Nat)),.p (int (k:Nat)),oo,oo,oo,oo,oo,oo,oo,oo,oo,oo,oo,oo]∧L=[(.l 3,.row (strE ((l.take k).map fun x=>60 :: (x++[62]))) 9 1 true)]) (l.length) [oo,oo,oo,.row (.l 3),oo,oo,.p (.sl 1 (strE l)),.p (int (l.length:Nat)),.p (int (0:Nat)),oo,oo,oo,oo,oo,oo,oo,oo,oo,oo,oo,oo] [(.l 3,.row (strE ((l.take 0).map fun x=>60 :: (x++[62]))) 9 1 true)] (by simp only [ZZ,WW,Ze,reduceCtorEq,Nat.reduceAdd,Nat.reduceMul,Nat.reduceLeDiff,Nat.reduceLT,Nat.reduceEqDiff,strE_len];try trivial) (by (simp only [ZZ,WW,Ze,reduceCtorEq,Nat.reduceAdd,Nat.reduceMul,Nat.reduceLeDiff,Nat.reduceLT,Nat.reduceEqDiff];try trivial)) ⟨0,by omega,by omega,rfl,rfl⟩ ?_
 rintro n fr L ⟨k,hk,rfl,rfl,rfl⟩
 simp only [ir_chaseref1_idList_L0,ZZ,WW,Ze,reduceCtorEq,Nat.reduceAdd,Nat.reduceMul,Nat.reduceLeDiff,Nat.reduceLT,Nat.reduceEqDiff]
 refine br ?_ ?_
 ·intro h
  have hlt:k < l.length:=by have:=of_decide_eq_true h;omega
  obtain ⟨x,hx⟩:∃ x,l[k]?=some x:=⟨_,List.getElem?_eq_getElem hlt⟩
  have hg:=strE_get hx
  have hbx:=hb x (List.mem_of_getElem? hx)
  have hq:strE ((l.take k).map fun x=>60 :: (x++[62]))++[[PV.str (60 :: (x++[62]))]]=strE ((l.take (k+1)).map fun x=>60 :: (x++[62])):=by rw [map_take_succ _ hx,strE_app];rfl
  simp only [ZZ,WW,Ze,reduceCtorEq,Nat.reduceAdd,Nat.reduceMul,Nat.reduceLeDiff,Nat.reduceLT,Nat.reduceEqDiff,hg,strE_len]
  ((repeat' (with_reducible apply And.intro))<;>try ((exact sc_)))
  rw [hq]
  refine end_round (l.length - (k+1)) [oo,oo,oo,.row (.l 3),oo,oo,.p (.sl 1 (strE l)),.p (int (l.length:Nat)),.p (int ((k+1):Nat)),oo,oo,oo,oo,oo,oo,oo,oo,oo,oo,oo,oo] [(.l 3,.row (strE ((l.take (k+1)).map fun x=>60 :: (x++[62]))) 9 1 true)] (by omega) (by (simp only [ZZ,WW,Ze,reduceCtorEq,Nat.reduceAdd,Nat.reduceMul,Nat.reduceLeDiff,Nat.reduceLT,Nat.reduceEqDiff];try trivial)) (by (simp only [ZZ,WW,Ze,reduceCtorEq,Nat.reduceAdd,Nat.reduceMul,Nat.reduceLeDiff,Nat.reduceLT,Nat.reduceEqDiff];try trivial)) ⟨k+1,by omega,rfl,rfl,rfl⟩
 intro h
 have hge:l.length≤k:=by have:=of_decide_eq_false h;omega
 rw [List.take_of_length_le hge]
 simp only [ZZ,WW,Ze,reduceCtorEq,Nat.reduceAdd,Nat.reduceMul,Nat.reduceLeDiff,Nat.reduceLT,Nat.reduceEqDiff]
 refine use1 (Join_ok (l.map fun x=>60 :: (x++[62])) [32] (by simp;omega) (by omega)) rfl (.inr rfl) ?_
 simp only [ZZ,WW,Ze,reduceCtorEq,Nat.reduceAdd,Nat.reduceMul,Nat.reduceLeDiff,Nat.reduceLT,Nat.reduceEqDiff]
end
section
variable {E:Envt}
end
def dd:Nat→Nat→List UInt8
 |0,_=>[]
 |f+1,u=>if u < 10 then [UInt8.ofNat (48+u)] else dd f (u / 10)++[UInt8.ofNat (48+u % 10)]
theorem dd_eq:∀ (f u:Nat),u < 10 ^ f→0 < f→Lib.decDigits u=dd f u
 |0,u,_,h=>absurd h (by decide)
 |f+1,u,h,_=>by
  rw [Lib.decDigits,dd]
  by_cases hu:u < 10
  ·rw [dif_pos hu,if_pos hu]
  ·rw [dif_neg hu,if_neg hu]
   have hf:0 < f:=by
    rcases Nat.eq_zero_or_pos f with rfl|h'
    ·simp at h;omega
    ·exact h'
   rw [dd_eq f (u / 10) (by rw [Nat.pow_succ] at h;omega) hf]
def itD (n:Int):List UInt8:=if n < 0 then 45 :: dd 12 n.natAbs else dd 12 n.toNat
theorem itD_eq {n:Int} (h0:-100000000000≤n) (h1:n≤100000000000):Lib.itoa n=itD n:=by
 unfold Lib.itoa itD
 split
 ·rw [dd_eq 12 _ (by omega) (by decide)]
 ·rw [dd_eq 12 _ (by omega) (by decide)]
def N7:List Int:=[1,7,9999,10000,999999999,0,-1]
theorem var_block6 {P:Program} {w w':World} {n:String} {g:Nat} (hg:P.globalNamed n=some g) (hb:w'.heap[g]?=w.heap[g]?):w'.var? P n=w.var? P n:=by
 simp only [World.var?,hg,Option.bind_some,hb]
def E6:Envt where
 ok w:=E0.ok w∧Lib.TabIs Tryz.prog w "internal/strconv.uint64pow10" .u64 Lib.pow10Tab∧Lib.TabIs Tryz.prog w "strings.asciiSpace" .u8 Lib.asciiSpaceTab
 bl b:=E0.bl b∨b=5∨b=0
 mono w w' hb h:=⟨E0.mono w w' (fun b hbb=>hb b (.inl hbb)) h.1,(var_block6 (by kernel_rfl) (hb _ (.inr (.inl rfl)))).trans h.2.1,(var_block6 (by kernel_rfl) (hb _ (.inr (.inr rfl)))).trans h.2.2⟩
theorem up6 {f:FuncId} {args:List PV} {φ:PV→Prop} (h:PCall Tryz.prog E0 f args φ):PCall Tryz.prog E6 f args φ:=fun w U vs hU hE hEb hA=>h w U vs hU hE.1 (fun c hc=>hEb c (.inl hc)) hA
theorem repE_fl6 {w:World} {U:Nat→Prop} {b:Nat}:∀ (l:List (List UInt8)) (off:Nat),(∀ i x,l[i]?=some x→w.cell? ⟨b,off+i,none⟩=some (.string ⟨x.toArray⟩))→PRepE w U b 1 off (strE l)
 |[],off,h=>trivial
 |x :: r,off,h=>by
  refine ⟨rfl,⟨⟨.string ⟨x.toArray⟩,by simpa using h 0 _ rfl,rfl,rfl⟩,trivial⟩,repE_fl6 r (off+1) fun i u hu=>?_⟩
  have:=h (i+1) u (by simpa using hu)
  rwa [show off+(i+1)=off+1+i from by omega] at this
theorem Fields6_ok (s:List UInt8) (hs:s.length≤1000000) (ha:s.all (fun b=>decide (b.toNat < 128))=true):PCall Tryz.prog E6 96 [.str s] (·=.sl 1 (strE (Lib.fields s))):=by
 intro w U vs hU hE hEb hA
 have:vs=[.string ⟨s.toArray⟩]:=(PRepL.valD rfl).1 hA
 subst this
 have hdt:(⟨s.toArray⟩:ByteArray).data.toList=s:=by simp
 refine (Any.strings_Fields_laid Tryz.layFields ⟨s.toArray⟩ w (by rw [ba_size];omega) (fun j b hb=>of_decide_eq_true (List.all_eq_true.1 ha b (List.mem_of_getElem? (by simpa using hb)))) hE.2.2).mono ?_
 rw [hdt]
 rintro e w' ⟨rfl,rfl⟩
 refine ⟨_,_,rfl,rfl,?_,⟨rfl,rfl,rfl,by simp,fun k hk _=>Lib.alloc_old w _ k hk⟩⟩
 refine ⟨some ⟨w.heap.size,0,none⟩,(Lib.fields s).length,by rw [strE_len],by rw [strE_len];exact Nat.le_refl _,fun _=>⟨w.heap.size,0,rfl,by simp,fun h=>by have:=hU _ h;omega,?_⟩⟩
 refine repE_fl6 _ 0 fun i x hx=>?_
 rw [Lib.cell_of_heap (heap_alloc_new w _)]
 simp [hx]
def ir_chaseref1_dayNames:IC:=(.seq (.reg [qO 0 (.mov (.c (.nl 1)))]) (.seq (.reg [qO 1 (.call 96 [.c (.str [77,111,110,32,84,117,101,32,87,101,100,32,84,104,117,32,70,114,105,32,83,97,116,32,83,117,110])]),qM 0 1]) .ret))
def rs_chaseref1_dayNames:List IRes:=[.t 0]
theorem ck_chaseref1_dayNames:chkF Tryz.prog Tryz.f195 ir_chaseref1_dayNames rs_chaseref1_dayNames 2=true:=by kernel_rfl
def ir_chaseref1_monthNames:IC:=(.seq (.reg [qO 0 (.mov (.c (.nl 1)))]) (.seq (.reg [qO 1 (.call 96 [.c (.str [74,97,110,32,70,101,98,32,77,97,114,32,65,112,114,32,77,97,121,32,74,117,110,32,74,117,108,32,65,117,103,32,83,101,112,32,79,99,116,32,78,111,118,32,68,101,99])]),qM 0 1]) .ret))
def rs_chaseref1_monthNames:List IRes:=[.t 0]
theorem ck_chaseref1_monthNames:chkF Tryz.prog Tryz.f196 ir_chaseref1_monthNames rs_chaseref1_monthNames 2=true:=by kernel_rfl
def ir_thread_two:IC:=(.seq (.reg [qO 2 (.mov (.c (.str [])))]) (.seq (.reg [qM 3 0,qO 4 (.bin .add (.c (.int .i64 100)) (.t 3)),qO 5 (.call 188 [.t 4]),qO 6 (.ssl (.t 5) (some (.c (.int .i64 1))) none),qM 2 6]) .ret))
def rs_thread_two:List IRes:=[.t 2]
theorem ck_thread_two:chkF Tryz.prog Tryz.f189 ir_thread_two rs_thread_two 7=true:=by kernel_rfl
def ir_chaseref1_two:IC:=(.seq (.reg [qO 2 (.mov (.c (.str [])))]) (.seq (.reg [qM 3 0,qO 4 (.bin .quo (.t 3) (.c (.int .i64 10))),qO 5 (.bin .rem (.t 4) (.c (.int .i64 10))),qO 6 (.bin .add (.c (.int .i64 48)) (.t 5)),qO 7 (.cvi .u8 (.t 6)),qM 8 0,qO 9 (.bin .rem (.t 8) (.c (.int .i64 10))),qO 10 (.bin .add (.c (.int .i64 48)) (.t 9)),qO 11 (.cvi .u8 (.t 10)),qO 12 (.bsl 1 [.t 7,.t 11]),qO 13 (.b2s (.t 12)),qM 2 13]) .ret))
def rs_chaseref1_two:List IRes:=[.t 2]
theorem ck_chaseref1_two:chkF Tryz.prog Tryz.f197 ir_chaseref1_two rs_chaseref1_two 14=true:=by kernel_rfl
theorem grow_seqV (w:World) (k:Nat) (os:Array Obj):Grow w (Sort.grow (w.drewN k) os) (fun _=>False):=⟨rfl,rfl,rfl,by simp [Sort.grow,World.drewN],fun b hb _=>by simp [Sort.grow,World.drewN,Array.getElem?_append_left hb]⟩
theorem Itoa_ok6 (n:Int) (h0:-9223372036854775808≤n) (h1:n≤9223372036854775807):PCall Tryz.prog E6 188 [int n] (·=.str (Lib.itoa n)):=
 pcall_flat rfl rfl fun w hE=>(Any.strconv_Itoa Tryz.layItoa n h0 h1 w hE.2.1).mono fun e w' h=>⟨h.1,by obtain ⟨k,os,rfl⟩:=h.2;exact grow_seqV w k os⟩
def dayL:List (List UInt8):=[[77,111,110],[84,117,101],[87,101,100],[84,104,117],[70,114,105],[83,97,116],[83,117,110]]
def monL:List (List UInt8):=[[74,97,110],[70,101,98],[77,97,114],[65,112,114],[77,97,121],[74,117,110],[74,117,108],[65,117,103],[83,101,112],[79,99,116],[78,111,118],[68,101,99]]
theorem day_fields:Lib.fields [77,111,110,32,84,117,101,32,87,101,100,32,84,104,117,32,70,114,105,32,83,97,116,32,83,117,110]=dayL:=by decide +kernel
theorem mon_fields:Lib.fields [74,97,110,32,70,101,98,32,77,97,114,32,65,112,114,32,77,97,121,32,74,117,110,32,74,117,108,32,65,117,103,32,83,101,112,32,79,99,116,32,78,111,118,32,68,101,99]=monL:=by decide +kernel
theorem dayNames_ok:PCall Tryz.prog E6 195 [] (·=.sl 1 (strE dayL)):=by
 refine pcallF mixed Tryz.func195 ck_chaseref1_dayNames ?_
 simp only [a0,l0,OS.ao,List.map_cons,List.map_nil,List.length_cons,List.length_nil,List.cons_append,List.nil_append,Nat.reduceSub,Nat.reduceAdd,List.replicate_succ,List.replicate_zero,ir_chaseref1_dayNames,rs_chaseref1_dayNames,ZZ,WW,Ze,reduceCtorEq,Nat.reduceAdd,Nat.reduceMul,Nat.reduceLeDiff,Nat.reduceLT,Nat.reduceEqDiff]
 refine use1 (Fields6_ok _ (by decide) (by decide)) rfl (.inl rfl) ?_
 rw [day_fields]
 simp only [ZZ,WW,Ze,reduceCtorEq,Nat.reduceAdd,Nat.reduceMul,Nat.reduceLeDiff,Nat.reduceLT,Nat.reduceEqDiff]
theorem monthNames_ok:PCall Tryz.prog E6 196 [] (·=.sl 1 (strE monL)):=by
 refine pcallF mixed Tryz.func196 ck_chaseref1_monthNames ?_
 simp only [a0,l0,OS.ao,List.map_cons,List.map_nil,List.length_cons,List.length_nil,List.cons_append,List.nil_append,Nat.reduceSub,Nat.reduceAdd,List.replicate_succ,List.replicate_zero,ir_chaseref1_monthNames,rs_chaseref1_monthNames,ZZ,WW,Ze,reduceCtorEq,Nat.reduceAdd,Nat.reduceMul,Nat.reduceLeDiff,Nat.reduceLT,Nat.reduceEqDiff]
 refine use1 (Fields6_ok _ (by decide) (by decide)) rfl (.inl rfl) ?_
 rw [mon_fields]
 simp only [ZZ,WW,Ze,reduceCtorEq,Nat.reduceAdd,Nat.reduceMul,Nat.reduceLeDiff,Nat.reduceLT,Nat.reduceEqDiff]
def twoS (n:Nat):List UInt8:=[UInt8.ofNat (48+n / 10),UInt8.ofNat (48+n % 10)]
theorem two_fin:∀ n:Fin 100,(itD (100+(n.val:Int))).drop 1=twoS n.val:=by decide +kernel
theorem two_ok (n:Nat) (h:n < 100):PCall Tryz.prog E6 189 [int (n:Nat)] (·=.str (twoS n)):=by
 refine pcallF mixed Tryz.func189 ck_thread_two ?_
 simp only [a0,l0,OS.ao,List.map_cons,List.map_nil,List.length_cons,List.length_nil,List.cons_append,List.nil_append,Nat.reduceSub,Nat.reduceAdd,List.replicate_succ,List.replicate_zero,ir_thread_two,rs_thread_two,ZZ,WW,Ze,reduceCtorEq,Nat.reduceAdd,Nat.reduceMul,Nat.reduceLeDiff,Nat.reduceLT,Nat.reduceEqDiff]
 ((repeat' (with_reducible apply And.intro))<;>try ((exact sc_)))
 refine use1 (Itoa_ok6 (100+(n:Nat)) (by omega) (by omega)) rfl (.inl rfl) ?_
 rw [itD_eq (by omega) (by omega)]
 have e:=two_fin ⟨n,h⟩
 have hl:1≤(itD (100+(n:Int))).length:=by
  have:=congrArg List.length e
  rw [List.length_drop] at this
  simp [twoS] at this
  omega
 have e1:(1:Int).toNat=1:=rfl
 simp only [ZZ,WW,Ze,reduceCtorEq,Nat.reduceAdd,Nat.reduceMul,Nat.reduceLeDiff,Nat.reduceLT,Nat.reduceEqDiff,List.take_length,e1]
 ((repeat' (with_reducible apply And.intro))<;>try ((exact sc_)))
 exact congrArg PV.str e
theorem wrap48:∀ a:Fin 10,IntKind.u8.wrap (48+((a.val:Nat):Int))=((UInt8.ofNat (48+a.val)).toNat:Nat):=by decide +kernel
theorem wrap48' (a:Nat) (h:a < 10):IntKind.u8.wrap (48+((a:Nat):Int))=((UInt8.ofNat (48+a)).toNat:Nat):=wrap48 ⟨a,h⟩
theorem twoR_ok {E:Envt} (n:Nat) (h:n < 100):PCall Tryz.prog E 197 [int (n:Nat)] (·=.str (twoS n)):=by
 have d1:((n:Nat):Int).tdiv 10=((n / 10:Nat):Int):=by rw [Int.tdiv_eq_ediv_of_nonneg (by omega)];rfl
 have d2:((n / 10:Nat):Int).tmod 10=((n / 10:Nat):Int):=by rw [Int.tmod_eq_emod_of_nonneg (by omega)];omega
 have d3:((n:Nat):Int).tmod 10=((n % 10:Nat):Int):=by rw [Int.tmod_eq_emod_of_nonneg (by omega)];rfl
 have w1:=wrap48' (n / 10) (by omega)
 have w2:=wrap48' (n % 10) (by omega)
 refine pcallF mixed Tryz.func197 ck_chaseref1_two ?_
 simp only [a0,l0,OS.ao,List.map_cons,List.map_nil,List.length_cons,List.length_nil,List.cons_append,List.nil_append,Nat.reduceSub,Nat.reduceAdd,List.replicate_succ,List.replicate_zero,ir_chaseref1_two,rs_chaseref1_two,ZZ,WW,Ze,reduceCtorEq,Nat.reduceAdd,Nat.reduceMul,Nat.reduceLeDiff,Nat.reduceLT,Nat.reduceEqDiff]
 have hb:bytesP [[PV.int .u8 ((UInt8.ofNat (48+n / 10)).toNat:Nat)],[PV.int .u8 ((UInt8.ofNat (48+n % 10)).toNat:Nat)]]=some (twoS n):=by
  simp only [bytesP,Option.map_some,Int.toNat_natCast,UInt8.ofNat_toNat]
  rfl
 simp only [ZZ,WW,Ze,reduceCtorEq,Nat.reduceAdd,Nat.reduceMul,Nat.reduceLeDiff,Nat.reduceLT,Nat.reduceEqDiff,d1,d2,d3,w1,w2]
 ((repeat' (with_reducible apply And.intro))<;>try ((exact sc_)))
 simp only [ZZ,WW,Ze,reduceCtorEq,Nat.reduceAdd,Nat.reduceMul,Nat.reduceLeDiff,Nat.reduceLT,Nat.reduceEqDiff,hb]
end Go.Proofs.YtehfjlpenlffmaaGreatDoor
