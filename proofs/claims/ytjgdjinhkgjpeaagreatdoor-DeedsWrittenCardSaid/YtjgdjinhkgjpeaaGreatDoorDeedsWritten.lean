import Derived.Test.YtjgdjinhkgjpeaaGreatDoorZ11
import Derived.Test.YtjgdjinhkgjpeaaGreatDoorZ13
import Derived.Test.YtjgdjinhkgjpeaaGreatDoorZ15
set_option linter.unusedVariables false
set_option linter.unusedSimpArgs false
set_option linter.defProp false
namespace Go.Proofs.YtjgdjinhkgjpeaaGreatDoor
open Nat renaming reduceAdd→zd,reduceEqDiff→zb,reduceLT→zf,reduceLeDiff→za,reduceMul→ze
open Bool renaming and_eq_true→zh,true_and→yk
open Go.RowKit
def qaV:IC:=(.seq (.seq (.reg [qM 39 6,qM 40 8,qO 41 (.bin .neq (.t 39) (.t 40)),qM 42 41,⟨some 43,.mov (.t 8),(some (42,false))⟩,⟨some 44,.bin .eql (.t 43) (.c (.int .i64 0)),(some (42,false))⟩,⟨some 45,.mov (.t 44),(some (42,false))⟩,⟨some 46,.mov (.t 5),(some (45,true))⟩,⟨some 47,.mov (.t 4),(some (45,true))⟩,⟨some 48,.call 7 [.t 47],(some (45,true))⟩,⟨some 49,.bin .neq (.t 46) (.t 48),(some (45,true))⟩,⟨some 50,.pick (.t 45) (.t 49) (.c (.bool false)),(some (42,false))⟩,qO 51 (.pick (.t 42) (.c (.bool true)) (.t 50))]) (.cond (.t 51) (.seq (.reg [qO 2 (.mov (.c (.bool false)))]) .ret) .skip)) (.seq (.reg [qM 52 3,qO 53 (.call 8 [.t 52]),qM 9 53]) (.seq (.reg [qM 55 9,⟨none,.fz (.t 55),none⟩,qO 56 (.call 9 [.t 55]),qM 54 56,qO 57 (.ext 0 (.t 54)),qO 58 (.ext 1 (.t 54)),qO 59 (.ext 2 (.t 54)),qM 10 57,qM 11 58,qM 12 59]) (.seq (.reg [qM 61 9,⟨none,.fz (.t 61),none⟩,qO 62 (.call 10 [.t 61]),qM 60 62,qO 63 (.ext 0 (.t 60)),qO 64 (.ext 1 (.t 60)),qO 65 (.ext 2 (.t 60)),qM 13 63,qM 14 64,qM 15 65]) (.seq (.reg [qO 66 (.call 11 []),qM 67 66,⟨some 68,.mov (.t 12),(some (67,true))⟩,⟨some 69,.mov (.t 15),(some (67,true))⟩,⟨some 70,.bin .eql (.t 68) (.t 69),(some (67,true))⟩,qO 71 (.pick (.t 67) (.t 70) (.c (.bool false))),qM 72 71,⟨some 73,.mov (.t 11),(some (72,true))⟩,⟨some 74,.mov (.t 14),(some (72,true))⟩,⟨some 75,.bin .eql (.t 73) (.t 74),(some (72,true))⟩,qO 76 (.pick (.t 72) (.t 75) (.c (.bool false))),qM 77 76,⟨some 78,.mov (.t 10),(some (77,true))⟩,⟨some 79,.mov (.t 13),(some (77,true))⟩,⟨some 80,.call 12 [.t 78,.t 79],(some (77,true))⟩,qO 81 (.pick (.t 77) (.t 80) (.c (.bool false))),qM 2 81]) .ret)))))
def qcu:IC:=(.seq (.reg [qO 2 (.mov (.c (.bool false)))]) (.seq (.reg [qM 16 0,qO 17 (.bld [.nl 1,.int .i64 0] [(0,1,.t 16)]),qO 18 (.box 25 (.t 17)),qM 3 18]) (.seq (.reg [qM 19 3,qO 20 (.call 4 [.t 19]),qM 4 20]) (.seq (.reg [qM 22 4,qO 23 (.call 5 [.t 22]),qM 21 23,qO 24 (.ext 0 (.t 21)),qO 25 (.ext 1 (.t 21)),qM 5 24,qM 6 25]) (.seq (.reg [qM 27 4,qO 28 (.call 6 [.t 27]),qM 26 28,qO 29 (.ext 0 (.t 26)),qO 30 (.ext 1 (.t 26)),qM 7 29,qM 8 30]) (.seq (.seq (.reg [qM 31 8,qO 32 (.bin .eql (.t 31) (.c (.int .i64 0))),qM 33 32,⟨some 34,.mov (.t 4),(some (33,true))⟩,⟨some 35,.call 7 [.t 34],(some (33,true))⟩,⟨some 36,.sln (.t 35),(some (33,true))⟩,⟨some 37,.bin .gtr (.t 36) (.c (.int .i64 200000)),(some (33,true))⟩,qO 38 (.pick (.t 33) (.t 37) (.c (.bool false)))]) (.cond (.t 38) (.reg [qO 8 (.mov (.c (.int .i64 2)))]) .skip)) (.cut qaV)))))))
def qck:List IRes:=[.t 2]
theorem qfk:chkF Tryz.prog Tryz.f3 qcu qck 82=true:=by kernel_rfl
theorem qvA (t:List UInt8):(parF t).1.length≤2000:=by
 unfold parF
 split
 ·simp
 ·cases goF (splF t 10).dropLast 0 [] with
  |error i=>simp [parE]
  |ok q=>
   by_cases h:(splF t 10).getLastD []=[]
   ·rw [qow h]
    by_cases h2:(ckdF q).2=0
    ·rw [if_neg (fun e=>e h2)]
     exact (qrf h2).1
    ·rw [if_pos h2]
     simp
   ·rw [qkj h]
    simp
def DwM (z:List Int) (fr:List AV) (L:Objs):Prop:=∃ (d:List Dd) (p:List UInt8) (e:Int) (k2:Nat),DdsB d∧d.length≤2001∧k2≤5000∧(e=0→(ckdF d).2=0∧p=txtF d)∧fr=[oo,oo,oo,.adr (.l 18) 0,.p (.sl 12 (ddE d)),.p (.str p),.p (int e),oo,.p (int e),oo,oo,oo,oo,oo,oo,oo,oo,oo,oo,oo,oo,oo,oo,oo,oo,oo,oo,oo,oo,oo,oo,oo,oo,oo,oo,oo,oo,oo,oo,oo,oo,oo,oo,oo,oo,oo,oo,oo,oo,oo,oo,oo,oo,oo,oo,oo,oo,oo,oo,oo,oo,oo,oo,oo,oo,oo,oo,oo,oo,oo,oo,oo,oo,oo,oo,oo,oo,oo,oo,oo,oo,oo]∧L=[(.l 18,.box ((stm z k2).map .p) T)]
theorem qus {d:List Dd} (h:(ckdF d).2=0):∀ x∈d,1≤x.kind∧x.kind≤6:=fun x hx=>qkk (qr6 h x hx)
set_option maxRecDepth 100000 in
set_option maxHeartbeats 8000000 in
theorem qwk (z:List Int) (hl:z.length≤9223372036854775807) (fr:List AV) (L:Objs) (hM:DwM z fr L):awp Tryz.prog E9 qaV fr L (retQ [.t 2] fun x _=>x=.bool true):=by
 obtain ⟨d,p,e,k2,hdB,hdl,hk2,hep,rfl,rfl⟩:=hM
 simp only [qaV,ZZ,WW,Ze,reduceCtorEq,zd,ze,za,zf,zb]
 simp only [ZZ,WW,Ze,reduceCtorEq,zd,ze,za,zf,zb,decide_true,Bool.not_true,Bool.not_false,yk]
 refine useG (fun h=>qg5 d hdB (qus (hep (of_decide_eq_true h)).1) (by omega)) rfl (.inl rfl) ?_
 simp only [ZZ,WW,Ze,reduceCtorEq,zd,ze,za,zf,zb,decide_true,Bool.not_true,Bool.not_false,yk,Bool.false_or]
 refine br ?_ ?_
 ·intro h
  exfalso
  rw [zh,decide_eq_true_eq,Bool.not_eq_true',decide_eq_false_iff_not] at h
  exact h.2 (hep h.1).2
 intro _
 simp only [ZZ,WW,Ze,reduceCtorEq,zd,ze,za,zf,zb]
 refine useS (k:=.l 18) (qmK z k2 (by omega) hl) rfl rfl rfl zE_ ?_
 rintro x cs' ⟨t,k3,rfl,htl,rfl,hk3⟩
 simp only [ZZ,WW,Ze,reduceCtorEq,zd,ze,za,zf,zb]
 refine use1 (qmM t htl) rfl (.inl rfl) ?_
 obtain ⟨o,ho⟩:∃ o,parF t=o:=⟨_,rfl⟩
 have hol:o.1.length≤1000000:=by rw [← ho];exact Nat.le_trans (qvA t) (by decide)
 obtain ⟨q,i,f⟩:=o
 rw [ho]
 simp only [parR]
 simp only [ZZ,WW,Ze,reduceCtorEq,zd,ze,za,zf,zb]
 have hF:=qoa t htl
 rw [ho] at hF
 simp only [parR] at hF
 refine use1 hF rfl (.inl rfl) ?_
 simp only [ZZ,WW,Ze,reduceCtorEq,zd,ze,za,zf,zb]
 refine use1 (up9D qqt) rfl (.inl rfl) ?_
 simp only [ZZ,WW,Ze,reduceCtorEq,zd,ze,za,zf,zb,decide_true,Bool.and_self]
 refine useG (fun _=>qpc q (Nat.le_trans hol (by decide))) rfl (.inl rfl) ?_
 simp only [ZZ,WW,Ze,reduceCtorEq,zd,ze,za,zf,zb,decide_true,Bool.and_self]
set_option maxRecDepth 100000 in
set_option maxHeartbeats 8000000 in
theorem qkv (z:List Int) (hl:z.length≤9223372036854775807):PCall Tryz.prog E9 3 [ints z] (·=.bool true):=by
 refine qaf mixed Tryz.func3 qfk ?_
 simp only [a0,l0,OS.ao,List.map_cons,List.map_nil,List.length_cons,List.length_nil,List.cons_append,List.nil_append,Nat.reduceSub,zd,List.replicate_succ,List.replicate_zero,qcu,qck,ZZ,WW,Ze,reduceCtorEq,zd,ze,za,zf,zb]
 simp only [ints,ZZ,WW,Ze,reduceCtorEq,zd,ze,za,zf,zb]
 refine useS (k:=.l 18) (up9S (qph z 0 (by omega) hl)) rfl rfl rfl zE_ ?_
 rintro x cs' ⟨d,k1,rfl,hdB,hdl,rfl,hk1⟩
 simp only [ZZ,WW,Ze,reduceCtorEq,zd,ze,za,zf,zb]
 refine use1 (qmL d hdB (by omega)) rfl (.inl rfl) ?_
 obtain ⟨p,e,hpe⟩:∃ (p:List UInt8) (e:Int),priF d=.tup [.str p,int e]:=by
  unfold priF
  split
  ·exact ⟨_,_,rfl⟩
  ·split<;>exact ⟨_,_,rfl⟩
 have tail:=qwk z hl
 rw [hpe]
 simp only [ZZ,WW,Ze,reduceCtorEq,zd,ze,za,zf,zb]
 refine use1 (up9D (qf7 d hdB (by omega))) rfl (.inl rfl) ?_
 simp only [ZZ,WW,Ze,reduceCtorEq,zd,ze,za,zf,zb]
 refine useG (fun h=>qg5 d hdB (qus (of_decide_eq_true h)) (by omega)) rfl (.inl rfl) ?_
 simp only [ZZ,WW,Ze,reduceCtorEq,zd,ze,za,zf,zb]
 unfold priF at hpe
 refine br ?_ ?_
 ·intro h
  rw [zh,decide_eq_true_eq,decide_eq_true_eq] at h
  rw [if_neg (fun e=>e h.1),if_pos (by omega)] at hpe
  have he:e=2:=by
   have:=hpe.symm
   simp at this
   exact this.2
  subst he
  simp only [ZZ,WW,Ze,reduceCtorEq,zd,ze,za,zf,zb]
  exact quz (tail _ _ ⟨d,p,2,k1,hdB,hdl,by omega,fun e=>by omega,rfl,rfl⟩) (by (simp only [ZZ,WW,Ze,reduceCtorEq,zd,ze,za,zf,zb];try trivial)) zE_
 ·intro h
  have he:e=(ckdF d).2∧((ckdF d).2=0→p=txtF d):=by
   by_cases h1:(ckdF d).2=0
   ·rw [if_neg (fun e=>e h1),if_neg (by rw [Bool.and_eq_false_iff,decide_eq_false_iff_not,decide_eq_false_iff_not] at h;rcases h with h|h;exact absurd h1 h;omega)] at hpe
    simp only [PV.tup.injEq,List.cons.injEq,PV.str.injEq,PV.int.injEq,and_true,true_and] at hpe
    exact ⟨by rw [h1];exact hpe.2.symm,fun _=>hpe.1.symm⟩
   ·rw [if_pos h1] at hpe
    simp only [PV.tup.injEq,List.cons.injEq,PV.str.injEq,PV.int.injEq,and_true,true_and] at hpe
    exact ⟨hpe.2.symm,fun h2=>absurd h2 h1⟩
  obtain ⟨rfl,hp⟩:=he
  simp only [ZZ,WW,Ze,reduceCtorEq,zd,ze,za,zf,zb]
  exact quz (tail _ _ ⟨d,p,_,k1,hdB,hdl,by omega,fun e=>⟨e,hp e⟩,rfl,rfl⟩) (by (simp only [ZZ,WW,Ze,reduceCtorEq,zd,ze,za,zf,zb];try trivial)) zE_
theorem qja (a0:Option Addr) (len0 cap0:Nat) (z0:List Int) (w:World) (h0:qt7 .i64 w a0 len0 cap0 z0) (he:E9.ok w∧∀ b,E9.bl b→b < w.heap.size) :
  Calls Tryz.prog 3 #[.slice a0 len0 cap0] w fun e w'=>e=.returned (.bool true)∧Below w.heap.size w w':=
 quE qkv a0 len0 cap0 z0 w h0 he.1 he.2
end Go.Proofs.YtjgdjinhkgjpeaaGreatDoor
