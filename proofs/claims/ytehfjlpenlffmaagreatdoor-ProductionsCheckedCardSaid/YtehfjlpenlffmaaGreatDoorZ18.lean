import Derived.Test.YtehfjlpenlffmaaGreatDoorZ16
import Derived.Test.YtehfjlpenlffmaaGreatDoorZ4
import Derived.Test.YtehfjlpenlffmaaGreatDoorLayBitsLen
import Derived.Test.YtehfjlpenlffmaaGreatDoorZ9
import Derived.Test.YtehfjlpenlffmaaGreatDoorLayCompare
import Derived.Test.YtehfjlpenlffmaaGreatDoorZ6
import Derived.Test.YtehfjlpenlffmaaGreatDoorZ11
import Derived.Test.YtehfjlpenlffmaaGreatDoorZ17
import Derived.Test.YtehfjlpenlffmaaGreatDoorZ12
import Derived.Test.YtehfjlpenlffmaaGreatDoorLayTrim
import Derived.Test.YtehfjlpenlffmaaGreatDoorLayLastIndexByte
import Derived.Lib.LastIndexByte
import Derived.Test.YtehfjlpenlffmaaGreatDoorZ10
import Derived.Test.YtehfjlpenlffmaaGreatDoorLayLastIndex
import Derived.Test.YtehfjlpenlffmaaGreatDoorZ13
import Derived.Test.YtehfjlpenlffmaaGreatDoorZ14
import Derived.Test.YtehfjlpenlffmaaGreatDoorZ15
set_option linter.unusedVariables false
set_option linter.unusedSimpArgs false
set_option linter.defProp false
namespace Go.Proofs.YtehfjlpenlffmaaGreatDoor
open Nat renaming reduceSub→zp,reduceAdd→zd,reduceMul→ze,reduceLeDiff→zb,reduceLT→zf,reduceEqDiff→za
open List renaming map_cons→zj,map_nil→zo,length_cons→zi,length_nil→zn,cons_append→zl,nil_append→zm,replicate_succ→zh,replicate_zero→zk,eq_nil_of_length_eq_zero→zq,getD→zt
open Bool renaming and_eq_true→zg
open Go.RowKit
def qaI:IC:=(.seq (.seq (.drg [qM 18 9,qM 19 1,qO 20 (.bin .gtr (.t 18) (.t 19)),qM 21 20,⟨some 22,.mov (.t 3),(some (21,true))⟩,⟨some 23,.mov (.t 0),(some (21,true))⟩,⟨some 24,.mov (.t 9),(some (21,true))⟩,⟨some 25,.ixa 2 (.t 23) (.t 24),(some (21,true))⟩,⟨some 26,.ld 2 true (.t 25),(some (21,true))⟩,⟨some 27,.mov (.t 0),(some (21,true))⟩,⟨some 28,.mov (.t 9),(some (21,true))⟩,⟨some 29,.bin .sub (.t 28) (.c (.int .i64 1)),(some (21,true))⟩,⟨some 30,.ixa 2 (.t 27) (.t 29),(some (21,true))⟩,⟨some 31,.ld 2 true (.t 30),(some (21,true))⟩,⟨some 32,.callv (.t 22) [.t 26,.t 31],(some (21,true))⟩,⟨some 33,.bin .lss (.t 32) (.c (.int .i64 0)),(some (21,true))⟩,qO 34 (.pick (.t 21) (.t 33) (.c (.bool false)))]) (.cond (.t 34) .skip (.exit 2))) (.seq (.block 3 (.drg [qM 37 0,qM 38 9,qM 39 0,qM 40 9,qO 41 (.bin .sub (.t 40) (.c (.int .i64 1))),qM 42 0,qM 43 9,qO 44 (.bin .sub (.t 43) (.c (.int .i64 1))),qO 45 (.ixa 2 (.t 42) (.t 44)),qO 46 (.ld 2 true (.t 45)),qM 47 0,qM 48 9,qO 49 (.ixa 2 (.t 47) (.t 48)),qO 50 (.ld 2 true (.t 49)),qO 51 (.ixa 2 (.t 37) (.t 38)),⟨none,.st 2 (.t 51) (.t 46),none⟩,qO 52 (.ixa 2 (.t 39) (.t 41)),⟨none,.st 2 (.t 52) (.t 50),none⟩])) (.reg [qM 35 9,qO 36 (.bin .sub (.t 35) (.c (.int .i64 1))),qM 9 36])))
def qaJ:IC:=(.seq (.seq (.reg [qM 12 8,qM 13 2,qO 14 (.bin .lss (.t 12) (.t 13))]) (.cond (.t 14) .skip (.exit 0))) (.seq (.block 1 (.seq (.reg [qM 17 8,qM 9 17]) (.block 2 (.loop qaI)))) (.reg [qM 15 8,qO 16 (.bin .add (.t 15) (.c (.int .i64 1))),qM 8 16])))
def qaT:IC:=(.seq (.reg [qM 10 1,qO 11 (.bin .add (.t 10) (.c (.int .i64 1))),qM 8 11]) (.block 0 (.loop qaJ)))
def qaR:List IRes:=[]
theorem qcn:chkF Tryz.prog Tryz.f228 qaT qaR 53=true:=by kernel_rfl
def qa6:IC:=(.block 1 (.seq (.reg [qM 21 2,qM 22 1,qO 23 (.bin .sub (.t 21) (.t 22)),qM 12 23]) (.seq (.seq (.reg [qM 24 12,qO 25 (.bin .leq (.t 24) (.c (.int .i64 12)))]) (.cond (.t 25) (.seq (.reg [qM 26 0,qM 27 1,qM 28 2,qM 29 4,qO 30 (.call 228 [.t 26,.t 27,.t 28,.t 29])]) .ret) .skip)) (.seq (.seq (.reg [qM 31 3,qO 32 (.bin .eql (.t 31) (.c (.int .i64 0)))]) (.cond (.t 32) (.seq (.reg [qM 33 0,qM 34 1,qM 35 2,qM 36 4,qO 37 (.call 229 [.t 33,.t 34,.t 35,.t 36])]) .ret) .skip)) (.seq (.seq (.reg [qM 38 10,qO 39 (.not (.t 38))]) (.cond (.t 39) (.seq (.reg [qM 40 0,qM 41 1,qM 42 2,qM 43 4,qO 44 (.call 230 [.t 40,.t 41,.t 42,.t 43])]) (.reg [qM 45 3,qO 46 (.bin .sub (.t 45) (.c (.int .i64 1))),qM 3 46])) .skip)) (.cut (.seq (.reg [qM 48 0,qM 49 1,qM 50 2,qM 51 4,qO 52 (.call 231 [.t 48,.t 49,.t 50,.t 51]),qM 47 52,qO 53 (.ext 0 (.t 47)),qO 54 (.ext 1 (.t 47)),qM 13 53,qM 14 54]) (.seq (.seq (.reg [qM 55 14,qO 56 (.bin .eql (.t 55) (.c (.int .i64 2)))]) (.cond (.t 56) (.seq (.reg [qM 57 0,qM 58 1,qM 59 2,qM 60 4,qO 61 (.call 232 [.t 57,.t 58,.t 59,.t 60])]) (.seq (.reg [qM 62 2,qO 63 (.bin .sub (.t 62) (.c (.int .i64 1))),qM 64 13,qM 65 1,qO 66 (.bin .sub (.t 64) (.t 65)),qO 67 (.bin .sub (.t 63) (.t 66)),qM 13 67]) (.reg [qO 14 (.mov (.c (.int .i64 1)))]))) .skip)) (.cut (.seq (.seq (.reg [qM 68 10,qM 69 68,⟨some 70,.mov (.t 11),(some (69,true))⟩,qO 71 (.pick (.t 69) (.t 70) (.c (.bool false))),qM 72 71,⟨some 73,.mov (.t 14),(some (72,true))⟩,⟨some 74,.bin .eql (.t 73) (.c (.int .i64 1)),(some (72,true))⟩,qO 75 (.pick (.t 72) (.t 74) (.c (.bool false)))]) (.cond (.t 75) (.seq (.reg [qM 76 0,qM 77 1,qM 78 2,qM 79 4,qO 80 (.call 233 [.t 76,.t 77,.t 78,.t 79])]) (.cond (.t 80) .ret .skip)) .skip)) (.cut (.seq (.seq (.drg [qM 81 1,qO 82 (.bin .gtr (.t 81) (.c (.int .i64 0))),qM 83 82,⟨some 84,.mov (.t 4),(some (83,true))⟩,⟨some 85,.mov (.t 0),(some (83,true))⟩,⟨some 86,.mov (.t 1),(some (83,true))⟩,⟨some 87,.bin .sub (.t 86) (.c (.int .i64 1)),(some (83,true))⟩,⟨some 88,.ixa 2 (.t 85) (.t 87),(some (83,true))⟩,⟨some 89,.ld 2 true (.t 88),(some (83,true))⟩,⟨some 90,.mov (.t 0),(some (83,true))⟩,⟨some 91,.mov (.t 13),(some (83,true))⟩,⟨some 92,.ixa 2 (.t 90) (.t 91),(some (83,true))⟩,⟨some 93,.ld 2 true (.t 92),(some (83,true))⟩,⟨some 94,.callv (.t 84) [.t 89,.t 93],(some (83,true))⟩,⟨some 95,.bin .lss (.t 94) (.c (.int .i64 0)),(some (83,true))⟩,⟨some 96,.not (.t 95),(some (83,true))⟩,qO 97 (.pick (.t 83) (.t 96) (.c (.bool false)))]) (.cond (.t 97) (.seq (.reg [qM 98 0,qM 99 1,qM 100 2,qM 101 13,qM 102 4,qO 103 (.call 234 [.t 98,.t 99,.t 100,.t 101,.t 102]),qM 15 103]) (.seq (.reg [qM 104 15,qM 1 104]) (.exit 1))) .skip)) (.seq (.reg [qM 106 0,qM 107 1,qM 108 2,qM 109 13,qM 110 4,qO 111 (.call 235 [.t 106,.t 107,.t 108,.t 109,.t 110]),qM 105 111,qO 112 (.ext 0 (.t 105)),qO 113 (.ext 1 (.t 105)),qM 16 112,qM 17 113]) (.seq (.reg [qM 114 17,qM 11 114]) (.seq (.reg [qM 115 16,qM 116 1,qO 117 (.bin .sub (.t 115) (.t 116)),qM 118 2,qM 119 16,qO 120 (.bin .sub (.t 118) (.t 119)),qM 18 117,qM 19 120]) (.seq (.reg [qM 121 12,qO 122 (.bin .quo (.t 121) (.c (.int .i64 8))),qM 20 122]) (.seq (.reg [qM 123 18,qM 124 19,qO 125 (.bin .lss (.t 123) (.t 124))]) (.cond (.t 125) (.seq (.reg [qM 126 18,qM 127 20,qO 128 (.bin .geq (.t 126) (.t 127)),qM 10 128]) (.seq (.reg [qM 129 0,qM 130 1,qM 131 16,qM 132 3,qM 133 4,qO 134 (.call 170 [.t 129,.t 130,.t 131,.t 132,.t 133])]) (.reg [qM 135 16,qO 136 (.bin .add (.t 135) (.c (.int .i64 1))),qM 1 136]))) (.seq (.reg [qM 137 19,qM 138 20,qO 139 (.bin .geq (.t 137) (.t 138)),qM 10 139]) (.seq (.reg [qM 140 0,qM 141 16,qO 142 (.bin .add (.t 141) (.c (.int .i64 1))),qM 143 2,qM 144 3,qM 145 4,qO 146 (.call 170 [.t 140,.t 142,.t 143,.t 144,.t 145])]) (.reg [qM 147 16,qM 2 147])))))))))))))))))))))
def qbo:IC:=(.seq (.reg [qO 10 (.mov (.c (.bool true)))]) (.seq (.reg [qO 11 (.mov (.c (.bool true)))]) (.block 0 (.loop qa6))))
def qbm:List IRes:=[]
theorem qdy:chkF Tryz.prog Tryz.f170 qbo qbm 148=true:=by kernel_rfl
def qaW:IC:=(.seq (.reg [qM 5 0,qO 6 (.len (.t 5)),qM 4 6]) (.reg [qM 7 0,qM 8 4,qM 9 4,qO 10 (.cvi .u64 (.t 9)),qO 11 (.call 171 [.t 10]),qM 12 1,qO 13 (.call 170 [.t 7,.c (.int .i64 0),.t 8,.t 11,.t 12])]))
def qaV:List IRes:=[]
theorem qcA:chkF Tryz.prog Tryz.f87 qaW qaV 14=true:=by kernel_rfl
abbrev qhj:Nat:=119
theorem qk9:∀ (ps:List PV) (L:Objs),Zl L (ps.map .p)=true
 |[],_=>rfl
 |_ :: r,L=>qk9 r L
section
variable {E:Envt}
theorem qmW (x:Int) (h0:0≤x) (h1:x≤18446744073709551615):PCall Tryz.prog E 171 [.int .u64 x] (·=int (Lib.bitLen x.toNat:Nat)):=
 qbW rfl rfl fun w _=>(Any.bits_Len Tryz.layBitsLen x w h0 h1).mono fun e w' h=>⟨h.1,by rw [h.2];exact Grow.refl _ _⟩
theorem qmE {α:Type} (f0:α→List UInt8) (f1:α→List (List PV)) (cf:α→α→Int) (hO:OrdP (ltC cf)) (g:FuncId) (ps:List PV) (hg:Unit→fnB Tryz.prog g=true) (l:List α) (hl:l.length≤12) (hc:∀ x∈l,∀ y∈l,PCall Tryz.prog E g (.agg [.str (f0 x),.sl 1 (f1 x)] :: .agg [.str (f0 y),.sl 1 (f1 y)] :: ps) (·=int (cf x y)))
  (hn:∀ x y,Zbh [] (.p (.agg [.str (f0 x),.sl 1 (f1 x)]) :: .p (.agg [.str (f0 y),.sl 1 (f1 y)]) :: ps.map .p)=some (.agg [.str (f0 x),.sl 1 (f1 x)] :: .agg [.str (f0 y),.sl 1 (f1 y)] :: ps)) (hr:∀ x y,Zbj (.p (.agg [.str (f0 x),.sl 1 (f1 x)]) :: .p (.agg [.str (f0 y),.sl 1 (f1 y)]) :: ps.map .p)=true):RCall Tryz.prog E 228 qhj 2 (l.map (fun x=>([.str (f0 x),.sl 1 (f1 x)]:List PV))) [int 0,int (l.length:Nat),.clo g ps] (fun x es'=>x=.tup []∧∃ l':List α,es'=l'.map (fun x=>([.str (f0 x),.sl 1 (f1 x)]:List PV))∧l'.Perm l∧SrtP (ltC cf) l'):=by
 unfold RCall
 refine qf4 mixed Tryz.func228 qcn ?_
 simp only [a0,l0,OS.ao,zj,zo,zi,zn,zl,zm,zp,zd,zh,zk,List.length_map,qaT,qaR,ZZ,WW,Ze,reduceCtorEq,zd,ze,zb,zf,za]
 ((repeat' (with_reducible apply And.intro))<;>try ((exact sc_)))
 rw [show l.map (fun x=>([.str (f0 x),.sl 1 (f1 x)]:List PV))=(l.take 1++l.drop 1).map (fun x=>([.str (f0 x),.sl 1 (f1 x)]:List PV)) from by rw [List.take_append_drop]]
 refine qad (fun n fr L=>∃ (i:Nat) (P:List α) (C:List α),l.length - i=n∧(1≤i)∧(P.length=i∨l.length=0)∧((P++C).Perm l)∧(SrtP (ltC cf) P)∧fr=[.row (.b 0),.p (int 0),.p (int (l.length:Nat)),.p (.clo g ps),oo,oo,oo,oo,.p (int (i:Nat)),oo,oo,oo,oo,oo,oo,oo,oo,oo,oo,oo,oo,oo,oo,oo,oo,oo,oo,oo,oo,oo,oo,oo,oo,oo,oo,oo,oo,oo,oo,oo,oo,oo,oo,oo,oo,oo,oo,oo,oo,oo,oo,oo,oo]∧L=[(.b 0,.row ((P++C).map (fun x=>([.str (f0 x),.sl 1 (f1 x)]:List PV))) qhj 2 true)]) (l.length - 1) [.row (.b 0),.p (int 0),.p (int (l.length:Nat)),.p (.clo g ps),oo,oo,oo,oo,.p (int (1:Nat)),oo,oo,oo,oo,oo,oo,oo,oo,oo,oo,oo,oo,oo,oo,oo,oo,oo,oo,oo,oo,oo,oo,oo,oo,oo,oo,oo,oo,oo,oo,oo,oo,oo,oo,oo,oo,oo,oo,oo,oo,oo,oo,oo,oo] [(.b 0,.row (((l.take 1)++(l.drop 1)).map (fun x=>([.str (f0 x),.sl 1 (f1 x)]:List PV))) qhj 2 true)] (by (simp only [ZZ,WW,Ze,reduceCtorEq,zd,ze,zb,zf,za];try trivial)) (by (simp only [ZZ,WW,Ze,reduceCtorEq,zd,ze,zb,zf,za];try trivial)) ⟨1,l.take 1,l.drop 1,rfl,by omega,by rw [List.length_take];omega,by rw [List.take_append_drop],by cases l with|nil=>exact List.Pairwise.nil|cons x r=>simp [SrtP],rfl,rfl⟩ ?_
 rintro n fr L ⟨i,P,C,rfl,hi,hP,hp,hs,rfl,rfl⟩
 simp only [qaJ,ZZ,WW,Ze,reduceCtorEq,zd,ze,zb,zf,za]
 have hpl:P.length+C.length=l.length:=by rw [← List.length_append,hp.length_eq]
 refine br ?_ ?_
 rotate_left
 ·intro h
  have hge:l.length≤i:=by have:=of_decide_eq_false h;omega
  have hC:C=[]:=zq (by omega)
  subst hC
  rw [List.append_nil] at hp ⊢
  simp only [ZZ,WW,Ze,reduceCtorEq,zd,ze,zb,zf,za]
  exact qjJ _ rfl ⟨rfl,P,rfl,hp,hs⟩
 intro h
 have hlt:i < l.length:=by have:=of_decide_eq_true h;omega
 have hP:P.length=i:=by omega
 obtain ⟨x,R,rfl⟩:∃ x R,C=x :: R:=by
  cases C with
  |nil=>simp at hpl;omega
  |cons x R=>exact ⟨x,R,rfl⟩
 have hxl:x∈l:=hp.mem_iff.1 (by simp)
 simp only [ZZ,WW,Ze,reduceCtorEq,zd,ze,zb,zf,za]
 refine qad (fun n fr L=>∃ (j:Nat) (A:List α) (B:List α),j=n∧(A.length=j)∧(j+B.length=i)∧(SrtP (ltC cf) (A++B))∧(∀ b∈B,ltC cf x b=true)∧((A++x :: (B++R)).Perm l)∧fr=[.row (.b 0),.p (int 0),.p (int (l.length:Nat)),.p (.clo g ps),oo,oo,oo,oo,.p (int (i:Nat)),.p (int (j:Nat)),oo,oo,oo,oo,oo,oo,oo,oo,oo,oo,oo,oo,oo,oo,oo,oo,oo,oo,oo,oo,oo,oo,oo,oo,oo,oo,oo,oo,oo,oo,oo,oo,oo,oo,oo,oo,oo,oo,oo,oo,oo,oo,oo]∧L=[(.b 0,.row ((A++x :: (B++R)).map (fun x=>([.str (f0 x),.sl 1 (f1 x)]:List PV))) qhj 2 true)]) (i) [.row (.b 0),.p (int 0),.p (int (l.length:Nat)),.p (.clo g ps),oo,oo,oo,oo,.p (int (i:Nat)),.p (int (i:Nat)),oo,oo,oo,oo,oo,oo,oo,oo,oo,oo,oo,oo,oo,oo,oo,oo,oo,oo,oo,oo,oo,oo,oo,oo,oo,oo,oo,oo,oo,oo,oo,oo,oo,oo,oo,oo,oo,oo,oo,oo,oo,oo,oo] [(.b 0,.row ((P++x :: ([]++R)).map (fun x=>([.str (f0 x),.sl 1 (f1 x)]:List PV))) qhj 2 true)] (by (simp only [ZZ,WW,Ze,reduceCtorEq,zd,ze,zb,zf,za];try trivial)) (by (simp only [ZZ,WW,Ze,reduceCtorEq,zd,ze,zb,zf,za];try trivial)) ⟨i,P,[],rfl,hP,by simp,by rw [List.append_nil];exact hs,(fun b hb=>by cases hb),hp,rfl,rfl⟩ ?_
 rintro n fr L ⟨j,A,B,rfl,hj,hji,hsb,hb,hpb,rfl,rfl⟩
 simp only [qaI,ZZ,WW,Ze,reduceCtorEq,zd,ze,zb,zf,za]
 have hWl:((A++x :: (B++R)).map (fun x=>([.str (f0 x),.sl 1 (f1 x)]:List PV))).length=l.length:=by rw [List.length_map,hpb.length_eq]
 rcases List.eq_nil_or_concat A with rfl|⟨A',y,hAy⟩
 ·simp only [zn] at hj
  subst hj
  generalize hW:(([]:List α)++x :: (B++R)).map (fun x=>([.str (f0 x),.sl 1 (f1 x)]:List PV))=W at *
  refine drg0 ?_
  have z00:decide ((0:Int) < ((0:Nat):Int))=false:=rfl
  simp only [ZZ,WW,Ze,reduceCtorEq,zd,ze,zb,zf,za,hWl,z00,Bool.false_eq_true,false_implies,hg ()]
  refine ⟨qk9 _ _,qlU (fun h=>by cases h) (fun _=>?_)⟩
  simp only [ZZ,WW,Ze,reduceCtorEq,zd,ze,zb,zf,za]
  ((repeat' (with_reducible apply And.intro))<;>try ((exact sc_)))
  rw [← hW]
  have hfin:SrtP (ltC cf) (([]:List α)++x :: B):=qkm hO hsb hb (.inl rfl)
  refine qac (l.length - (i+1)) [.row (.b 0),.p (int 0),.p (int (l.length:Nat)),.p (.clo g ps),oo,oo,oo,oo,.p (int ((i+1):Nat)),oo,oo,oo,oo,oo,oo,oo,oo,oo,oo,oo,oo,oo,oo,oo,oo,oo,oo,oo,oo,oo,oo,oo,oo,oo,oo,oo,oo,oo,oo,oo,oo,oo,oo,oo,oo,oo,oo,oo,oo,oo,oo,oo,oo] [(.b 0,.row (((x :: B)++(R)).map (fun x=>([.str (f0 x),.sl 1 (f1 x)]:List PV))) qhj 2 true)] (by omega) (by (simp only [ZZ,WW,Ze,reduceCtorEq,zd,ze,zb,zf,za];try trivial)) (by (simp only [ZZ,WW,Ze,reduceCtorEq,zd,ze,zb,zf,za];try trivial)) ⟨i+1,x :: B,R,rfl,by omega,.inl (by simp;omega),by simpa using hpb,hfin,rfl,rfl⟩
 ·obtain rfl:A=A'++[y]:=by rw [hAy];simp
  obtain ⟨q,rfl⟩:∃ q,j=q+1:=⟨A'.length,by rw [← hj];simp⟩
  have hq:A'.length=q:=by simpa using hj
  have hrow:(A'++[y])++x :: (B++R)=A'++y :: x :: (B++R):=by simp
  have hyl:y∈l:=hpb.mem_iff.1 (by simp)
  have e1:(((q+1:Nat):Int) - 1)=(q:Nat):=by omega
  have z0:decide ((0:Int) < ((q+1:Nat):Int))=true:=by rw [decide_eq_true_eq];omega
  rw [hrow] at hWl hpb ⊢
  obtain ⟨g1,g0⟩:=qpp (fun x=>([.str (f0 x),.sl 1 (f1 x)]:List PV)) A' (B++R) x y []
  have s1:=qpo (fun x=>([.str (f0 x),.sl 1 (f1 x)]:List PV)) A' (B++R) x y
  rw [hq] at g1 g0 s1
  try simp only at g1 g0 s1
  generalize hW:(A'++y :: x :: (B++R)).map (fun x=>([.str (f0 x),.sl 1 (f1 x)]:List PV))=W at *
  refine drg0 ?_
  simp only [ZZ,WW,Ze,reduceCtorEq,zd,ze,zb,zf,za,hWl,e1,z0,g1,g0,hg ()]
  refine ⟨⟨by omega,by omega⟩,by omega,qar (by omega) (by omega),⟨by omega,by omega⟩,by omega,qk9 _ _,?_⟩
  refine useG (fun _=>hc x hxl y hyl) ((qjt (hr x y) (L':=[])).trans (hn x y)) (.inl (hr x y)) ?_
  simp only [ZZ,WW,Ze,reduceCtorEq,zd,ze,zb,zf,za]
  refine br ?_ ?_
  ·intro hlt2
   have hxy:ltC cf x y=true:=hlt2
   obtain ⟨n1,n2⟩:=qpO hsb hb hxy
   refine drg0 ?_
   have g2:(W.set (q+1) [.str (f0 y),.sl 1 (f1 y)]).getD q []=[.str (f0 y),.sl 1 (f1 y)]:=by
    rw [zt,List.getElem?_set_ne (by omega)]
    exact g0
   simp only [ZZ,WW,Ze,reduceCtorEq,zd,ze,zb,zf,za,hWl,e1,g1,g0,g2,s1,List.length_set,qlX]
   ((repeat' (with_reducible apply And.intro))<;>try ((exact sc_)))
   refine qac ((q)) [.row (.b 0),.p (int 0),.p (int (l.length:Nat)),.p (.clo g ps),oo,oo,oo,oo,.p (int (i:Nat)),.p (int ((q):Nat)),oo,oo,oo,oo,oo,oo,oo,oo,oo,oo,oo,oo,oo,oo,oo,oo,oo,oo,oo,oo,oo,oo,oo,oo,oo,oo,oo,oo,oo,oo,oo,oo,oo,oo,oo,oo,oo,oo,oo,oo,oo,oo,oo] [(.b 0,.row (((A')++x :: ((y :: B)++R)).map (fun x=>([.str (f0 x),.sl 1 (f1 x)]:List PV))) qhj 2 true)] (by omega) (by (simp only [ZZ,WW,Ze,reduceCtorEq,zd,ze,zb,zf,za];try trivial)) (by (simp only [ZZ,WW,Ze,reduceCtorEq,zd,ze,zb,zf,za];try trivial)) ⟨q,A',y :: B,rfl,hq,by simp;omega,n1,n2,by simpa using (List.Perm.append_left A' (List.Perm.swap y x (B++R))).trans hpb,rfl,rfl⟩
  ·intro hlt2
   have hxy:ltC cf x y=false:=hlt2
   simp only [ZZ,WW,Ze,reduceCtorEq,zd,ze,zb,zf,za]
   ((repeat' (with_reducible apply And.intro))<;>try ((exact sc_)))
   rw [← hW]
   have hfin:SrtP (ltC cf) ((A'++[y])++x :: B):=qkm hO hsb hb (.inr ⟨A',y,rfl,hxy⟩)
   have hrow2:A'++y :: x :: (B++R)=((A'++[y])++x :: B)++R:=by simp
   rw [hrow2] at hpb ⊢
   refine qac (l.length - (i+1)) [.row (.b 0),.p (int 0),.p (int (l.length:Nat)),.p (.clo g ps),oo,oo,oo,oo,.p (int ((i+1):Nat)),oo,oo,oo,oo,oo,oo,oo,oo,oo,oo,oo,oo,oo,oo,oo,oo,oo,oo,oo,oo,oo,oo,oo,oo,oo,oo,oo,oo,oo,oo,oo,oo,oo,oo,oo,oo,oo,oo,oo,oo,oo,oo,oo,oo] [(.b 0,.row ((((A'++[y])++x :: B)++(R)).map (fun x=>([.str (f0 x),.sl 1 (f1 x)]:List PV))) qhj 2 true)] (by omega) (by (simp only [ZZ,WW,Ze,reduceCtorEq,zd,ze,zb,zf,za];try trivial)) (by (simp only [ZZ,WW,Ze,reduceCtorEq,zd,ze,zb,zf,za];try trivial)) ⟨i+1,(A'++[y])++x :: B,R,rfl,by omega,.inl (by simp;omega),hpb,hfin,rfl,rfl⟩
theorem qry {α:Type} (f0:α→List UInt8) (f1:α→List (List PV)) (cf:α→α→Int) (hO:OrdP (ltC cf)) (g:FuncId) (ps:List PV) (hg:Unit→fnB Tryz.prog g=true) (l:List α) (hl:l.length≤12) (hc:∀ x∈l,∀ y∈l,PCall Tryz.prog E g (.agg [.str (f0 x),.sl 1 (f1 x)] :: .agg [.str (f0 y),.sl 1 (f1 y)] :: ps) (·=int (cf x y)))
  (hn:∀ x y,Zbh [] (.p (.agg [.str (f0 x),.sl 1 (f1 x)]) :: .p (.agg [.str (f0 y),.sl 1 (f1 y)]) :: ps.map .p)=some (.agg [.str (f0 x),.sl 1 (f1 x)] :: .agg [.str (f0 y),.sl 1 (f1 y)] :: ps)) (hr:∀ x y,Zbj (.p (.agg [.str (f0 x),.sl 1 (f1 x)]) :: .p (.agg [.str (f0 y),.sl 1 (f1 y)]) :: ps.map .p)=true) (lim:Nat):RCall Tryz.prog E 170 qhj 2 (l.map (fun x=>([.str (f0 x),.sl 1 (f1 x)]:List PV))) [int 0,int (l.length:Nat),int (lim:Nat),.clo g ps] (fun x es'=>x=.tup []∧∃ l':List α,es'=l'.map (fun x=>([.str (f0 x),.sl 1 (f1 x)]:List PV))∧l'.Perm l∧SrtP (ltC cf) l'):=by
 unfold RCall
 refine qf4 mixed Tryz.func170 qdy ?_
 simp only [a0,l0,OS.ao,zj,zo,zi,zn,zl,zm,zp,zd,zh,zk,List.length_map,qbo,qbm,ZZ,WW,Ze,reduceCtorEq,zd,ze,zb,zf,za]
 refine qad (fun n fr L=>(0:Nat)=n∧fr=[.row (.b 0),.p (int 0),.p (int (l.length:Nat)),.p (int (lim:Nat)),.p (.clo g ps),oo,oo,oo,oo,oo,.p (.bool true),.p (.bool true),oo,oo,oo,oo,oo,oo,oo,oo,oo,oo,oo,oo,oo,oo,oo,oo,oo,oo,oo,oo,oo,oo,oo,oo,oo,oo,oo,oo,oo,oo,oo,oo,oo,oo,oo,oo,oo,oo,oo,oo,oo,oo,oo,oo,oo,oo,oo,oo,oo,oo,oo,oo,oo,oo,oo,oo,oo,oo,oo,oo,oo,oo,oo,oo,oo,oo,oo,oo,oo,oo,oo,oo,oo,oo,oo,oo,oo,oo,oo,oo,oo,oo,oo,oo,oo,oo,oo,oo,oo,oo,oo,oo,oo,oo,oo,oo,oo,oo,oo,oo,oo,oo,oo,oo,oo,oo,oo,oo,oo,oo,oo,oo,oo,oo,oo,oo,oo,oo,oo,oo,oo,oo,oo,oo,oo,oo,oo,oo,oo,oo,oo,oo,oo,oo,oo,oo]∧L=[(.b 0,.row (l.map (fun x=>([.str (f0 x),.sl 1 (f1 x)]:List PV))) qhj 2 true)]) ((0:Nat)) [.row (.b 0),.p (int 0),.p (int (l.length:Nat)),.p (int (lim:Nat)),.p (.clo g ps),oo,oo,oo,oo,oo,.p (.bool true),.p (.bool true),oo,oo,oo,oo,oo,oo,oo,oo,oo,oo,oo,oo,oo,oo,oo,oo,oo,oo,oo,oo,oo,oo,oo,oo,oo,oo,oo,oo,oo,oo,oo,oo,oo,oo,oo,oo,oo,oo,oo,oo,oo,oo,oo,oo,oo,oo,oo,oo,oo,oo,oo,oo,oo,oo,oo,oo,oo,oo,oo,oo,oo,oo,oo,oo,oo,oo,oo,oo,oo,oo,oo,oo,oo,oo,oo,oo,oo,oo,oo,oo,oo,oo,oo,oo,oo,oo,oo,oo,oo,oo,oo,oo,oo,oo,oo,oo,oo,oo,oo,oo,oo,oo,oo,oo,oo,oo,oo,oo,oo,oo,oo,oo,oo,oo,oo,oo,oo,oo,oo,oo,oo,oo,oo,oo,oo,oo,oo,oo,oo,oo,oo,oo,oo,oo,oo,oo] [(.b 0,.row (l.map (fun x=>([.str (f0 x),.sl 1 (f1 x)]:List PV))) qhj 2 true)] (by (simp only [ZZ,WW,Ze,reduceCtorEq,zd,ze,zb,zf,za];try trivial)) (by (simp only [ZZ,WW,Ze,reduceCtorEq,zd,ze,zb,zf,za];try trivial)) ⟨rfl,rfl,rfl⟩ ?_
 rintro n fr L ⟨rfl,rfl,rfl⟩
 simp only [qa6,ZZ,WW,Ze,reduceCtorEq,zd,ze,zb,zf,za]
 have h12:decide ((l.length:Int)≤12)=true:=by rw [decide_eq_true_eq];omega
 simp only [ZZ,WW,Ze,reduceCtorEq,zd,ze,zb,zf,za,h12,Int.sub_zero]
 refine ⟨qar (by omega) (by omega),?_⟩
 refine useR (qmE f0 f1 cf hO g ps hg l hl hc hn hr) rfl rfl rfl zE_ ?_
 rintro x es ⟨rfl,l',rfl,hp,hs⟩
 simp only [ZZ,WW,Ze,reduceCtorEq,zd,ze,zb,zf,za]
 exact qjJ _ rfl ⟨rfl,l',rfl,hp,hs⟩
theorem qpb {α:Type} (f0:α→List UInt8) (f1:α→List (List PV)) (cf:α→α→Int) (hO:OrdP (ltC cf)) (g:FuncId) (ps:List PV) (hg:Unit→fnB Tryz.prog g=true) (l:List α) (hl:l.length≤12) (hc:∀ x∈l,∀ y∈l,PCall Tryz.prog E g (.agg [.str (f0 x),.sl 1 (f1 x)] :: .agg [.str (f0 y),.sl 1 (f1 y)] :: ps) (·=int (cf x y)))
  (hn:∀ x y,Zbh [] (.p (.agg [.str (f0 x),.sl 1 (f1 x)]) :: .p (.agg [.str (f0 y),.sl 1 (f1 y)]) :: ps.map .p)=some (.agg [.str (f0 x),.sl 1 (f1 x)] :: .agg [.str (f0 y),.sl 1 (f1 y)] :: ps)) (hr:∀ x y,Zbj (.p (.agg [.str (f0 x),.sl 1 (f1 x)]) :: .p (.agg [.str (f0 y),.sl 1 (f1 y)]) :: ps.map .p)=true):RCall Tryz.prog E 87 qhj 2 (l.map (fun x=>([.str (f0 x),.sl 1 (f1 x)]:List PV))) [.clo g ps] (fun x es'=>x=.tup []∧∃ l':List α,es'=l'.map (fun x=>([.str (f0 x),.sl 1 (f1 x)]:List PV))∧l'.Perm l∧SrtP (ltC cf) l'):=by
 have wr:IntKind.u64.wrap (l.length:Int)=l.length:=by simp [IntKind.wrap,IntKind.bits,IntKind.signed];omega
 unfold RCall
 refine qf4 mixed Tryz.func87 qcA ?_
 simp only [a0,l0,OS.ao,zj,zo,zi,zn,zl,zm,zp,zd,zh,zk,List.length_map,qaW,qaV,ZZ,WW,Ze,reduceCtorEq,zd,ze,zb,zf,za]
 rw [wr]
 refine use1 (qmW (l.length:Nat) (by omega) (by omega)) rfl (.inl rfl) ?_
 generalize Lib.bitLen _=lim
 simp only [ZZ,WW,Ze,reduceCtorEq,zd,ze,zb,zf,za]
 refine useR (qry f0 f1 cf hO g ps hg l hl hc hn hr lim) rfl rfl rfl zE_ ?_
 rintro x es ⟨rfl,l',rfl,hp,hs⟩
 simp only [ZZ,WW,Ze,reduceCtorEq,zd,ze,zb,zf,za]
 exact qjJ _ rfl ⟨rfl,l',rfl,hp,hs⟩
end
def qfY:IC:=(.seq (.reg [qO 2 (.mov (.c (.bool false)))]) (.seq (.reg [qM 3 0,qM 4 0,qO 5 (.bin .neq (.t 3) (.t 4)),qM 2 5]) .ret))
def qfK:List IRes:=[.t 2]
theorem qiL:chkF Tryz.prog Tryz.f284 qfY qfK 6=true:=by kernel_rfl
def qhs:IC:=(.seq (.reg [qO 2 (.mov (.c (.bool false)))]) (.seq (.reg [qM 3 0,qM 4 0,qO 5 (.bin .neq (.t 3) (.t 4)),qM 2 5]) .ret))
def qho:List IRes:=[.t 2]
theorem qke:chkF Tryz.prog Tryz.f173 qhs qho 6=true:=by kernel_rfl
def qeX:IC:=(.seq (.reg [qO 4 (.mov (.c (.int .i64 0)))]) (.seq (.reg [qM 7 0,qO 8 (.call 284 [.t 7]),qM 5 8]) (.seq (.reg [qM 9 1,qO 10 (.call 284 [.t 9]),qM 6 10]) (.seq (.seq (.reg [qM 11 5]) (.cond (.t 11) (.seq (.seq (.reg [qM 12 6]) (.cond (.t 12) (.seq (.reg [qO 4 (.mov (.c (.int .i64 0)))]) .ret) .skip)) (.seq (.reg [qO 4 (.mov (.c (.int .i64 (-1))))]) .ret)) .skip)) (.seq (.seq (.reg [qM 13 6]) (.cond (.t 13) (.seq (.reg [qO 4 (.mov (.c (.int .i64 1)))]) .ret) .skip)) (.seq (.seq (.reg [qM 14 0,qM 15 1,qO 16 (.bin .lss (.t 14) (.t 15))]) (.cond (.t 16) (.seq (.reg [qO 4 (.mov (.c (.int .i64 (-1))))]) .ret) .skip)) (.seq (.seq (.reg [qM 17 0,qM 18 1,qO 19 (.bin .gtr (.t 17) (.t 18))]) (.cond (.t 19) (.seq (.reg [qO 4 (.mov (.c (.int .i64 1)))]) .ret) .skip)) (.seq (.reg [qO 4 (.mov (.c (.int .i64 0)))]) .ret))))))))
def qeO:List IRes:=[.t 4]
theorem qhW:chkF Tryz.prog Tryz.f227 qeX qeO 20=true:=by kernel_rfl
def qgl:IC:=(.seq (.reg [qO 4 (.mov (.c (.int .i64 0)))]) (.seq (.reg [qM 7 0,qO 8 (.call 173 [.t 7]),qM 5 8]) (.seq (.reg [qM 9 1,qO 10 (.call 173 [.t 9]),qM 6 10]) (.seq (.seq (.reg [qM 11 5]) (.cond (.t 11) (.seq (.seq (.reg [qM 12 6]) (.cond (.t 12) (.seq (.reg [qO 4 (.mov (.c (.int .i64 0)))]) .ret) .skip)) (.seq (.reg [qO 4 (.mov (.c (.int .i64 (-1))))]) .ret)) .skip)) (.seq (.seq (.reg [qM 13 6]) (.cond (.t 13) (.seq (.reg [qO 4 (.mov (.c (.int .i64 1)))]) .ret) .skip)) (.seq (.seq (.reg [qM 14 0,qM 15 1,qO 16 (.bin .lss (.t 14) (.t 15))]) (.cond (.t 16) (.seq (.reg [qO 4 (.mov (.c (.int .i64 (-1))))]) .ret) .skip)) (.seq (.seq (.reg [qM 17 0,qM 18 1,qO 19 (.bin .gtr (.t 17) (.t 18))]) (.cond (.t 19) (.seq (.reg [qO 4 (.mov (.c (.int .i64 1)))]) .ret) .skip)) (.seq (.reg [qO 4 (.mov (.c (.int .i64 0)))]) .ret))))))))
def qgc:List IRes:=[.t 4]
theorem qjk:chkF Tryz.prog Tryz.f90 qgl qgc 20=true:=by kernel_rfl
def qht:IC:=(.seq (.reg [qO 9 (.bin .lss (.t 8) (.t 7))]) (.seq (.cond (.t 9) .skip (.exit 0)) (.seq (.block 1 (.seq (.reg [qO 10 (.ixa 1 (.t 6) (.t 8)),qO 11 (.ld 1 false (.t 10)),qM 5 11]) (.seq (.reg [qM 12 5,qM 13 3,qO 14 (.bin .neq (.t 12) (.t 13))]) (.cond (.t 14) (.seq (.reg [qM 15 5,qM 2 15]) .ret) .skip)))) (.reg [qO 16 (.bin .add (.t 8) (.c (.int .i64 1))),qM 8 16]))))
def qi9:IC:=(.seq (.reg [qO 2 (.mov (.c (.int .i64 0)))]) (.seq (.reg [qO 3 (.mov (.c (.int .i64 0)))]) (.seq (.seq (.reg [qM 6 0,qO 7 (.len (.t 6)),qO 8 (.mov (.c (.int .i64 0)))]) (.block 0 (.loop qht))) (.seq (.reg [qM 17 3,qM 2 17]) .ret))))
def qi0:List IRes:=[.t 2]
theorem qmN:chkF Tryz.prog Tryz.f91 qi9 qi0 18=true:=by kernel_rfl
def qbu:IC:=(.seq (.reg [qO 12 (.bin .lss (.t 11) (.t 10))]) (.seq (.cond (.t 12) .skip (.exit 0)) (.seq (.block 1 (.seq (.reg [qM 13 11,qO 14 (.ixa 1 (.t 9) (.t 11)),qO 15 (.ld 1 false (.t 14)),qM 5 13,qM 6 15]) (.seq (.seq (.reg [qM 16 5,qM 17 1,qO 18 (.len (.t 17)),qO 19 (.bin .geq (.t 16) (.t 18))]) (.cond (.t 19) (.seq (.reg [qO 4 (.mov (.c (.int .i64 1)))]) .ret) .skip)) (.seq (.reg [qM 20 1,qM 21 5,qO 22 (.ixa 1 (.t 20) (.t 21)),qO 23 (.ld 1 false (.t 22)),qM 7 23]) (.seq (.reg [qM 24 6,qM 25 7,qO 26 (.call 227 [.t 24,.t 25]),qM 8 26]) (.seq (.reg [qM 27 8,qO 28 (.bin .neq (.t 27) (.c (.int .i64 0)))]) (.cond (.t 28) (.seq (.reg [qM 29 8,qM 4 29]) .ret) .skip))))))) (.reg [qO 30 (.bin .add (.t 11) (.c (.int .i64 1))),qM 11 30]))))
def qbZ:IC:=(.seq (.reg [qO 4 (.mov (.c (.int .i64 0)))]) (.seq (.seq (.reg [qM 9 0,qO 10 (.len (.t 9)),qO 11 (.mov (.c (.int .i64 0)))]) (.block 0 (.loop qbu))) (.seq (.seq (.reg [qM 31 0,qO 32 (.len (.t 31)),qM 33 1,qO 34 (.len (.t 33)),qO 35 (.bin .lss (.t 32) (.t 34))]) (.cond (.t 35) (.seq (.reg [qO 4 (.mov (.c (.int .i64 (-1))))]) .ret) .skip)) (.seq (.reg [qO 4 (.mov (.c (.int .i64 0)))]) .ret))))
def qbP:List IRes:=[.t 4]
theorem qeC:chkF Tryz.prog Tryz.f168 qbZ qbP 36=true:=by kernel_rfl
theorem qsm:∀ a b:List UInt8,Lib.compareBytes a b=if bytesLess a b=true then -1 else if (!(bytesLess a b || decide (a=b)))=true then 1 else 0
 |[],[]=>by decide
 |[],b :: s=>by simp [Lib.compareBytes,bytesLess,Op.bytesLess]
 |a :: r,[]=>by simp [Lib.compareBytes,bytesLess,Op.bytesLess]
 |a :: r,b :: s=>by
  have ih:=qsm r s
  have e:bytesLess (a :: r) (b :: s)=(decide (a < b) || (a == b && bytesLess r s)):=by simp [bytesLess,Op.bytesLess]
  simp only [Lib.compareBytes]
  rw [e]
  by_cases h1:a < b
  ·rw [if_pos h1,decide_eq_true h1]
   rfl
  ·rw [if_neg h1,decide_eq_false h1,Bool.false_or]
   by_cases h2:a=b
   ·subst h2
    rw [if_neg h1,ih]
    simp
   ·have h3:b < a:=by
     rw [UInt8.lt_iff_toNat_lt] at *
     have:a.toNat≠b.toNat:=fun e=>h2 (UInt8.toNat_inj.1 e)
     omega
    have h4:(a == b)=false:=by simpa using h2
    rw [if_pos h3,h4]
    simp [h2]
def sgnC (a b:Int):Int:=if a < b then -1 else if b < a then 1 else 0
section
variable {E:Envt}
theorem qnL (s:List UInt8):PCall Tryz.prog E 284 [.str s] (·=.bool false):=by
 refine qag mixed Tryz.func284 qiL ?_
 simp only [a0,l0,OS.ao,zj,zo,zi,zn,zl,zm,zp,zd,zh,zk,qfY,qfK,ZZ,WW,Ze,reduceCtorEq,zd,ze,zb,zf,za]
 simp
theorem qnM (n:Int):PCall Tryz.prog E 173 [int n] (·=.bool false):=by
 refine qag mixed Tryz.func173 qke ?_
 simp only [a0,l0,OS.ao,zj,zo,zi,zn,zl,zm,zp,zd,zh,zk,qhs,qho,ZZ,WW,Ze,reduceCtorEq,zd,ze,zb,zf,za]
 simp
theorem qpf (a b:List UInt8):PCall Tryz.prog E 227 [.str a,.str b] (·=int (Lib.compareBytes a b)):=by
 refine qag mixed Tryz.func227 qhW ?_
 simp only [a0,l0,OS.ao,zj,zo,zi,zn,zl,zm,zp,zd,zh,zk,qeX,qeO,ZZ,WW,Ze,reduceCtorEq,zd,ze,zb,zf,za]
 refine use1 (qnL a) rfl (.inl rfl) ?_
 simp only [ZZ,WW,Ze,reduceCtorEq,zd,ze,zb,zf,za]
 refine use1 (qnL b) rfl (.inl rfl) ?_
 simp only [ZZ,WW,Ze,reduceCtorEq,zd,ze,zb,zf,za]
 rw [qsm]
 refine br ?_ ?_
 ·intro h
  simp only [ZZ,WW,Ze,reduceCtorEq,zd,ze,zb,zf,za]
  rw [if_pos h]
 intro h
 simp only [ZZ,WW,Ze,reduceCtorEq,zd,ze,zb,zf,za]
 refine br ?_ ?_
 ·intro h2
  simp only [ZZ,WW,Ze,reduceCtorEq,zd,ze,zb,zf,za]
  rw [if_neg (by rw [h];decide),if_pos h2]
 intro h2
 simp only [ZZ,WW,Ze,reduceCtorEq,zd,ze,zb,zf,za]
 rw [if_neg (by rw [h];decide),if_neg (by rw [h2];decide)]
theorem qiS (a b:Int):PCall Tryz.prog E 90 [int a,int b] (·=int (sgnC a b)):=by
 refine qag mixed Tryz.func90 qjk ?_
 simp only [a0,l0,OS.ao,zj,zo,zi,zn,zl,zm,zp,zd,zh,zk,qgl,qgc,ZZ,WW,Ze,reduceCtorEq,zd,ze,zb,zf,za]
 refine use1 (qnM a) rfl (.inl rfl) ?_
 simp only [ZZ,WW,Ze,reduceCtorEq,zd,ze,zb,zf,za]
 refine use1 (qnM b) rfl (.inl rfl) ?_
 simp only [ZZ,WW,Ze,reduceCtorEq,zd,ze,zb,zf,za]
 unfold sgnC
 refine br ?_ ?_
 ·intro h
  simp only [ZZ,WW,Ze,reduceCtorEq,zd,ze,zb,zf,za]
  rw [if_pos (of_decide_eq_true h)]
 intro h
 simp only [ZZ,WW,Ze,reduceCtorEq,zd,ze,zb,zf,za]
 refine br ?_ ?_
 ·intro h2
  simp only [ZZ,WW,Ze,reduceCtorEq,zd,ze,zb,zf,za]
  rw [if_neg (of_decide_eq_false h),if_pos (of_decide_eq_true h2)]
 intro h2
 simp only [ZZ,WW,Ze,reduceCtorEq,zd,ze,zb,zf,za]
 rw [if_neg (of_decide_eq_false h),if_neg (of_decide_eq_false h2)]
theorem qsF (l:List Int) (hl:l.length≤1000000):PCall Tryz.prog E 91 [ints l] (·=int (qaf l)):=by
 refine qag mixed Tryz.func91 qmN ?_
 simp only [a0,l0,OS.ao,zj,zo,zi,zn,zl,zm,zp,zd,zh,zk,qi9,qi0,ZZ,WW,Ze,reduceCtorEq,zd,ze,zb,zf,za]
 simp only [ints,ZZ,WW,Ze,reduceCtorEq,zd,ze,zb,zf,za]
 generalize hes:l.map (fun x=>[PV.int IntKind.i64 x])=es
 have hln:es.length=l.length:=by rw [← hes];simp
 refine qad (fun n fr L=>∃ (k:Nat),k≤l.length∧n=l.length - k∧(qaf l=qaf (l.drop k))∧fr=[.p (.sl 1 es),oo,.p (int 0),.p (int 0),oo,oo,.p (.sl 1 es),.p (int (es.length:Nat)),.p (int (k:Nat)),oo,oo,oo,oo,oo,oo,oo,oo,oo]∧L=[]) (l.length) [.p (.sl 1 es),oo,.p (int 0),.p (int 0),oo,oo,.p (.sl 1 es),.p (int (es.length:Nat)),.p (int (0:Nat)),oo,oo,oo,oo,oo,oo,oo,oo,oo] [] zF_ (by (simp only [ZZ,WW,Ze,reduceCtorEq,zd,ze,zb,zf,za];try trivial)) ⟨0,by omega,by omega,rfl,rfl,rfl⟩ ?_
 rintro n fr L ⟨k,hk,rfl,hF,rfl,rfl⟩
 simp only [qht,ZZ,WW,Ze,reduceCtorEq,zd,ze,zb,zf,za]
 refine br ?_ ?_
 ·intro h
  have hlt:k < l.length:=by have:=of_decide_eq_true h;omega
  obtain ⟨x,hx⟩:∃ x,l[k]?=some x:=⟨_,List.getElem?_eq_getElem hlt⟩
  have hg:es.getD k []=[.int .i64 x]:=by rw [← hes];exact qaH hx
  have hd:=qbr l k x hx
  simp only [ZZ,WW,Ze,reduceCtorEq,zd,ze,zb,zf,za,hg]
  ((repeat' (with_reducible apply And.intro))<;>try ((exact sc_)))
  refine br ?_ ?_
  ·intro h2
   have h3:¬ x=0:=by simpa using h2
   simp only [ZZ,WW,Ze,reduceCtorEq,zd,ze,zb,zf,za]
   rw [hF,hd,if_neg h3]
  ·intro h2
   have h3:x=0:=by simpa using h2
   rw [if_pos h3] at hd
   simp only [ZZ,WW,Ze,reduceCtorEq,zd,ze,zb,zf,za]
   ((repeat' (with_reducible apply And.intro))<;>try ((exact sc_)))
   refine qac (l.length - (k+1)) [.p (.sl 1 es),oo,.p (int 0),.p (int 0),oo,oo,.p (.sl 1 es),.p (int (es.length:Nat)),.p (int ((k+1):Nat)),oo,oo,oo,oo,oo,oo,oo,oo,oo] [] (by omega) (by (simp only [ZZ,WW,Ze,reduceCtorEq,zd,ze,zb,zf,za];try trivial)) (by (simp only [ZZ,WW,Ze,reduceCtorEq,zd,ze,zb,zf,za];try trivial)) ⟨k+1,by omega,rfl,by rw [hF,hd],rfl,rfl⟩
 ·intro h
  have hge:l.length≤k:=by have:=of_decide_eq_false h;omega
  simp only [ZZ,WW,Ze,reduceCtorEq,zd,ze,zb,zf,za]
  rw [hF,List.drop_eq_nil_of_le (by omega)]
  rfl
theorem qcL (s t:List UInt8):PCall Tryz.prog E 89 [.str s,.str t] (·=int (Lib.compareBytes s t)):=
 qbW rfl rfl fun w _=>(Any.strings_Compare Tryz.layCompare ⟨s.toArray⟩ ⟨t.toArray⟩ w).mono fun e w' h=>⟨h.1,by rw [h.2];exact Grow.refl _ _⟩
def lexC:List (List UInt8)→List (List UInt8)→Int
 |[],[]=>0
 |[],_ :: _=>-1
 |_ :: _,[]=>1
 |a :: r,b :: s=>if Lib.compareBytes a b=0 then lexC r s else Lib.compareBytes a b
theorem qod (u v:List (List UInt8)) (hu:u.length≤1000000) (hv:v.length≤1000000):PCall Tryz.prog E 168 [.sl 1 (strE u),.sl 1 (strE v)] (·=int (lexC u v)):=by
 refine qag mixed Tryz.func168 qeC ?_
 simp only [a0,l0,OS.ao,zj,zo,zi,zn,zl,zm,zp,zd,zh,zk,qbZ,qbP,ZZ,WW,Ze,reduceCtorEq,zd,ze,zb,zf,za]
 simp only [ZZ,WW,Ze,reduceCtorEq,zd,ze,zb,zf,za,qal]
 refine qad (fun n fr L=>∃ (k:Nat),k≤u.length∧n=u.length - k∧(lexC u v=lexC (u.drop k) (v.drop k)∧k≤v.length)∧fr=[.p (.sl 1 (strE u)),.p (.sl 1 (strE v)),oo,oo,oo,oo,oo,oo,oo,.p (.sl 1 (strE u)),.p (int (u.length:Nat)),.p (int (k:Nat)),oo,oo,oo,oo,oo,oo,oo,oo,oo,oo,oo,oo,oo,oo,oo,oo,oo,oo,oo,oo,oo,oo,oo,oo]∧L=[]) (u.length) [.p (.sl 1 (strE u)),.p (.sl 1 (strE v)),oo,oo,oo,oo,oo,oo,oo,.p (.sl 1 (strE u)),.p (int (u.length:Nat)),.p (int (0:Nat)),oo,oo,oo,oo,oo,oo,oo,oo,oo,oo,oo,oo,oo,oo,oo,oo,oo,oo,oo,oo,oo,oo,oo,oo] [] (by simp only [ZZ,WW,Ze,reduceCtorEq,zd,ze,zb,zf,za,qal];try trivial) (by (simp only [ZZ,WW,Ze,reduceCtorEq,zd,ze,zb,zf,za];try trivial)) ⟨0,by omega,by omega,⟨rfl,by omega⟩,rfl,rfl⟩ ?_
 rintro n fr L ⟨k,hk,rfl,hF,rfl,rfl⟩
 simp only [qbu,ZZ,WW,Ze,reduceCtorEq,zd,ze,zb,zf,za]
 obtain ⟨hF,hkv⟩:=hF
 refine br ?_ ?_
 ·intro h
  have hlt:k < u.length:=by have:=of_decide_eq_true h;omega
  obtain ⟨x,hx⟩:∃ x,u[k]?=some x:=⟨_,List.getElem?_eq_getElem hlt⟩
  have hg:=qic hx
  have hdu:u.drop k=x :: u.drop (k+1):=by rw [List.drop_eq_getElem_cons hlt,(List.getElem?_eq_some_iff.1 hx).2]
  simp only [ZZ,WW,Ze,reduceCtorEq,zd,ze,zb,zf,za,hg,qal]
  ((repeat' (with_reducible apply And.intro))<;>try ((exact sc_)))
  refine br ?_ ?_
  ·intro h2
   have hge:v.length≤k:=by have:=of_decide_eq_true h2;omega
   simp only [ZZ,WW,Ze,reduceCtorEq,zd,ze,zb,zf,za]
   rw [hF,hdu,List.drop_eq_nil_of_le hge]
   rfl
  intro h2
  have hlv:k < v.length:=by have:=of_decide_eq_false h2;omega
  obtain ⟨y,hy⟩:∃ y,v[k]?=some y:=⟨_,List.getElem?_eq_getElem hlv⟩
  have hgy:=qic hy
  have hdv:v.drop k=y :: v.drop (k+1):=by rw [List.drop_eq_getElem_cons hlv,(List.getElem?_eq_some_iff.1 hy).2]
  simp only [ZZ,WW,Ze,reduceCtorEq,zd,ze,zb,zf,za,hgy,qal]
  ((repeat' (with_reducible apply And.intro))<;>try ((exact sc_)))
  refine use1 (qpf x y) rfl (.inl rfl) ?_
  simp only [ZZ,WW,Ze,reduceCtorEq,zd,ze,zb,zf,za]
  refine br ?_ ?_
  ·intro h3
   have h4:¬ Lib.compareBytes x y=0:=by simpa using h3
   simp only [ZZ,WW,Ze,reduceCtorEq,zd,ze,zb,zf,za]
   rw [hF,hdu,hdv,lexC,if_neg h4]
  ·intro h3
   have h4:Lib.compareBytes x y=0:=by simpa using h3
   simp only [ZZ,WW,Ze,reduceCtorEq,zd,ze,zb,zf,za]
   ((repeat' (with_reducible apply And.intro))<;>try ((exact sc_)))
   refine qac (u.length - (k+1)) [.p (.sl 1 (strE u)),.p (.sl 1 (strE v)),oo,oo,oo,oo,oo,oo,oo,.p (.sl 1 (strE u)),.p (int (u.length:Nat)),.p (int ((k+1):Nat)),oo,oo,oo,oo,oo,oo,oo,oo,oo,oo,oo,oo,oo,oo,oo,oo,oo,oo,oo,oo,oo,oo,oo,oo] [] (by omega) (by (simp only [ZZ,WW,Ze,reduceCtorEq,zd,ze,zb,zf,za];try trivial)) (by (simp only [ZZ,WW,Ze,reduceCtorEq,zd,ze,zb,zf,za];try trivial)) ⟨k+1,by omega,rfl,⟨by rw [hF,hdu,hdv,lexC,if_pos h4],by omega⟩,rfl,rfl⟩
 ·intro h
  have hge:u.length=k:=by have:=of_decide_eq_false h;omega
  simp only [ZZ,WW,Ze,reduceCtorEq,zd,ze,zb,zf,za,qal]
  rw [List.drop_eq_nil_of_le (by omega)] at hF
  refine br ?_ ?_
  ·intro h2
   have hlv:k < v.length:=by have:=of_decide_eq_true h2;omega
   simp only [ZZ,WW,Ze,reduceCtorEq,zd,ze,zb,zf,za]
   rw [hF,List.drop_eq_getElem_cons hlv]
   rfl
  ·intro h2
   have hlv:v.length≤k:=by have:=of_decide_eq_false h2;omega
   simp only [ZZ,WW,Ze,reduceCtorEq,zd,ze,zb,zf,za]
   rw [hF,List.drop_eq_nil_of_le hlv]
   rfl
end
section
variable {E:Envt}
theorem qm9 (l:List (List UInt8)) (f:FuncId) (ps:List PV) (q:List UInt8→Bool) (hl:l.length≤1000000000) (hfn:Unit→fnB Tryz.prog f=true) (hps:Zl [] (ps.map .p)=true) (hf:∀ x∈l,PCall Tryz.prog E f (.str x :: ps) (·=.bool (q x))) (hn:∀ x,Zbh [] (.p (.str x) :: ps.map .p)=some (.str x :: ps)) (hr:∀ x,Zbj (.p (.str x) :: ps.map .p)=true):PCall Tryz.prog E 169 [.sl 1 (strE l),.clo f ps] (·=int (idxF q l)):=by
 refine qag mixed Tryz.func169 qea ?_
 simp only [a0,l0,OS.ao,zj,zo,zi,zn,zl,zm,zp,zd,zh,zk,qbC,qbB,ZZ,WW,Ze,reduceCtorEq,zd,ze,zb,zf,za]
 simp only [ZZ,WW,Ze,reduceCtorEq,zd,ze,zb,zf,za,qal]
 refine qad (fun n fr L=>∃ (k:Nat),k≤l.length∧n=l.length - k∧(∀ x∈l.take k,q x=false)∧fr=[.p (.sl 1 (strE l)),.p (.clo f ps),oo,oo,oo,oo,oo,.p (int (l.length:Nat)),.p (int (k:Nat)),oo,oo,oo,oo,oo,oo,oo,oo,oo,oo]∧L=[]) (l.length) [.p (.sl 1 (strE l)),.p (.clo f ps),oo,oo,oo,oo,oo,.p (int (l.length:Nat)),.p (int (0:Nat)),oo,oo,oo,oo,oo,oo,oo,oo,oo,oo] [] (by simp only [qal,ZZ,WW,Ze,reduceCtorEq,zd,ze,zb,zf,za];try trivial) (by (simp only [ZZ,WW,Ze,reduceCtorEq,zd,ze,zb,zf,za];try trivial)) ⟨0,by omega,by omega,by simp,rfl,rfl⟩ ?_
 rintro n fr L ⟨k,hk,rfl,hno,rfl,rfl⟩
 simp only [qbi,ZZ,WW,Ze,reduceCtorEq,zd,ze,zb,zf,za]
 refine br ?_ ?_
 ·intro h
  have hlt:k < l.length:=by have:=of_decide_eq_true h;omega
  obtain ⟨x,hx⟩:∃ x,l[k]?=some x:=⟨_,List.getElem?_eq_getElem hlt⟩
  have hg:=qic hx
  simp only [ZZ,WW,Ze,reduceCtorEq,zd,ze,zb,zf,za,hg,qal,hfn ()]
  refine ⟨⟨by omega,by omega⟩,by omega,hps,?_⟩
  refine use1 (hf x (List.mem_of_getElem? hx)) (hn x) (.inl (hr x)) ?_
  simp only [ZZ,WW,Ze,reduceCtorEq,zd,ze,zb,zf,za]
  refine br ?_ ?_
  ·intro hq
   simp only [ZZ,WW,Ze,reduceCtorEq,zd,ze,zb,zf,za]
   rw [qg2 hx hq hno]
  ·intro hq
   simp only [ZZ,WW,Ze,reduceCtorEq,zd,ze,zb,zf,za]
   ((repeat' (with_reducible apply And.intro))<;>try ((exact sc_)))
   refine qac (l.length - (k+1)) [.p (.sl 1 (strE l)),.p (.clo f ps),oo,oo,oo,oo,oo,.p (int (l.length:Nat)),.p (int ((k+1):Nat)),oo,oo,oo,oo,oo,oo,oo,oo,oo,oo] [] (by omega) (by (simp only [ZZ,WW,Ze,reduceCtorEq,zd,ze,zb,zf,za];try trivial)) (by (simp only [ZZ,WW,Ze,reduceCtorEq,zd,ze,zb,zf,za];try trivial)) ⟨k+1,by omega,rfl,by rw [List.take_succ_eq_append_getElem hlt];intro y hy;rcases List.mem_append.1 hy with hy|hy;exact hno y hy;rw [List.mem_singleton] at hy;rw [hy,(List.getElem?_eq_some_iff.1 hx).2];exact hq,rfl,rfl⟩
 ·intro h
  have hge:l.length≤k:=by have:=of_decide_eq_false h;omega
  rw [List.take_of_length_le hge] at hno
  simp only [ZZ,WW,Ze,reduceCtorEq,zd,ze,zb,zf,za]
  rw [qe5 hno]
theorem qfi (l:List (List UInt8)) (f:FuncId) (ps:List PV) (q:List UInt8→Bool) (hl:l.length≤1000000000) (hfn:Unit→fnB Tryz.prog f=true) (hps:Zl [] (ps.map .p)=true) (hf:∀ x∈l,PCall Tryz.prog E f (.str x :: ps) (·=.bool (q x))) (hn:∀ x,Zbh [] (.p (.str x) :: ps.map .p)=some (.str x :: ps)) (hr:∀ x,Zbj (.p (.str x) :: ps.map .p)=true):PCall Tryz.prog E 84 [.sl 1 (strE l),.clo f ps] (·=.bool (l.any q)):=by
 refine qag mixed Tryz.func84 qdu ?_
 simp only [a0,l0,OS.ao,zj,zo,zi,zn,zl,zm,zp,zd,zh,zk,qbk,qbh,ZZ,WW,Ze,reduceCtorEq,zd,ze,zb,zf,za]
 refine use1 (qm9 l f ps q hl hfn hps hf hn hr) rfl (.inl rfl) ?_
 simp only [ZZ,WW,Ze,reduceCtorEq,zd,ze,zb,zf,za]
 rw [qjd]
end
def RulIs (kv:List (List UInt8×PV)) (l:List Rul):Prop:=∀ s,(∃ r,l.reverse.find? (fun r=>decide (r.id=s))=some r∧mpF kv s=some (.agg (rlV r)))∨(l.reverse.find? (fun r=>decide (r.id=s))=none∧(mpF kv s=none∨mpF kv s=some (.agg [.str s,int 3,.nl 2])))
theorem RulIs.nil:RulIs [] []:=fun s=>.inr ⟨rfl,.inl rfl⟩
theorem RulIs.leave {kv:List (List UInt8×PV)} (h:RulIs kv []) (s:List UInt8):RulIs (mpS kv s (.agg [.str s,int 3,.nl 2])) []:=fun t=>by
 refine .inr ⟨rfl,?_⟩
 rw [qiG]
 by_cases hs:s=t
 ·rw [if_pos hs,hs]
  exact .inr rfl
 ·rw [if_neg hs]
  rcases h t with ⟨r,h1,_⟩|⟨_,h2⟩
  ·cases h1
  ·exact h2
theorem RulIs.put {kv:List (List UInt8×PV)} {l:List Rul} (h:RulIs kv l) (r:Rul):RulIs (mpS kv r.id (.agg (rlV r))) (l++[r]):=fun s=>by
 rw [qiG,List.reverse_append,List.reverse_singleton,List.singleton_append,List.find?_cons]
 by_cases hs:r.id=s
 ·rw [if_pos hs]
  exact .inl ⟨r,by simp [hs],rfl⟩
 ·rw [if_neg hs]
  simp only [hs,decide_false]
  exact h s
theorem qkp:∀ {l:List Rul} (s:List UInt8),(l.map (·.id)).Nodup→l.reverse.find? (fun r=>decide (r.id=s))=l.find? fun r=>decide (r.id=s)
 |[],s,_=>rfl
 |r :: t,s,h=>by
  rw [zj,List.nodup_cons] at h
  rw [List.reverse_cons,List.find?_append,qkp s h.2]
  simp only [List.find?_cons,List.find?_nil]
  by_cases hs:r.id=s
  ·have:t.find? (fun r=>decide (r.id=s))=none:=by
    rw [List.find?_eq_none]
    intro x hx e
    rw [decide_eq_true_eq] at e
    exact h.1 (List.mem_map.2 ⟨x,hx,by rw [e,hs]⟩)
   rw [this]
   simp [hs]
  ·simp only [hs,decide_false]
   generalize t.find? (fun r=>decide (r.id=s))=q
   cases q<;>simp [hs]
theorem RulIs.what {kv:List (List UInt8×PV)} {l:List Rul} (h:RulIs kv l) (hn:(l.map (·.id)).Nodup) (s:List UInt8):∃ i w v,(mpF kv s).getD (.agg [.str [],int 0,.nl 2])=.agg [i,int w,v]∧decide (w=1)=ql2 l s:=by
 unfold ql2 rlOf
 rcases h s with ⟨r,h1,h2⟩|⟨h1,h2|h2⟩
 ·rw [qkp s hn] at h1
  exact ⟨_,_,_,by rw [h2];rfl,by rw [h1];rfl⟩
 ·rw [qkp s hn] at h1
  exact ⟨_,_,_,by rw [h2];rfl,by rw [h1];rfl⟩
 ·rw [qkp s hn] at h1
  exact ⟨_,_,_,by rw [h2];rfl,by rw [h1];rfl⟩
theorem cf3 {α:Type} (a b c:α→α→Int) (x y:α):orC a (orC b c) x y=qaf [a x y,b x y,c x y]:=by
 unfold orC qaf qaf qaf qaf
 split
 ·split
  ·split
   ·assumption
   ·rfl
  ·rfl
 ·rfl
section
variable {E:Envt}
end
def ctB (c:UInt8):Bool:=decide (c.toNat / 64=2)
def NcP (l:List UInt8):Prop:=∀ i,i+3 < l.length→∃ j,j≤3∧ctB (l.getD (i+j) 0)=false
theorem qiF {l:List UInt8} (h:NcP l) (k:Nat):NcP (l.drop k):=by
 intro i hi
 rw [List.length_drop] at hi
 obtain ⟨j,hj,e⟩:=h (k+i) (by omega)
 refine ⟨j,hj,?_⟩
 rw [List.getD_eq_getElem?_getD,List.getElem?_drop,← Nat.add_assoc,← List.getD_eq_getElem?_getD]
 exact e
theorem qwf {l:List UInt8} (h:NcP l) (k:Nat):NcP (l.take k):=by
 intro i hi
 rw [List.length_take] at hi
 obtain ⟨j,hj,e⟩:=h i (by omega)
 refine ⟨j,hj,?_⟩
 rw [List.getD_eq_getElem?_getD,List.getElem?_take,if_pos (by omega),← List.getD_eq_getElem?_getD]
 exact e
theorem qtZ:∀ b:Fin 256,ctB (UInt8.ofNat b.val)=true→128≤b.val∧¬ Lib.firstT b.val % 8=2∧¬ Lib.firstT b.val % 8=3∧¬ Lib.firstT b.val % 8=4:=by decide +kernel
theorem qse (c:UInt8) (h:ctB c=true):128≤c.toNat∧¬ Lib.firstT c.toNat % 8=2∧¬ Lib.firstT c.toNat % 8=3∧¬ Lib.firstT c.toNat % 8=4:=by
 have:=qtZ ⟨c.toNat,c.toNat_lt⟩
 simp only [UInt8.ofNat_toNat] at this
 exact this h
theorem qlt {l:List UInt8} (hl:Lib.validD l=true) (hne:l≠[]):ctB (l.getD 0 0)=false:=by
 cases h:ctB (l.getD 0 0) with
 |false=>rfl
 |true=>
  exfalso
  obtain ⟨h1,h2,h3,h4⟩:=qse _ h
  rw [Lib.validD_lead l hne h1] at hl
  unfold Lib.checkN at hl
  rw [if_neg h2,if_neg h3,if_neg h4] at hl
  cases hl
theorem qp0 {n a b c sz lo hi k:Nat} (h:Lib.checkN n a b c sz lo hi=some k):1≤k∧k≤4:=by
 unfold Lib.checkN at h
 repeat' split at h
 all_goals first|(cases h;done)|(cases h;omega)
theorem qqc {l:List UInt8} (hl:Lib.validD l=true) (hne:l≠[]):∃ k,1≤k∧k≤4∧Lib.validD (l.drop k)=true:=by
 by_cases h:128≤(l.getD 0 0).toNat
 ·rw [Lib.validD_lead l hne h] at hl
  split at hl
  ·cases hl
  ·rename_i k hk
   exact ⟨k,(qp0 hk).1,(qp0 hk).2,hl⟩
 ·cases l with
  |nil=>exact absurd rfl hne
  |cons b t=>
   simp only [List.getD_cons_zero] at h
   rw [Lib.validD_cons b t (by omega)] at hl
   exact ⟨1,by omega,by omega,hl⟩
theorem qpM:∀ (n:Nat) (l:List UInt8),l.length≤n→Lib.validD l=true→NcP l
 |0,l,hn,_=>fun i hi=>by omega
 |n+1,l,hn,hl=>by
  by_cases hne:l=[]
  ·subst hne
   intro i hi
   simp at hi
  ·have h0:=qlt hl hne
   obtain ⟨k,h1,h2,h3⟩:=qqc hl hne
   have ih:=qpM n (l.drop k) (by rw [List.length_drop];have:=List.length_pos_iff.2 hne;omega) h3
   intro i hi
   by_cases hik:k≤i
   ·obtain ⟨j,hj,e⟩:=ih (i - k) (by rw [List.length_drop];omega)
    refine ⟨j,hj,?_⟩
    rw [List.getD_eq_getElem?_getD,List.getElem?_drop,← List.getD_eq_getElem?_getD,show k+(i - k+j)=i+j from by omega] at e
    exact e
   ·by_cases hi0:i=0
    ·subst hi0
     exact ⟨0,by omega,h0⟩
    ·have h4:=qlt h3 (by intro e;have:=congrArg List.length e;rw [List.length_drop] at this;simp at this;omega)
     rw [List.getD_eq_getElem?_getD,List.getElem?_drop,← List.getD_eq_getElem?_getD] at h4
     refine ⟨k - i,by omega,?_⟩
     rw [show i+(k - i)=k+0 from by omega]
     exact h4
theorem qpu (c:UInt8):∀ s:List UInt8,(∃ n,(sp c s).headD []=s.take n)∧∀ x∈sp c s,∃ a n,x=(s.drop a).take n
 |[]=>⟨⟨0,rfl⟩,fun x hx=>⟨0,0,by simpa [sp] using hx⟩⟩
 |y :: s=>by
  obtain ⟨⟨n,h1⟩,h2⟩:=qpu c s
  rw [sp]
  split
  ·refine ⟨⟨0,rfl⟩,fun x hx=>?_⟩
   rcases List.mem_cons.1 hx with rfl|hx
   ·exact ⟨0,0,rfl⟩
   ·obtain ⟨a,m,e⟩:=h2 x hx
    exact ⟨a+1,m,by simpa using e⟩
  ·refine ⟨⟨n+1,show y :: (sp c s).headD []=y :: s.take n by rw [h1]⟩,fun x hx=>?_⟩
   rcases List.mem_cons.1 hx with rfl|hx
   ·exact ⟨0,n+1,show y :: (sp c s).headD []=y :: s.take n by rw [h1]⟩
   ·obtain ⟨a,m,e⟩:=h2 x (List.mem_of_mem_tail hx)
    exact ⟨a+1,m,by simpa using e⟩
theorem qzn {c:UInt8} {s:List UInt8} (h:NcP s):∀ x∈sp c s,NcP x:=by
 intro x hx
 obtain ⟨a,n,rfl⟩:=(qpu c s).2 x hx
 exact qwf (qiF h a) n
theorem qmF {l:List UInt8} {i:Nat} (h:i < l.length):insE l (i:Int)=ctB (l.getD i 0):=by
 unfold insE ctB
 rw [Int.toNat_natCast,Bool.eq_iff_iff]
 simp only [zg,decide_eq_true_eq]
 omega
def liW (l:List UInt8):Int:=Lib.lastIndexByte ⟨(l.take 81).toArray⟩ 32
def brkB (l:List UInt8):Bool:=decide (0 < liW l) && !decide (Lib.trimS (l.take (liW l).toNat) [32]=[])
def wrF:Nat→List UInt8→SRow
 |0,l=>[l]
 |n+1,l=>if 80 < l.length then (if brkB l=true then l.take (liW l).toNat :: wrF n (l.drop ((liW l).toNat+1)) else l.take (qby l 80) :: wrF n (l.drop (qby l 80))) else [l]
theorem qhD {n:Nat} {l:List UInt8} (h:l.length≤80):wrF n l=[l]:=by
 cases n with
 |zero=>rfl
 |succ n=>rw [wrF,if_neg (by omega)]
theorem qmZ {l:List UInt8} (h:NcP l) (hl:80 < l.length):77≤qby l 80∧ctB (l.getD (qby l 80) 0)=false:=by
 obtain ⟨j,hj,e⟩:=h 77 (by omega)
 have key:∀ n,77+j≤n→n≤80→77+j≤qby l n∧ctB (l.getD (qby l n) 0)=false:=by
  intro n
  induction n with
  |zero=>intro h;omega
  |succ n ih=>
   intro h1 h2
   rw [qby]
   by_cases hc:insE l ((n+1:Nat):Int)=true
   ·rw [if_pos hc]
    by_cases hn:77+j=n+1
    ·rw [qmF (by omega),← hn,e] at hc;cases hc
    ·exact ih (by omega) (by omega)
   ·rw [if_neg hc]
    rw [qmF (by omega)] at hc
    exact ⟨h1,by simpa using hc⟩
 have:=key 80 (by omega) (by omega)
 exact ⟨by omega,this.2⟩
theorem qon:∀ (n:Nat) (l:List UInt8),(wrF n l).length≤n+1
 |0,l=>by simp [wrF]
 |n+1,l=>by
  rw [wrF]
  split
  ·split
   ·have:=qon n (l.drop ((liW l).toNat+1))
    simp;omega
   ·have:=qon n (l.drop (qby l 80))
    simp;omega
  ·simp
def qgD (ls:SRow):SRow:=ls.flatMap fun l=>wrF l.length l
theorem qkx (ls:SRow):(qgD ls).length≤wgt ls:=by
 induction ls with
 |nil=>simp [qgD]
 |cons x r ih=>
  have:=qon x.length x
  unfold qgD at ih ⊢
  rw [List.flatMap_cons,List.length_append,wgt]
  omega
theorem qqa {ls:SRow} {k:Nat} {s:List UInt8} (h:ls[k]?=some s):qgD (ls.take (k+1))=qgD (ls.take k)++wrF s.length s:=by
 obtain ⟨hk,rfl⟩:=List.getElem?_eq_some_iff.1 h
 rw [List.take_succ_eq_append_getElem hk,qgD,qgD,List.flatMap_append]
 simp
theorem qlT {ls:SRow} {k:Nat}:(qgD (ls.take k)).length≤(qgD ls).length:=by
 conv=>rhs;rw [← List.take_append_drop k ls]
 rw [qgD,qgD,List.flatMap_append,List.length_append]
 omega
def qfw:IC:=(.seq (.reg [qO 2 (.mov (.c (.nl 1)))]) (.seq (.reg [qM 4 0,qO 5 (.call 242 [.t 4,.c (.str [10])]),qM 3 5]) (.seq (.reg [qM 6 3,qM 7 3,qO 8 (.len (.t 7)),qO 9 (.bin .sub (.t 8) (.c (.int .i64 1))),qO 10 (.vsl 1 (.t 6) none (some (.t 9))),qM 2 10]) .ret)))
def qfn:List IRes:=[.t 2]
theorem qip:chkF Tryz.prog Tryz.f261 qfw qfn 11=true:=by kernel_rfl
def qdh:IC:=(.seq (.reg [qO 2 (.mov (.c (.bool false)))]) (.seq (.reg [qM 3 0,qO 4 (.bin .and (.t 3) (.c (.int .u8 192))),qO 5 (.bin .neq (.t 4) (.c (.int .u8 128))),qM 2 5]) .ret))
def qc8:List IRes:=[.t 2]
theorem qgu:chkF Tryz.prog Tryz.f263 qdh qc8 6=true:=by kernel_rfl
section
variable {E:Envt}
theorem qxY (s:List UInt8) (c:UInt8):-1≤liF s c∧liF s c < s.length∨s=[]∧liF s c=-1:=by
 rcases Lib.lastIndexByte_spec ⟨s.toArray⟩ (c.toNat:Nat) with ⟨h1,h2⟩|⟨i,h0,h1,h2,h3⟩
 ·by_cases h:s=[]
  ·exact .inr ⟨h,h1⟩
  ·have:=List.length_pos_iff.2 h
   refine .inl ?_
   rw [liF,h1];omega
 ·rw [qgB] at h0
  refine .inl ?_
  rw [liF,h1];omega
theorem qvK:∀ n:Fin 256,(!decide (bitA IntKind.u8 (((UInt8.ofNat n.val).toNat:Nat):Int) 192=128))=!ctB (UInt8.ofNat n.val):=by decide +kernel
theorem qof (c:UInt8):PCall Tryz.prog E 263 [.int .u8 (c.toNat:Nat)] (·=.bool (!ctB c)):=by
 refine qag mixed Tryz.func263 qgu ?_
 simp only [a0,l0,OS.ao,zj,zo,zi,zn,zl,zm,zp,zd,zh,zk,qdh,qc8,ZZ,WW,Ze,reduceCtorEq,zd,ze,zb,zf,za]
 have:=qvK ⟨c.toNat,c.toNat_lt⟩
 simp only [UInt8.ofNat_toNat] at this
 rw [this]
end
def qfr (s:List UInt8):List (List UInt8)×Bool:=if s=[] then ([],true) else (splF (qo1 s [10]).1 10,(qo1 s [10]).2)
theorem qve (s:List UInt8) (c:UInt8):splF s c≠[]:=by
 have hl:=Lib.splitB_all ⟨#[c]⟩ (Nat.le_refl 1) 0 _ (⟨s.toArray⟩:ByteArray) rfl
 intro h
 have:=congrArg List.length h
 simp [splF,hl] at this
def qgZ (s:List UInt8):List (List UInt8):=(splF s 10).take ((splF s 10).length - 1)
theorem qqt (s:List UInt8) (hs:s.length≤1000000000):PCall Tryz.prog E0 261 [.str s] (·=strs (qgZ s)):=by
 refine qag mixed Tryz.func261 qip ?_
 simp only [a0,l0,OS.ao,zj,zo,zi,zn,zl,zm,zp,zd,zh,zk,qfw,qfn,ZZ,WW,Ze,reduceCtorEq,zd,ze,zb,zf,za]
 refine use1 (qur s 10 hs) rfl (.inl rfl) ?_
 rw [qou]
 have h1:=qsY s 10
 have h2:=qve s 10
 have h3:0 < (splF s 10).length:=List.length_pos_iff.2 h2
 have h4:(((splF s 10).length:Int) - 1).toNat=(splF s 10).length - 1:=by omega
 have h5:strs (qgZ s)=.sl 1 ((strE (splF s 10)).take ((splF s 10).length - 1)):=by rw [qou,qgZ,strE,List.map_take];rfl
 rw [h5]
 simp only [ZZ,WW,Ze,reduceCtorEq,zd,ze,zb,zf,za,qal,h4]
 exact ⟨qar (by omega) (by omega),by omega,by omega⟩
theorem qpN {s:List UInt8} (h:qjy s=true):qgZ s=(qfr s).1:=by
 by_cases h0:s=[]
 ·subst h0
  rw [qfr,if_pos rfl,qgZ,qkC]
  rfl
 ·have h1:sufE s [10]=true:=by
   simp only [qjy,h0,decide_false,Bool.false_or,zg] at h
   exact h.2
  have h2:=h1
  simp only [sufE,zg,decide_eq_true_eq,zi,zn] at h2
  have e:s=s.take (s.length - 1)++10 :: []:=by
   conv=>lhs;rw [← List.take_append_drop (s.length - 1) s]
   rw [h2.2]
  rw [qfr,if_neg h0]
  simp only [qo1,if_pos h1,zi,zn]
  rw [qgZ,qkC,qkC]
  generalize ht:s.take (s.length - (0+1))=t
  rw [show s.length - (0+1)=s.length - 1 from rfl] at ht
  rw [ht] at e
  rw [e,qxk]
  simp [sp]
theorem qsS (k:Nat) (a:SRow):wgt (a.take k)≤wgt a:=by
 conv=>rhs;rw [← List.take_append_drop k a]
 rw [qu1]
 omega
theorem qiH {s:List UInt8} (h:qjy s=true):wgt (qfr s).1≤s.length+1∧(qfr s).1.length≤s.length+1∧∀ x∈(qfr s).1,NcP x∧x.length≤s.length:=by
 rw [← qpN h]
 have hv:Lib.validD s=true:=by
  have:=(Bool.and_eq_true_iff.1 h).1
  exact (Bool.and_eq_true_iff.1 this).2
 have hn:=qpM s.length s (Nat.le_refl _) hv
 have h1:=qsS ((splF s 10).length - 1) (splF s 10)
 have h2:=qxi 10 s
 rw [← qkC] at h2
 have h3:=qu0 (qgZ s)
 refine ⟨by unfold qgZ;omega,by unfold qgZ at h3 ⊢;omega,fun x hx=>?_⟩
 have hx2:x∈splF s 10:=List.take_subset _ _ hx
 refine ⟨?_,qsX s 10 x hx2⟩
 rw [qkC] at hx2
 exact qzn hn x hx2
def pgIn (p:SRow) (k:Nat):Tab:=(List.range ((k - 1) / 50)).map (pgF p)
def pgCu (p:SRow) (k:Nat):SRow:=(p.take k).drop ((k - 1) / 50 * 50)
theorem qmp {p:SRow} {k:Nat} (hk:k≤p.length):(pgCu p k).length=k - (k - 1) / 50 * 50:=by
 rw [pgCu,List.length_drop,List.length_take,Nat.min_eq_left hk]
theorem qtm (p:SRow) (k:Nat):(pgIn p k).length=(k - 1) / 50:=by simp [pgIn]
theorem qkA {p:SRow} {k:Nat} {s:List UInt8} (h:p[k]?=some s):p.take (k+1)=p.take k++[s]:=by
 obtain ⟨hk,rfl⟩:=List.getElem?_eq_some_iff.1 h
 exact List.take_succ_eq_append_getElem hk
theorem qxG {p:SRow} {s:List UInt8} (h:p[0]?=some s):pgIn p 1=[]∧pgCu p 1=[s]:=by
 refine ⟨rfl,?_⟩
 rw [pgCu,qkA h]
 rfl
theorem qv3 {p:SRow} {k:Nat} {s:List UInt8} (hk:0 < k) (h50:(pgCu p k).length=50) (h:p[k]?=some s):pgIn p (k+1)=pgIn p k++[pgCu p k]∧pgCu p (k+1)=[s]:=by
 have hl:=(List.getElem?_eq_some_iff.1 h).1
 rw [qmp (by omega)] at h50
 have e:(k+1 - 1) / 50=(k - 1) / 50+1:=by omega
 have e2:((k - 1) / 50+1) * 50=k:=by omega
 refine ⟨?_,?_⟩
 ·rw [pgIn,e,List.range_succ,List.map_append]
  congr 1
  rw [zj,zo,pgF,pgCu,List.drop_take,h50]
 ·rw [pgCu,e,e2,qkA h,List.drop_append_of_le_length (by rw [List.length_take];omega)]
  rw [List.drop_eq_nil_of_le (by rw [List.length_take];omega)]
  rfl
theorem qv2 {p:SRow} {k:Nat} {s:List UInt8} (hk:0 < k) (h50:¬ (pgCu p k).length=50) (h:p[k]?=some s):pgIn p (k+1)=pgIn p k∧pgCu p (k+1)=pgCu p k++[s]:=by
 have hl:=(List.getElem?_eq_some_iff.1 h).1
 rw [qmp (by omega)] at h50
 have e:(k+1 - 1) / 50=(k - 1) / 50:=by omega
 refine ⟨by rw [pgIn,e];rfl,?_⟩
 rw [pgCu,e,qkA h,List.drop_append_of_le_length (by rw [List.length_take];omega)]
 rfl
theorem qxH {p:SRow} (h:¬ p=[]):pgIn p p.length++[pgCu p p.length]=pgsF p:=by
 have hl:0 < p.length:=by have:=mt zq h;omega
 have e:(p.length+49) / 50=(p.length - 1) / 50+1:=by omega
 rw [pgsF,if_neg h,e,List.range_succ,List.map_append]
 congr 1
 rw [zj,zo,pgCu,List.take_length,pgF,List.take_of_length_le (by rw [List.length_drop];omega)]
theorem qv4 {p:SRow} {k:Nat} (hk:k≤p.length):(pgCu p k).length≤50:=by
 rw [qmp hk];omega
def qjx (x:Itm):List UInt8:=x.2.2.2.2.2.2
def pgR (il:List Itm) (l:List Rul) (s:Stp) (id:List UInt8):Tab:=
 if (rlOf l id).what=1 then pgsF (qgD (qfr (qc5 (qjx (itOf il id)) (rlOf l id).spans)).1) else if (rlOf l id).what=2 then [[s.slip]] else [[s.skip]]
def kdR (l:List Rul) (id:List UInt8):Int:=if (rlOf l id).what=1 then 1 else if (rlOf l id).what=2 then 2 else 3
def shM (il:List Itm) (l:List Rul) (s:Stp) (n:Int) (p:List UInt8×List UInt8):Sht:=⟨p.2,p.1,kdR l p.2,n+1,n+(pgR il l s p.2).length,pgR il l s p.2,1⟩
def shsM (il:List Itm) (l:List Rul) (s:Stp):Int→List (List UInt8×List UInt8)→List Sht
 |_,[]=>[]
 |n,p :: r=>shM il l s n p :: shsM il l s (n+(pgR il l s p.2).length) r
def totM (il:List Itm) (l:List Rul) (s:Stp):List (List UInt8×List UInt8)→Int
 |[]=>0
 |p :: r=>(pgR il l s p.2).length+totM il l s r
theorem qne (il:List Itm) (l:List Rul) (s:Stp):∀ (ps:List (List UInt8×List UInt8)) (p:List UInt8×List UInt8),totM il l s (ps++[p])=totM il l s ps+(pgR il l s p.2).length
 |[],p=>by simp [totM]
 |q :: r,p=>by
  rw [zl,totM,totM,qne il l s r p]
  omega
theorem qlV (il:List Itm) (l:List Rul) (s:Stp):∀ ps:List (List UInt8×List UInt8),0≤totM il l s ps
 |[]=>Int.le_refl _
 |q :: r=>by
  have:=qlV il l s r
  rw [totM]
  omega
theorem qng (il:List Itm) (l:List Rul) (s:Stp):∀ (n:Int) (ps:List (List UInt8×List UInt8)) (p:List UInt8×List UInt8),shsM il l s n (ps++[p])=shsM il l s n ps++[shM il l s (n+totM il l s ps) p]
 |n,[],p=>by simp [shsM,totM]
 |n,q :: r,p=>by
  rw [zl,shsM,shsM,qng il l s _ r p,totM,zl,Int.add_assoc]
theorem qid (il:List Itm) (l:List Rul) (s:Stp):∀ (n:Int) (ps:List (List UInt8×List UInt8)),(shsM il l s n ps).length=ps.length
 |n,[]=>rfl
 |n,q :: r=>by rw [shsM,zi,zi,qid il l s _ r]
theorem qpx {il:List Itm} {l:List Rul} {s:Stp}:∀ {n:Int} {ps:List (List UInt8×List UInt8)} {x:Sht},x∈shsM il l s n ps→∃ p q,p++[q] <+: ps∧x=shM il l s (n+totM il l s p) q
 |n,[],x,h=>by simp [shsM] at h
 |n,q :: r,x,h=>by
  rw [shsM,List.mem_cons] at h
  rcases h with rfl|h
  ·exact ⟨[],q,⟨r,rfl⟩,by simp [totM]⟩
  ·obtain ⟨p,q2,⟨t,ht⟩,rfl⟩:=qpx h
   refine ⟨q :: p,q2,⟨t,by rw [← ht];rfl⟩,?_⟩
   rw [totM,Int.add_assoc]
def famP (il:List Itm) (t:List UInt8):List (List UInt8×List UInt8):=(t :: kidsF il t).map fun i=>(t,i)
def prsM (il:List Itm) (l:List Rul) (ord:Int):List (List UInt8×List UInt8):=(chS il l ord).flatMap (famP il)
def pagT (past:List Prd) (pre:List UInt8):List Int:=past.flatMap fun q=>if q.pre=pre then q.shs.map (·.to_) else []
def qoN (past:List Prd) (pre:List UInt8):Int:=(pagT past pre).foldl max 0
theorem qr4 (l:List Int) (x n:Int):(l++[x]).foldl max n=max (l.foldl max n) x:=by rw [List.foldl_append];rfl
theorem qr5 {B:Int}:∀ (l:List Int) (n:Int),0≤n→n≤B→(∀ x∈l,x≤B)→0≤l.foldl max n∧l.foldl max n≤B
 |[],n,h0,h1,_=>⟨h0,h1⟩
 |x :: r,n,h0,h1,h=>by
  have h2:=h x (by simp)
  exact qr5 r (max n x) (by omega) (by omega) fun y hy=>h y (by simp [hy])
def idsT (past:List Prd):List (List UInt8):=past.flatMap fun q=>q.shs.map (·.id)
theorem qtJ (past:List Prd) (s:List UInt8):decide (s∈idsT past)=qiy past s:=by
 unfold idsT qiy
 rw [Bool.eq_iff_iff,decide_eq_true_eq,List.mem_flatMap,List.any_eq_true]
 constructor
 ·rintro ⟨q,hq,h⟩
  obtain ⟨y,hy,rfl⟩:=List.mem_map.1 h
  exact ⟨q,hq,List.any_eq_true.2 ⟨y,hy,by simp⟩⟩
 ·rintro ⟨q,hq,h⟩
  obtain ⟨y,hy,e⟩:=List.any_eq_true.1 h
  exact ⟨q,hq,List.mem_map.2 ⟨y,hy,by simpa using e⟩⟩
def pmA (il:List Itm) (l:List Rul) (s:Stp) (past:List Prd):Int:=qaf [rulF il l,setF s,pdsF past]
def pmB (il:List Itm) (l:List Rul) (s:Stp) (past:List Prd):Int:=
 if ((prsM il l s.ord).any fun p=>qiy past p.2)=true then 6 else if prsM il l s.ord=[] then 8 else if s.most < totM il l s (prsM il l s.ord) then 2
 else if powF s.dig≤qoN past s.pre+totM il l s (prsM il l s.ord) then 12 else 0
def pmE (il:List Itm) (l:List Rul) (s:Stp) (past:List Prd):Int:=
 if pmA il l s past=0 then (if past.length=200 then 12 else pmB il l s past) else pmA il l s past
def pmP (il:List Itm) (l:List Rul) (s:Stp) (past:List Prd):Prd:=
 if pmE il l s past=0 then ⟨(past.length:Nat)+1,s.pre,s.dig,shsM il l s (qoN past s.pre) (prsM il l s.ord)⟩ else pd0
structure ShB (x:Sht):Prop where
 id:x.id.length≤1000
 top:x.top.length≤1000
 kind:-1000≤x.kind∧x.kind≤1000
 fr_:-100000000000≤x.fr_∧x.fr_≤100000000000
 to_:-100000000000≤x.to_∧x.to_≤100000000000
 pages:x.pages.length≤100000
 page:∀ p∈x.pages,p.length≤1000000∧∀ z∈p,z.length≤1000000
 ver:-1000000≤x.ver∧x.ver≤1000000
structure PdB (p:Prd):Prop where
 no:-1000000≤p.no∧p.no≤1000000
 pre:p.pre.length≤1000
 dig:-1000≤p.dig∧p.dig≤1000
 shs:p.shs.length≤1000
 all:∀ x∈p.shs,ShB x
theorem qyC:PdB pd0:=⟨by decide,by decide,by decide,by decide,fun x hx=>by cases hx⟩
theorem qyA:ShB sh0:=⟨by decide,by decide,by decide,by decide,by decide,by decide,(fun p hp=>by cases hp),by decide⟩
theorem qpH {past:List Prd} (h:pdsF past=0):∀ q∈past,∀ x∈q.shs,1≤x.fr_∧x.fr_≤x.to_∧x.to_≤1000000000:=by
 intro q hq x hx
 have h2:qaf ((List.range past.length).map (pdsA past))=0:=by
  unfold pdsF at h
  split at h
  ·cases h
  ·exact h
 obtain ⟨j,hj⟩:=List.getElem?_of_mem hq
 have hjl:=(List.getElem?_eq_some_iff.1 hj).1
 have h3:=qaL h2 _ (List.mem_map.2 ⟨j,List.mem_range.2 hjl,rfl⟩)
 have h4:=qkS h3
 have e:past.getD j pd0=q:=by simp [zt,hj]
 rw [e] at h4
 obtain ⟨_,_,hh,h5⟩:=qmm h4
 obtain ⟨k,hk⟩:=List.getElem?_of_mem hx
 have h6:=qie h5 k (List.getElem?_eq_some_iff.1 hk).1
 have e2:q.shs.getD k sh0=x:=by simp [zt,hk]
 rw [e2] at h6
 have hd:q.dig≤9:=by
  unfold qe6 at hh
  have:=qaL hh (qaj (!inE q.dig 4 9) 1) (by simp)
  rw [qh9 (by decide)] at this
  simp only [Bool.not_eq_false',inE,zg,decide_eq_true_eq,Bool.not_eq_true',decide_eq_false_iff_not] at this
  omega
 have:=(qkR hd).2
 omega
theorem qmA {past:List Prd} (h:∀ q∈past,∀ x∈q.shs,x.to_≤1000000000) (pre:List UInt8):0≤qoN past pre∧qoN past pre≤1000000000:=by
 refine qr5 _ 0 (by omega) (by omega) fun x hx=>?_
 obtain ⟨q,hq,hx⟩:=List.mem_flatMap.1 hx
 split at hx
 ·obtain ⟨y,hy,rfl⟩:=List.mem_map.1 hx
  exact h q hq y hy
 ·cases hx
theorem qtO {il:List Itm} {id:List UInt8} {x:Itm} (h:getI il id=some x):x∈il∧x.1=id:=by
 unfold getI at h
 exact ⟨List.mem_of_find?_eq_some h,by simpa using List.find?_some h⟩
theorem quG {il:List Itm} (hP:qbE il) (id:List UInt8):(qjx (itOf il id)).length≤600∧okTx (qjx (itOf il id))=true∧(qjx (itOf il id)=[]∨sufE (qjx (itOf il id)) [10]=true):=by
 unfold itOf
 cases h:getI il id with
 |none=>exact ⟨by decide,rfl,.inl rfl⟩
 |some x=>
  obtain ⟨hm,_⟩:=qtO h
  obtain ⟨i,hi⟩:=List.getElem?_of_mem hm
  exact (hP.2 i x hi).b7
theorem qrk {il:List Itm} (hP:qbE il) (id:List UInt8) (l:List (Int×Int)):(qc5 (qjx (itOf il id)) l).length≤600∧qjy (qc5 (qjx (itOf il id)) l)=true:=by
 obtain ⟨h1,h2,h3⟩:=quG hP id
 refine ⟨by rw [qqj];exact h1,?_⟩
 unfold qjy
 rw [qmu _ _ (Nat.le_refl _) (qrj h2),Bool.true_and,Bool.or_eq_true,decide_eq_true_eq]
 exact qqi h3
theorem qom:∀ (n:Nat) (l:List UInt8),∀ x∈wrF n l,x.length≤l.length
 |0,l=>by simp [wrF]
 |n+1,l=>by
  rw [wrF]
  split
  ·split
   ·intro x hx
    rcases List.mem_cons.1 hx with rfl|hx
    ·simp;omega
    ·have:=qom n _ x hx
     simp at this;omega
   ·intro x hx
    rcases List.mem_cons.1 hx with rfl|hx
    ·simp;omega
    ·have:=qom n _ x hx
     simp at this;omega
  ·simp
theorem qru (L:SRow):0 < (pgsF L).length∧(pgsF L).length≤L.length+1∧∀ r∈pgsF L,r.length≤50∧∀ z∈r,z∈L:=by
 unfold pgsF
 split
 ·exact ⟨by simp,by simp,by simp⟩
 ·rename_i hne
  have:=List.length_pos_iff.2 hne
  refine ⟨by rw [List.length_map,List.length_range];omega,by rw [List.length_map,List.length_range];omega,fun r hr=>?_⟩
  obtain ⟨k,_,rfl⟩:=List.mem_map.1 hr
  rw [pgF]
  exact ⟨by rw [List.length_take];omega,fun z hz=>List.mem_of_mem_drop (List.mem_of_mem_take hz)⟩
theorem qrv {il:List Itm} (hP:qbE il) (l:List Rul) {s:Stp} (hs:StB s) (id:List UInt8):0 < (pgR il l s id).length∧(pgR il l s id).length≤1000∧∀ p∈pgR il l s id,p.length≤1000∧∀ z∈p,z.length≤1000:=by
 unfold pgR
 split
 ·obtain ⟨h1,h2⟩:=qrk hP id (rlOf l id).spans
  generalize qc5 (qjx (itOf il id)) (rlOf l id).spans=t at h1 h2 ⊢
  obtain ⟨f1,f2,f3⟩:=qiH h2
  have w1:=qkx (qfr t).1
  obtain ⟨g1,g2,g3⟩:=qru (qgD (qfr t).1)
  refine ⟨g1,by omega,fun p hp=>⟨by have:=(g3 p hp).1;omega,fun z hz=>?_⟩⟩
  obtain ⟨x,hx,hz2⟩:=List.mem_flatMap.1 ((g3 p hp).2 z hz)
  have:=qom x.length x z hz2
  have:=(f3 x hx).2
  omega
 ·split
  ·refine ⟨by simp,by simp,fun p hp=>?_⟩
   rw [List.mem_singleton] at hp
   subst hp
   exact ⟨by simp,fun z hz=>by rw [List.mem_singleton] at hz;subst hz;exact hs.b2⟩
  ·refine ⟨by simp,by simp,fun p hp=>?_⟩
   rw [List.mem_singleton] at hp
   subst hp
   exact ⟨by simp,fun z hz=>by rw [List.mem_singleton] at hz;subst hz;exact hs.b3⟩
theorem qlW {il:List Itm} (hP:qbE il) (l:List Rul) {s:Stp} (hs:StB s):∀ ps:List (List UInt8×List UInt8),totM il l s ps≤1000 * (ps.length:Nat)
 |[]=>by simp [totM]
 |q :: r=>by
  have h1:=qlW hP l hs r
  have h2:=(qrv hP l hs q.2).2.1
  rw [totM,zi]
  omega
theorem qpT (il:List Itm) (t:List UInt8):(famP il t).length≤il.length+1:=by
 have:=qgL il t
 simp [famP]
 omega
theorem qp1 (il:List Itm) (l:List Rul) (order:Int):(chS il l order).length≤il.length:=by
 unfold chS
 rw [List.length_mergeSort]
 exact Nat.le_trans (List.length_filter_le _ _) (qgL il [])
theorem qk3 {α β:Type} (f:α→List β) (m:Nat):∀ l:List α,(∀ x∈l,(f x).length≤m)→(l.flatMap f).length≤l.length * m
 |[],_=>by simp
 |x :: r,h=>by
  have h1:=qk3 f m r fun y hy=>h y (by simp [hy])
  have h2:=h x (by simp)
  rw [List.flatMap_cons,List.length_append,zi,Nat.succ_mul]
  omega
theorem qml {il:List Itm} (hil:il.length≤20) (l:List Rul) (ord:Int):(prsM il l ord).length≤420:=by
 have h1:=qk3 (famP il) 21 (chS il l ord) fun x _=>Nat.le_trans (qpT il x) (by omega)
 have h2:=qp1 il l ord
 have h3:(chS il l ord).length * 21≤20 * 21:=Nat.mul_le_mul_right 21 (by omega)
 unfold prsM
 omega
theorem qrQ {il:List Itm} (hP:qbE il) {s i:List UInt8} (h:i∈kidsF il s):i.length≤2:=by
 unfold kidsF at h
 obtain ⟨x,hx,rfl⟩:=List.mem_map.1 h
 have hx:=(List.mem_filter.1 hx).1
 obtain ⟨j,hj⟩:=List.getElem?_of_mem hx
 rw [(hP.2 j x hj).b1]
 simp [pid]
theorem qvU {il:List Itm} (hP:qbE il) {l:List Rul} {ord:Int} {p:List UInt8×List UInt8} (h:p∈prsM il l ord):p.1.length≤2∧p.2.length≤2:=by
 obtain ⟨t,ht,hp⟩:=List.mem_flatMap.1 h
 have h1:t.length≤2:=by
  unfold chS at ht
  rw [List.mem_mergeSort] at ht
  exact qrQ hP (List.mem_filter.1 ht).1
 obtain ⟨i,hi,rfl⟩:=List.mem_map.1 hp
 rcases List.mem_cons.1 hi with rfl|hi
 ·exact ⟨h1,h1⟩
 ·exact ⟨h1,qrQ hP hi⟩
theorem qql {α:Type} {p:List α} {q:α} {ps:List α} (h:p++[q] <+: ps):q∈ps∧p.length≤ps.length:=by
 obtain ⟨t,rfl⟩:=h
 exact ⟨by simp,by simp⟩
structure ShS (x:Sht):Prop where
 fr_:-10000000000≤x.fr_∧x.fr_≤10000000000
 to_:-10000000000≤x.to_∧x.to_≤10000000000
 pages:0 < x.pages.length∧x.pages.length≤1000
 page:∀ p∈x.pages,p.length≤1000
theorem qxo {il:List Itm} (hP:qbE il) (l:List Rul) {s:Stp} (hs:StB s) {n:Int} (h0:0≤n) (hn:n≤1000000000) (ord:Int):∀ x∈shsM il l s n (prsM il l ord),ShB x∧ShS x:=by
 intro x hx
 obtain ⟨p,q,hpre,rfl⟩:=qpx hx
 obtain ⟨hq,hpl⟩:=qql hpre
 obtain ⟨i1,i2⟩:=qvU hP hq
 obtain ⟨g1,g2,g3⟩:=qrv hP l hs q.2
 have t1:=qlW hP l hs p
 have t2:=qlV il l s p
 have t3:=qml hP.1 l ord
 have hk:1≤kdR l q.2∧kdR l q.2≤3:=by
  unfold kdR
  split
  ·omega
  ·split<;>omega
 refine ⟨⟨by show q.2.length≤1000;omega,by show q.1.length≤1000;omega,by show -1000≤kdR l q.2∧kdR l q.2≤1000;omega,?_,?_,by show (pgR il l s q.2).length≤100000;omega,fun p hp=>?_,by show (-1000000:Int)≤1∧(1:Int)≤1000000;omega⟩,⟨?_,?_,⟨g1,g2⟩,fun p hp=>(g3 p hp).1⟩⟩
 ·show -100000000000≤n+totM il l s p+1∧n+totM il l s p+1≤100000000000
  omega
 ·show -100000000000≤n+totM il l s p+(pgR il l s q.2).length∧n+totM il l s p+(pgR il l s q.2).length≤100000000000
  omega
 ·obtain ⟨a,b⟩:=g3 p hp
  exact ⟨by omega,fun z hz=>by have:=b z hz;omega⟩
 ·show -10000000000≤n+totM il l s p+1∧n+totM il l s p+1≤10000000000
  omega
 ·show -10000000000≤n+totM il l s p+(pgR il l s q.2).length∧n+totM il l s p+(pgR il l s q.2).length≤10000000000
  omega
def PgP (p:Prd):Prop:=∀ x∈p.shs,ShS x
theorem qyB {il:List Itm} (hP:qbE il) (l:List Rul) {s:Stp} (hs:StB s) (hd:-1000≤s.dig∧s.dig≤1000) {past:List Prd} (hpl:past.length≤1000):PdB (pmP il l s past)∧PgP (pmP il l s past):=by
 unfold pmP
 split
 ·rename_i h
  have hA:pmA il l s past=0:=by
   unfold pmE at h
   split at h
   ·rename_i h1;exact h1
   ·exact h
  have hp:pdsF past=0:=qaL hA _ (by simp)
  obtain ⟨b1,b2⟩:=qmA (fun q hq x hx=>(qpH hp q hq x hx).2.2) s.pre
  have hB:=qxo hP l hs b1 b2 s.ord
  have h3:=qml hP.1 l s.ord
  refine ⟨⟨by show -1000000≤((past.length:Nat):Int)+1∧((past.length:Nat):Int)+1≤1000000;omega,hs.b1,hd,by show (shsM il l s _ _).length≤1000;rw [qid];omega,fun x hx=>(hB x hx).1⟩,fun x hx=>(hB x hx).2⟩
 ·exact ⟨qyC,fun x hx=>by cases hx⟩
end Go.Proofs.YtehfjlpenlffmaaGreatDoor
