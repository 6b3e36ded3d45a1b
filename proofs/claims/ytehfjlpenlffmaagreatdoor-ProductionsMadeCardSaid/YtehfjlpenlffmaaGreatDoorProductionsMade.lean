import Derived.Test.YtehfjlpenlffmaaGreatDoorZ22
import Derived.Test.YtehfjlpenlffmaaGreatDoorZ21
set_option linter.unusedVariables false
set_option linter.unusedSimpArgs false
set_option linter.defProp false
namespace Go.Proofs.YtehfjlpenlffmaaGreatDoor
open Nat renaming reduceAdd→zd,reduceEqDiff→za,reduceLT→zf,reduceLeDiff→zb,reduceMul→ze
open Go.RowKit
def qda:IC:=(sR [qO 2 (.mov (.c (.bool false)))] (sR [qM 12 0,qO 13 (.bld [.nl 1,.int .i64 0] [(0,1,.t 12)]),qO 14 (.box 25 (.t 13)),qM 3 14] (sR [qM 15 3,qO 16 (.call 8 [.t 15,.c (.int .i64 7)]),qM 4 16] (sR [qM 18 3,qM 19 4,⟨none,.fz (.t 19),none⟩,qO 20 (.call 37 [.t 18,.t 19]),qM 17 20,qO 21 (.ext 0 (.t 17)),qO 22 (.ext 1 (.t 17)),qM 5 21,qM 6 22] (.seq (sR [qM 23 3,qO 24 (.call 9 [.t 23,.c (.int .i64 2)])] (.cond (.t 24) (.reg [qM 25 3,qM 26 4,⟨none,.fz (.t 26),none⟩,qO 27 (.call 17 [.t 25,.t 26]),qM 6 27]) .skip)) (.cut (sR [qM 28 3,qO 29 (.call 18 [.t 28]),qO 7 (.alc 45 [.str [],.int .i64 0,.int .i64 0,.str [],.str [],.int .i64 0]),qS 6 7 29] (sR [qM 31 4,qM 32 6,qO 33 (.ld 6 true (.t 7)),qM 34 5,qO 35 (.call 38 [.t 31,.t 32,.t 33,.t 34]),qM 30 35,qO 36 (.ext 0 (.t 30)),qO 37 (.ext 1 (.t 30)),qO 8 (.alc 36 [.int .i64 0,.str [],.int .i64 0,.nl 7]),qS 4 8 36,qM 9 37] (sR [qM 39 4,qM 40 6,qO 41 (.ld 6 true (.t 7)),qM 42 5,qO 43 (.call 39 [.t 39,.t 40,.t 41,.t 42]),qM 38 43,qO 44 (.ext 0 (.t 38)),qO 45 (.ext 1 (.t 38)),qO 10 (.alc 36 [.int .i64 0,.str [],.int .i64 0,.nl 7]),qS 4 10 44,qM 11 45] (sR [qO 46 (.call 14 []),qM 47 46,⟨some 48,.mov (.t 9),(some (47,true))⟩,⟨some 49,.mov (.t 11),(some (47,true))⟩,⟨some 50,.bin .eql (.t 48) (.t 49),(some (47,true))⟩,qO 51 (.pick (.t 47) (.t 50) (.c (.bool false))),qM 52 51,⟨some 53,.ld 4 true (.t 8),(some (52,true))⟩,⟨some 54,.ld 4 true (.t 10),(some (52,true))⟩,⟨some 55,.call 40 [.t 53,.t 54],(some (52,true))⟩,qO 56 (.pick (.t 52) (.t 55) (.c (.bool false))),qM 2 56] .ret))))))))))
def qc2:List IRes:=[.t 2]
theorem qgW:chkF Tryz.prog Tryz.f6 qda qc2 57=true:=by kernel_rfl
theorem up4T {f:FuncId} {t:TypeId} {cs args:List PV} {e z:Nat} {ψ:List (List PV)→List PV→List PV→Prop} (h:STup Tryz.prog E0 f t cs args e z ψ):STup Tryz.prog E4 f t cs args e z ψ:=fun w U vs v0 hU hE hEb hA hO=>h w U vs v0 hU hE.1 (fun c hc=>hEb c (.inl hc)) hA hO
theorem up4R {f:FuncId} {pre args:List PV} {e z:Nat} {es:List (List PV)} {ψ:PV→List (List PV)→Prop} (h:qoz Tryz.prog E0 f pre e z es args ψ):qoz Tryz.prog E4 f pre e z es args ψ:=fun w U us vs v0 hU hE hEb hU2 hA hO=>h w U us vs v0 hU hE.1 (fun c hc=>hEb c (.inl hc)) hU2 hA hO
set_option maxHeartbeats 4000000 in
theorem qlP (z:List Int) (hl:z.length≤9223372036854775807):PCall Tryz.prog E4 6 [ints z] (·=.bool true):=by
 refine qae mixed Tryz.func6 qgW ?_
 simp only [a0,l0,OS.ao,List.map_cons,List.map_nil,List.length_cons,List.length_nil,List.cons_append,List.nil_append,Nat.reduceSub,zd,List.replicate_succ,List.replicate_zero,qda,qc2,ZZ,WW,Zd,reduceCtorEq,zd,ze,zb,zf,za]
 simp only [ints,ZZ,WW,Zd,reduceCtorEq,zd,ze,zb,zf,za]
 refine useS (k:=.l 14) (quL z 0 7 (by omega) hl (by omega)) rfl rfl rfl zE_ ?_
 rintro x cs' ⟨il,k1,rfl,hil,hP,rfl,hk1⟩
 refine zS ?_
 refine qBo (k:=.l 14) (up4T (qmV z k1 il hP (by omega) (by omega) hl)) rfl rfl rfl zE_ ?_
 rintro es ps cs' ⟨o,u,k2,rfl,rfl,ho,hoB,hu,hub,rfl,hk2⟩
 refine zS ?_
 refine useS (k:=.l 14) (qgp z k2 2 (by omega) hl (by omega)) rfl rfl rfl zE_ ?_
 rintro x cs' ⟨f,rfl,rfl⟩
 refine zS ?_
 refine qoo (fun fr L=>∃ (v:List Rul) (k3:Nat),k3≤4000∧v.length≤1000000∧(∀ r∈v,r.spans.length≤1000000)∧fr=(oo::oo::oo::.adr (.l 14) 0::.p (.sl 7 (itE il))::.row (.l 20)::.p (.sl 3 (rlE v))::oF (oE (oB [])))∧L=[(.l 14,.box ((stm z k3).map .p) T),(.l 20,.row (pdE o) tPrd 4 true)]) ?_ ?_ ?_
 ·intro _
  refine zS ?_
  refine qw6 (k:=.l 14) (quJ z (k2+1) il (by omega) (qtE hP) (by omega) hl) rfl rfl rfl zE_ ?_
  rintro es cs' ⟨v,k3,rfl,hv,hvb,rfl,hk3⟩
  refine zS ?_
  exact ⟨(oo::oo::oo::.adr (.l 14) 0::.p (.sl 7 (itE il))::.row (.l 20)::.p (.sl 3 (rlE v))::oF (oE (oB []))),[(.l 14,.box ((stm z k3).map .p) T),(.l 20,.row (pdE o) tPrd 4 true)],ReOk.trans (qbO (k:=.l 27) rfl) (by simp only [ZZ,WW,Zd,reduceCtorEq,zd,ze,zb,zf,za];exact qj1 (by (simp only [ZZ,WW,Zd,reduceCtorEq,zd,ze,zb,zf,za];try trivial)) zE_),v,k3,by omega,by omega,fun r hr=>Nat.le_trans (hvb r hr).b2 (by decide),rfl,rfl⟩
 ·intro _
  refine zS ?_
  exact qkX _ _ (by (simp only [ZZ,WW,Zd,reduceCtorEq,zd,ze,zb,zf,za];try trivial)) zE_ ⟨u,k2+1,by omega,by omega,fun r hr=>Nat.le_trans (hub r hr).b2 (by decide),rfl,rfl⟩
 rintro fr L ⟨v,k3,hk3,hvl,hvs,rfl,rfl⟩
 refine zS ?_
 refine useS (k:=.l 14) (qwP z k3 (by omega) hl) rfl rfl rfl zE_ ?_
 rintro x cs' ⟨s,k4,rfl,hs,hsm,rfl,hk4⟩
 have hmk:=up4R (qBk il hP (by omega) v hvl hvs s hs hsm.2 o (by omega) hoB)
 have hmo:=up4R (qrV il hP (by omega) v hvl hvs s hs hsm.2 o (by omega) hoB)
 have hB:=(qBR hP v hs hsm.1 (past:=o) (by omega)).1
 have hsame:=qmR (E:=E4) _ hB
 simp only [stV,pdV] at hmk hmo hsame
 generalize pmP il v s o=P at hmk hmo hsame
 generalize pmE il v s o=er at hmk hmo
 simp only [ZZ,WW,Zd,reduceCtorEq,zd,ze,zb,zf,za,stV]
 refine qzp (k:=.l 20) (as0:=[_,_,_]) (as1:=[]) hmk rfl rfl rfl rfl rfl zE_ ?_
 rintro x es ⟨rfl,rfl⟩
 refine zS ?_
 refine qzp (k:=.l 20) (as0:=[_,_,_]) (as1:=[]) hmo rfl rfl rfl rfl rfl zE_ ?_
 rintro x es ⟨rfl,rfl⟩
 refine zS ?_
 refine use1 qq2 rfl (.inl rfl) ?_
 simp only [ZZ,WW,Zd,reduceCtorEq,zd,ze,zb,zf,za,decide_true]
 refine useG (fun _=>hsame) rfl (.inl rfl) ?_
 simp only [ZZ,WW,Zd,reduceCtorEq,zd,ze,zb,zf,za]
theorem qkL (a0:Option Addr) (len0 cap0:Nat) (z0:List Int) (w:World) (h0:qyI .i64 w a0 len0 cap0 z0) (he:E4.ok w∧∀ b,E4.bl b→b < w.heap.size) :
  Calls Tryz.prog 6 #[.slice a0 len0 cap0] w fun e w'=>e=.returned (.bool true)∧Below w.heap.size w w':=
 qzo qlP a0 len0 cap0 z0 w h0 he.1 he.2
end Go.Proofs.YtehfjlpenlffmaaGreatDoor
