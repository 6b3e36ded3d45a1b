import Derived.Test.YtehfjlpenlffmaaGreatDoorZ20
import Derived.Test.YtehfjlpenlffmaaGreatDoorZ23
set_option linter.unusedVariables false
set_option linter.unusedSimpArgs false
set_option linter.defProp false
namespace Go.Proofs.YtehfjlpenlffmaaGreatDoor
open Nat renaming reduceAdd→zd,reduceMul→ze,reduceLeDiff→zb,reduceLT→zf,reduceEqDiff→za
open Go.RowKit
def qb7:IC:=(.seq (.reg [qO 2 (.mov (.c (.bool false)))]) (.seq (.reg [qM 7 0,qO 8 (.bld [.nl 1,.int .i64 0] [(0,1,.t 7)]),qO 9 (.box 25 (.t 8)),qM 3 9]) (.seq (.reg [qM 11 3,qM 12 3,qO 13 (.call 8 [.t 12,.c (.int .i64 7)]),⟨none,.fz (.t 13),none⟩,qO 14 (.call 7 [.t 11,.t 13]),qM 10 14,qO 15 (.ext 0 (.t 10)),qO 16 (.ext 1 (.t 10)),qM 4 15,qM 5 16]) (.seq (.seq (.reg [qM 17 4,qO 18 (.len (.t 17)),qO 19 (.bin .gtr (.t 18) (.c (.int .i64 0))),qM 20 19,⟨some 21,.mov (.t 3),(some (20,true))⟩,⟨some 22,.call 9 [.t 21,.c (.int .i64 4)],(some (20,true))⟩,⟨some 23,.not (.t 22),(some (20,true))⟩,qO 24 (.pick (.t 20) (.t 23) (.c (.bool false)))]) (.cond (.t 24) (.seq (.reg [qM 25 3,qM 26 4,qO 27 (.len (.t 26)),qO 28 (.call 10 [.t 25,.t 27]),qM 6 28]) (.reg [qM 29 4,qM 30 6,qM 31 3,qM 32 4,qM 33 6,qO 34 (.ixa 4 (.t 32) (.t 33)),qO 35 (.ld 4 true (.t 34)),qO 36 (.call 11 [.t 31,.t 35]),qO 37 (.ixa 4 (.t 29) (.t 30)),⟨none,.st 4 (.t 37) (.t 36),none⟩])) .skip)) (.cut (.seq (.seq (.drg [qM 38 4,qO 39 (.len (.t 38)),qO 40 (.bin .gtr (.t 39) (.c (.int .i64 0))),qM 41 40,⟨some 42,.mov (.t 4),(some (41,true))⟩,⟨some 43,.ixa 4 (.t 42) (.c (.int .i64 0)),(some (41,true))⟩,⟨some 44,.ld 4 true (.t 43),(some (41,true))⟩,⟨some 45,.pcall 0 12 [.t 44],(some (41,true))⟩,⟨some 46,.mov (.t 4),(some (41,true))⟩,⟨some 47,.ixa 4 (.t 46) (.c (.int .i64 0)),(some (41,true))⟩,⟨some 48,.ld 4 true (.t 47),(some (41,true))⟩,⟨some 49,.pcall 1 13 [.t 48],(some (41,true))⟩,⟨some 50,.bin .neq (.t 45) (.t 49),(some (41,true))⟩,qO 51 (.pick (.t 41) (.t 50) (.c (.bool false)))]) (.cond (.t 51) (.seq (.reg [qO 2 (.mov (.c (.bool false)))]) .ret) .skip)) (.seq (.reg [qO 52 (.call 14 []),qM 53 52,⟨some 54,.mov (.t 4),(some (53,true))⟩,⟨some 55,.call 15 [.t 54],(some (53,true))⟩,⟨some 56,.mov (.t 4),(some (53,true))⟩,⟨some 57,.call 16 [.t 56],(some (53,true))⟩,⟨some 58,.bin .eql (.t 55) (.t 57),(some (53,true))⟩,qO 59 (.pick (.t 53) (.t 58) (.c (.bool false))),qM 2 59]) .ret)))))))
def qbU:List IRes:=[.t 2]
theorem qeF:chkF Tryz.prog Tryz.f3 qb7 qbU 60=true:=by kernel_rfl
theorem up4T {f:FuncId} {t:TypeId} {cs args:List PV} {e z:Nat} {ψ:List (List PV)→List PV→List PV→Prop} (h:STup Tryz.prog E0 f t cs args e z ψ):STup Tryz.prog E4 f t cs args e z ψ:=fun w U vs v0 hU hE hEb hA hO=>h w U vs v0 hU hE.1 (fun c hc=>hEb c (.inl hc)) hA hO
theorem qv5 (l:List Prd) (q:Nat) (x:Prd):(pdE l).set q (pdV x)=pdE (l.set q x):=by simp [pdE]
set_option maxHeartbeats 4000000 in
theorem qhN (z:List Int) (hl:z.length≤9223372036854775807):PCall Tryz.prog E4 3 [ints z] (·=.bool true):=by
 refine qag mixed Tryz.func3 qeF ?_
 simp only [a0,l0,OS.ao,List.map_cons,List.map_nil,List.length_cons,List.length_nil,List.cons_append,List.nil_append,Nat.reduceSub,zd,List.replicate_succ,List.replicate_zero,qb7,qbU,ZZ,WW,Ze,reduceCtorEq,zd,ze,zb,zf,za]
 simp only [ints,ZZ,WW,Ze,reduceCtorEq,zd,ze,zb,zf,za]
 refine useS (k:=.l 9) (qqG z 0 7 (by omega) hl (by omega)) rfl rfl rfl zE_ ?_
 rintro x cs' ⟨il,k1,rfl,hil,hP,rfl,hk1⟩
 simp only [ZZ,WW,Ze,reduceCtorEq,zd,ze,zb,zf,za]
 refine qyt (k:=.l 9) (up4T (qlp z k1 il hP (by omega) (by omega) hl)) rfl rfl rfl zE_ ?_
 rintro es ps cs' ⟨o,u,k2,rfl,rfl,ho,hoB,hu,hub,rfl,hk2⟩
 have e4:Int.toNat 0=0:=rfl
 rcases Nat.eq_zero_or_pos o.length with h0|h0
 ·have e0:decide ((0:Int) < (o.length:Int))=false:=by rw [h0];rfl
  simp only [ZZ,WW,Ze,reduceCtorEq,zd,ze,zb,zf,za,qaQ,e0]
  refine qlU (fun h=>by cases h) (fun _=>?_)
  simp only [ZZ,WW,Ze,reduceCtorEq,zd,ze,zb,zf,za]
  refine qc4 _ _ (qbV (k:=.l 14) rfl) ?_
  simp only [ZZ,WW,Ze,reduceCtorEq,zd,ze,zb,zf,za]
  refine ⟨[int 0,int 0],?_⟩
  simp only [ZZ,WW,Ze,reduceCtorEq,zd,ze,zb,zf,za,qaQ,e0,e4,false_implies,true_and]
  refine use1 qjT rfl (.inl rfl) ?_
  simp only [ZZ,WW,Ze,reduceCtorEq,zd,ze,zb,zf,za]
  refine useG (fun _=>up4 (qlh o (by omega) fun p hp=>(hoB p hp).1)) rfl (.inl rfl) ?_
  simp only [ZZ,WW,Ze,reduceCtorEq,zd,ze,zb,zf,za]
  refine useG (fun _=>up4 (qdA o (by omega) fun p hp=>(hoB p hp).1)) rfl (.inl rfl) ?_
  simp only [ZZ,WW,Ze,reduceCtorEq,zd,ze,zb,zf,za,decide_true]
 have e0:decide ((0:Int) < (o.length:Int))=true:=by rw [decide_eq_true_eq];omega
 simp only [ZZ,WW,Ze,reduceCtorEq,zd,ze,zb,zf,za,qaQ,e0]
 refine qlU (fun _=>?_) (fun h=>by cases h)
 refine useS (qhi z k2 4 (by omega) hl (by omega)) rfl rfl rfl zE_ ?_
 rintro x cs' ⟨f,rfl,rfl⟩
 simp only [ZZ,WW,Ze,reduceCtorEq,zd,ze,zb,zf,za]
 refine qk7 (fun fr L=>∃ o2:List Prd,o2.length=o.length∧(∀ p∈o2,PdB p)∧fr=[oo,oo,oo,oo,.row (.l 14),oo,oo,oo,oo,oo,oo,oo,oo,oo,oo,oo,oo,oo,oo,oo,oo,oo,oo,oo,oo,oo,oo,oo,oo,oo,oo,oo,oo,oo,oo,oo,oo,oo,oo,oo,oo,oo,oo,oo,oo,oo,oo,oo,oo,oo,oo,oo,oo,oo,oo,oo,oo,oo,oo,oo]∧L=[(.l 14,.row (pdE o2) tPrd 4 true)]) ?_ ?_ ?_
 ·intro _
  simp only [ZZ,WW,Ze,reduceCtorEq,zd,ze,zb,zf,za,qaQ]
  refine useS (qdB z (k2+1) o.length (by omega) hl (by omega)) rfl rfl rfl zE_ ?_
  rintro x cs' ⟨y,rfl,rfl⟩
  have y1:=qeJ y o.length
  have y2:=qeK y o.length (by omega)
  obtain ⟨q,hq⟩:∃ q:Nat,qee y o.length=(q:Nat):=⟨(qee y o.length).toNat,by omega⟩
  rw [hq] at y1 y2 ⊢
  clear hq
  obtain ⟨p,hp⟩:∃ p,o[q]?=some p:=⟨_,List.getElem?_eq_getElem (by omega)⟩
  have hg:=qiD hp
  obtain ⟨hpB,hpP⟩:=hoB p (List.mem_of_getElem? hp)
  have hsp:=qis (E:=E4) z (k2+1+1) p hpB hpP (by omega) hl
  simp only [pdV] at hg hsp
  simp only [ZZ,WW,Ze,reduceCtorEq,zd,ze,zb,zf,za,qaQ,hg]
  refine ⟨⟨by omega,by omega⟩,by omega,?_⟩
  refine useS hsp rfl rfl rfl zE_ ?_
  rintro x cs' ⟨p2,k3,rfl,hp2,rfl,hk3⟩
  simp only [ZZ,WW,Ze,reduceCtorEq,zd,ze,zb,zf,za,qaQ,hg]
  refine ⟨⟨by omega,by omega⟩,by omega,?_⟩
  refine qhF [oo,oo,oo,oo,.row (.l 14),oo,oo,oo,oo,oo,oo,oo,oo,oo,oo,oo,oo,oo,oo,oo,oo,oo,oo,oo,oo,oo,oo,oo,oo,oo,oo,oo,oo,oo,oo,oo,oo,oo,oo,oo,oo,oo,oo,oo,oo,oo,oo,oo,oo,oo,oo,oo,oo,oo,oo,oo,oo,oo,oo,oo] [(.l 14,.row (pdE (o.set q p2)) tPrd 4 true)] (by (simp only [ZZ,WW,Ze,reduceCtorEq,zd,ze,zb,zf,za];try trivial)) (by simp only [ZZ,WW,Ze,reduceCtorEq,zd,ze,zb,zf,za];rw [← qv5];rfl) ⟨o.set q p2,List.length_set,fun p hp=>?_,rfl,rfl⟩
  rcases List.mem_or_eq_of_mem_set hp with hp|rfl
  ·exact (hoB p hp).1
  ·exact hp2
 ·intro _
  simp only [ZZ,WW,Ze,reduceCtorEq,zd,ze,zb,zf,za]
  exact qhF [oo,oo,oo,oo,.row (.l 14),oo,oo,oo,oo,oo,oo,oo,oo,oo,oo,oo,oo,oo,oo,oo,oo,oo,oo,oo,oo,oo,oo,oo,oo,oo,oo,oo,oo,oo,oo,oo,oo,oo,oo,oo,oo,oo,oo,oo,oo,oo,oo,oo,oo,oo,oo,oo,oo,oo,oo,oo,oo,oo,oo,oo] [(.l 14,.row (pdE o) tPrd 4 true)] (by (simp only [ZZ,WW,Ze,reduceCtorEq,zd,ze,zb,zf,za];try trivial)) zE_ ⟨o,rfl,fun p hp=>(hoB p hp).1,rfl,rfl⟩
 rintro fr L ⟨o2,ho2,hB2,rfl,rfl⟩
 obtain ⟨p,hp⟩:∃ p,o2[0]?=some p:=⟨_,List.getElem?_eq_getElem (by omega)⟩
 have hg:=qiD hp
 have hpB:=hB2 p (List.mem_of_getElem? hp)
 have e0:decide ((0:Int) < (o2.length:Int))=true:=by rw [decide_eq_true_eq];omega
 have hc1:=up4 (qp9 p hpB)
 have hc2:=up4 (qgt p hpB)
 simp only [pdV] at hg hc1 hc2
 simp only [ZZ,WW,Ze,reduceCtorEq,zd,ze,zb,zf,za]
 refine ⟨[int (prdF p),int (prdF p)],?_⟩
 simp only [ZZ,WW,Ze,reduceCtorEq,zd,ze,zb,zf,za,qaQ,e0,e4,hg]
 refine ⟨⟨by omega,by omega⟩,by omega,usep hc1 rfl (.inl rfl),⟨by omega,by omega⟩,by omega,usep hc2 rfl (.inl rfl),?_⟩
 refine br (fun h=>by simp at h) ?_
 intro _
 simp only [ZZ,WW,Ze,reduceCtorEq,zd,ze,zb,zf,za]
 refine use1 qjT rfl (.inl rfl) ?_
 simp only [ZZ,WW,Ze,reduceCtorEq,zd,ze,zb,zf,za]
 refine useG (fun _=>up4 (qlh o2 (by omega) hB2)) rfl (.inr rfl) ?_
 simp only [ZZ,WW,Ze,reduceCtorEq,zd,ze,zb,zf,za]
 refine useG (fun _=>up4 (qdA o2 (by omega) hB2)) rfl (.inr rfl) ?_
 simp only [ZZ,WW,Ze,reduceCtorEq,zd,ze,zb,zf,za,decide_true]
theorem qg0 (a0:Option Addr) (len0 cap0:Nat) (z0:List Int) (w:World) (h0:quv .i64 w a0 len0 cap0 z0) (he:E4.ok w∧∀ b,E4.bl b→b < w.heap.size) :
  Calls Tryz.prog 3 #[.slice a0 len0 cap0] w fun e w'=>e=.returned (.bool true)∧Below w.heap.size w w':=
 qu3 qhN a0 len0 cap0 z0 w h0 he.1 he.2
end Go.Proofs.YtehfjlpenlffmaaGreatDoor
