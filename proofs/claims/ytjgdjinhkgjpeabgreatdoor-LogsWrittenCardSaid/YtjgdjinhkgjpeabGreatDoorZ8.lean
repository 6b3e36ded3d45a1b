import Derived.Test.YtjgdjinhkgjpeabGreatDoorZ7
import Derived.Lib.Strings
import Derived.Lib.Slices
import Derived.Lib.Walk
import Derived.Lib.MakeNoZero
import Derived.Laws.IdiomCopy
import Derived.Laws.BitsLemmas
import Derived.Lib.Join
import Derived.Test.YtjgdjinhkgjpeabGreatDoorLayDecode
import Derived.Sort.Walk0
import Derived.Test.YtjgdjinhkgjpeabGreatDoorZ5
set_option linter.unusedVariables false
set_option linter.unusedSimpArgs false
set_option linter.defProp false
namespace Go.Proofs.YtjgdjinhkgjpeabGreatDoor
open Nat renaming reduceAdd→zd,reduceEqDiff→zb,reduceLeDiff→za,reduceMul→ze
def qbD:IC:=(sR [qT 7 .lss 6 5] (.seq (jE 7) (.seq (.block 1 (sR [qM 8 3,qM 9 0,qO 10 (.bsl 1 [.c (.str []),.c (.str []),.c (.str [62,32]),.c (.str [62,32]),.c (.str [62,32,62,32]),.c (.str [62]),.c (.str [62,62,32])]),jC 11 19 [.t 9,.t 10],qM 12 0,qO 13 (.bsl 1 [.c (.str [98,101,32,99,97,114,101,102,117,108]),.c (.str [116,104,105,115,32,105,115,32,108,101,103,97,108,32,97,100,118,105,99,101]),.c (.str [108,117,110,99,104,63]),.c (.str []),.c (.str [32]),.c (.str [66,101,32,32,67,97,114,101,102,117,108,32]),.c (.str [111,110,101,32,109,111,114,101]),.c (.str [112,114,105,118,105,108,101,103,101,100,32,97,110,100,32,99,111,110,102,105,100,101,110,116,105,97,108]),.c (.str [195,169,116,195,169,32,108,101,103,97,108,32,97,100,118,105,99,101])]),jC 14 19 [.t 12,.t 13],qT 15 .add 11 14,qB 16 .add 15 (.c (.str [10])),qT 17 .add 8 16,qM 3 17] (sR [qM 18 0,jC 19 16 [.t 18,.c (.int .i64 5)]] (jW 19 (.reg [qM 20 3,qM 21 0,qO 22 (.bsl 1 [.c (.str []),.c (.str [62,32])]),jC 23 19 [.t 21,.t 22],qM 24 0,qO 25 (.bsl 1 [.c (.str [66,111,32,119,114,111,116,101,58]),.c (.str [79,110,32,77,111,110,100,97,121,32,65,110,110,32,119,114,111,116,101,58]),.c (.str [119,114,111,116,101,58]),.c (.str [67,121,32,115,99,104,114,105,101,98,58]),.c (.str [45,45,45,45,45,79,114,105,103,105,110,97,108,32,77,101,115,115,97,103,101,45,45,45,45,45])]),jC 26 19 [.t 24,.t 25],qT 27 .add 23 26,qB 28 .add 27 (.c (.str [10])),qT 29 .add 20 28,qM 3 29]))))) (.cut (.reg [qB 30 .add 6 (cI 1),qM 6 30])))))
abbrev qem:IC:=(sR [qO 2 (.mov (.c (.str [])))] (sR [qO 3 (.mov (.c (.str [])))] (.seq (sR [qM 4 0,jC 5 17 [.t 4,.c (.int .i64 7)],jI 6 0] (.block 0 (.loop qbD))) (sR [qM 31 3,qM 2 31] .ret))))
theorem qey:chkF Tryz.prog Tryz.f103 qem [.t 2] 32=true:=by kernel_rfl
section
variable {E:Envt}
def bA:List (List UInt8):=[[],[],[62,32],[62,32],[62,32,62,32],[62],[62,62,32]]
def bB:List (List UInt8):=[[98,101,32,99,97,114,101,102,117,108],[116,104,105,115,32,105,115,32,108,101,103,97,108,32,97,100,118,105,99,101],[108,117,110,99,104,63],[],[32],[66,101,32,32,67,97,114,101,102,117,108,32],[111,110,101,32,109,111,114,101],[112,114,105,118,105,108,101,103,101,100,32,97,110,100,32,99,111,110,102,105,100,101,110,116,105,97,108],[195,169,116,195,169,32,108,101,103,97,108,32,97,100,118,105,99,101]]
def bC:List (List UInt8):=[[],[62,32]]
def bD:List (List UInt8):=[[66,111,32,119,114,111,116,101,58],[79,110,32,77,111,110,100,97,121,32,65,110,110,32,119,114,111,116,101,58],[119,114,111,116,101,58],[67,121,32,115,99,104,114,105,101,98,58],[45,45,45,45,45,79,114,105,103,105,110,97,108,32,77,101,115,115,97,103,101,45,45,45,45,45]]
theorem qyg:∀ s∈bA,s.length≤60:=by decide
theorem qyf:∀ s∈bB,s.length≤60:=by decide
theorem qye:∀ s∈bC,s.length≤60:=by decide
theorem qyd:∀ s∈bD,s.length≤60:=by decide
set_option maxHeartbeats 2000000 in
theorem qwO (l:List Int) (k:Nat) (hk:k≤900000) (hl:l.length≤9223372036854775807) :
  qeG Tryz.prog E 103 T (stm l k) [] (fun x cs'=>∃ s k',x=.str s∧s.length≤2000∧cs'=stm l k'∧k'≤k+40):=by
 unfold qeG
 refine qff mixed Tryz.func103 qey ?_
 refine zV ?_
 refine useS (qc6 l k 7 (by omega) hl (by decide)) rfl rfl rfl zE_ ?_
 rintro x cs' ⟨y,rfl,rfl⟩
 have b1:=qd2 y 7
 have b2:=qd3 y 7 (by omega)
 generalize qeE y 7=m at *
 refine zS ?_
 refine qad (fun n fr L=>∃ (i k':Nat) (s:List UInt8),n=7 - i∧i≤7∧k'≤k+1+5 * i∧s.length≤250 * i∧fr=(.adr (.b 0) 0::oo::oo::.p (.str s)::oo::.p (int m)::.p (int (i:Nat))::oE (oD (oo::[])))∧L=[(.b 0,.box ((stm l k').map .p) T)]) 7 (.adr (.b 0) 0::oo::oo::.p (.str [])::oo::.p (int m)::.p (int (0:Nat))::oE (oD (oo::[]))) [(.b 0,.box ((stm l (k+1)).map .p) T)] zF_ zE_ ⟨0,k+1,[],by omega,by omega,by omega,by simp,rfl,rfl⟩ ?_
 rintro n fr L ⟨i,k',s,rfl,hi,hk',hs,rfl,rfl⟩
 simp only [qbD,ZZ,WW,Ze,reduceCtorEq,zd,ze,za,Nat.reduceLT,zb]
 refine br ?_ ?_
 ·intro h
  have hlt:(i:Int) < m:=of_decide_eq_true h
  refine zS ?_
  refine useS (qcx l k' bA (by omega) hl (by decide) (by decide)) rfl rfl rfl zE_ ?_
  rintro x cs' ⟨u,rfl,hu,rfl⟩
  have hu:=qyg u hu
  refine zS ?_
  refine useS (qcx l (k'+1) bB (by omega) hl (by decide) (by decide)) rfl rfl rfl zE_ ?_
  rintro x cs' ⟨v,rfl,hv,rfl⟩
  have hv:=qyf v hv
  refine zS ?_
  refine ⟨by simp;omega,by simp;omega,by simp;omega,?_⟩
  refine useS (qgm l (k'+1+1) 5 (by omega) hl (by decide)) rfl rfl rfl zE_ ?_
  rintro x cs' ⟨b,rfl,rfl⟩
  refine zS ?_
  refine br ?_ ?_
  ·intro _
   refine zS ?_
   refine useS (qcx l (k'+1+1+1) bC (by omega) hl (by decide) (by decide)) rfl rfl rfl zE_ ?_
   rintro x cs' ⟨u2,rfl,hu2,rfl⟩
   have hu2:=qye u2 hu2
   refine zS ?_
   refine useS (qcx l (k'+1+1+1+1) bD (by omega) hl (by decide) (by decide)) rfl rfl rfl zE_ ?_
   rintro x cs' ⟨v2,rfl,hv2,rfl⟩
   have hv2:=qyd v2 hv2
   refine zS ?_
   refine ⟨by simp;omega,by simp;omega,by simp;omega,?_⟩
   refine qae zE_ ?_
   refine zS ?_
   refine ⟨qai (by omega) (by omega),qab (7 - (i+1)) (.adr (.b 0) 0::oo::oo::.p (.str (s++(u++v++[10])++(u2++v2++[10])))::oo::.p (int m)::.p (int ((i+1:Nat)))::oE (oD (oo::[]))) [(.b 0,.box ((stm l (k'+1+1+1+1+1)).map .p) T)] (by omega) zF_ zE_ ⟨i+1,k'+1+1+1+1+1,_,rfl,by omega,by omega,by simp;omega,rfl,rfl⟩⟩
  ·intro _
   refine zS ?_
   refine qae zE_ ?_
   refine zS ?_
   refine ⟨qai (by omega) (by omega),qab (7 - (i+1)) (.adr (.b 0) 0::oo::oo::.p (.str (s++(u++v++[10])))::oo::.p (int m)::.p (int ((i+1:Nat)))::oE (oD (oo::[]))) [(.b 0,.box ((stm l (k'+1+1+1)).map .p) T)] (by omega) zF_ zE_ ⟨i+1,k'+1+1+1,_,rfl,by omega,by omega,by simp;omega,rfl,rfl⟩⟩
 ·intro h
  refine zS ?_
  exact qet (stm l k') rfl ⟨s,k',rfl,by omega,rfl,by omega⟩
end
section
variable {E:Envt}
end
abbrev qhf:IC:=(sR [qO 4 (.mov (.c (.bool false)))] (sR [qM 5 0,qM 6 1,jC 7 118 [.t 5,.t 6],qB 8 .geq 7 (cI 0),qM 4 8] .ret))
theorem qhp:chkF Tryz.prog Tryz.f70 qhf [.t 4] 9=true:=by kernel_rfl
section
theorem qhD (s t:List UInt8) (hs:s.length≤1000000000):PCall Tryz.prog E0 70 [.str s,.str t] (·=.bool (decide (0≤Lib.index s t))):=by
 refine qah mixed Tryz.func70 qhp ?_
 refine zV ?_
 refine use1 (quu s t hs) rfl (.inl rfl) ?_
 simp only [ZZ,WW,Ze,reduceCtorEq,zd,ze,za,Nat.reduceLT,zb]
end
end Go.Proofs.YtjgdjinhkgjpeabGreatDoor
namespace Go.Proofs.YtjgdjinhkgjpeabGreatDoor
open Nat renaming reduceAdd→zd,reduceEqDiff→zb,reduceLT→zf,reduceLeDiff→za,reduceMul→ze
open List renaming eq_nil_of_length_eq_zero→zq,getElem?_eq_getElem→zk,take_length→z7
open Option renaming map_eq_some_iff→zh
open _root_.Array renaming getElem?_eq_none→ym
open Go.RowKit
theorem qyb:(Tryz.prog.info? 5).map (fun i=>(i.zero,i.size,i.bytes))=some (some (.int .u8 0),1,1):=by kernel_rfl
theorem qsf:(Tryz.prog.info? 71).map (·.size)=some 2:=by kernel_rfl
theorem qwP:liesAt Tryz.prog Tryz.prog.depth 71 (2 / Tryz.prog.cellsOf 71) 0 71 1=true:=by kernel_rfl
theorem ql5 (W:World) (q:Option Addr):(Builtin.unsafeString_ #[128,3] 9 #[.pointer q,.int .i64 0]).run Tryz.prog W=.ok (.string .empty) W:=Lib.run_unsafeString_none W _ _ _ q
theorem qhA:Tryz.prog.follows .mixedOrders=true:=by kernel_rfl
theorem qwQ:Tryz.prog.cellsOf 5=1:=by kernel_rfl
theorem qya:(Tryz.prog.info? 5).map (·.size)=some 1:=by kernel_rfl
abbrev tSb:TypeId:=71
abbrev tU8:TypeId:=5
set_option maxHeartbeats 1000000 in
set_option maxRecDepth 100000 in
theorem que (b:Nat) (w:World) (h0:w.cell? ⟨b,0,none⟩=some (.pointer (some ⟨b,0,none⟩))) :
  Calls Tryz.prog 75 #[.pointer (some ⟨b,0,none⟩)] w fun e w'=>e=.returned (.tuple #[])∧w'=w:=by
 obtain ⟨j,hj,_⟩:=zh.1 qsf
 go_enter Tryz.func75,Tryz.ntmps75
 go_wp2
 rw [Lib.run_neq_ptr_same w _ Tryz.underlying68 hj]
 go_wp2
 go_end0
 exact ⟨rfl,rfl⟩
set_option maxHeartbeats 1000000 in
set_option maxRecDepth 100000 in
theorem qnz (b:Nat) (w:World) (h0:w.cell? ⟨b,0,none⟩=some (.pointer none)) (hsh:w.shape? b=some (71,2)) (hfz:w.frozen? ⟨b,0,none⟩=false) :
  Calls Tryz.prog 75 #[.pointer (some ⟨b,0,none⟩)] w fun e w'=>e=.returned (.tuple #[])∧w'=w.setCell ⟨b,0,none⟩ (.pointer (some ⟨b,0,none⟩)):=by
 obtain ⟨j,hj,hjs⟩:=zh.1 qsf
 go_enter Tryz.func75,Tryz.ntmps75
 go_wp2
 rw [Lib.run_to_unsafe w ⟨b,0,none⟩ Tryz.underlying68 Tryz.underlying163 hj (by rw [hjs];decide) hsh (Nat.zero_lt_succ 1)]
 simp only [Result.andThen]
 rw [Oper.upon_value]
 go_wp2
 rw [run_callFunc_extern Tryz.func122 (by kernel_rfl) (by kernel_rfl) (by kernel_rfl) (e:=Extern.AbiNoEscape.same) (by kernel_rfl)]
 rw [Lib.run_noEscape]
 simp only [Result.andThen]
 rw [Oper.upon_value]
 go_wp2
 rw [Lib.run_from_unsafe w ⟨b,0,none⟩ Tryz.underlying163 Tryz.underlying68 hj hsh qwP]
 simp only [Result.andThen]
 rw [Oper.upon_value]
 go_wp2
 go_end0
 exact ⟨rfl,rfl⟩
theorem b_cc (b:Nat) (bs:List Value) (w:World) (h:Lib.IsBuilder 71 5 0 b bs w) :
  Calls Tryz.prog 75 #[.pointer (some ⟨b,0,none⟩)] w fun e w'=>e=.returned (.tuple #[])∧qsC 71 5 b bs w w':=by
 rcases h with h|h
 ·refine (qnz b w h.cell0 h.shape h.frozen0).mono ?_
  rintro e w' ⟨rfl,rfl⟩
  exact ⟨rfl,qnt h⟩
 ·refine (que b w h.cell0).mono ?_
  rintro e w' ⟨rfl,rfl⟩
  exact ⟨rfl,qoH h⟩
set_option maxHeartbeats 2000000 in
set_option maxRecDepth 100000 in
theorem qj5 (b:Nat) (s t:List UInt8) (w:World) (h:Lib.IsBuilder 71 5 0 b (Lib.byteCells s) w) (hlen:s.length+t.length≤140737488355328) :
  Calls Tryz.prog 34 #[.pointer (some ⟨b,0,none⟩),.string ⟨t.toArray⟩] w fun e w'=>e=.returned (.tuple #[.int .i64 t.length,.nilIface])∧SbPost 71 5 b (s++t) w w':=by
 obtain ⟨i0,hi,hz0,hz1,hz2⟩:=info_parts qyb
 have hsz:(⟨t.toArray⟩:ByteArray).size=t.length:=by simp [ByteArray.size]
 have hcl:Lib.strCells ⟨t.toArray⟩=Lib.byteCells t:=by simp [Lib.strCells,Lib.byteCells]
 generalize hst:(⟨t.toArray⟩:ByteArray)=st at hsz hcl ⊢
 rw [← hsz] at hlen ⊢
 go_enter Tryz.func34,Tryz.ntmps34
 go_wp2_with (go_at_call 75;refine (b_cc b _ _ h).mono ?_)
 rintro e w1 ⟨rfl,v,hbk,hown,hne,hG1,hbf⟩
 rw [Lib.byteCells_length] at hown
 have c0:w1.cell? ⟨b,0,none⟩=some (.pointer (some ⟨b,0,none⟩)):=by rw [Lib.cell_of_heap hbk];rfl
 have c1:w1.cell? ⟨b,1,none⟩=some v:=by rw [Lib.cell_of_heap hbk];rfl
 go_wp2_with (at_builtin;refine qj3 rfl _ _ 69 9 rfl 0 5 i0 Tryz.underlying69 Tryz.underlying9 hi hz0 hz1 hz2 _ _ _ rfl hown st rfl (by unfold maxLen;omega) (by omega) (Nat.zero_le _) ?_)
 intro v' w2 hown' hgrow hat
 have hlt:=qkA hbk
 have hb2:w2.heap[b]?=some (.cells #[.pointer (some ⟨b,0,none⟩),v] 71 (0,0)):=by
  rw [hgrow.block b hlt (fun e=>hne e.symm)]
  exact hbk
 have d0:w2.cell? ⟨b,0,none⟩=some (.pointer (some ⟨b,0,none⟩)):=by rw [Lib.cell_of_heap hb2];rfl
 have d1:w2.cell? ⟨b,1,none⟩=some v:=by rw [Lib.cell_of_heap hb2];rfl
 have f1:w2.frozen? ⟨b,1,none⟩=false:=Lib.frozen_of_heap hb2 1
 have hP:SbPost 71 5 b (s++t) w (w2.setCell ⟨b,1,none⟩ v'):=
  qmJ (by decide) hG1 hbf hbk hgrow hne hat (by first|(rw [hcl,hsz] at hown';simpa [Lib.byteCells] using hown')|simpa [Lib.byteCells] using hown')
 obtain ⟨ao,n',cap,rfl⟩:∃ ao n' cap,v'=.slice ao n' cap:=by
  rcases hown'.2 with ⟨hv,_⟩|⟨g,cap,cur,hv,_⟩
  ·exact ⟨_,_,_,hv⟩
  ·exact ⟨_,_,_,hv⟩
 go_wp2
 go_ret2
 exact ⟨by first|rfl|(rw [hsz];rfl),hP⟩
set_option maxHeartbeats 1000000 in
set_option maxRecDepth 100000 in
theorem quf (B b:Nat) (l:List UInt8) (w:World) (h:Lib.IsBuilder 71 5 B b (Lib.byteCells l) w) (h0:l≠[]) :
  Calls Tryz.prog 37 #[.pointer (some ⟨b,0,none⟩)] w fun e w'=>e=.returned (.string ⟨l.toArray⟩)∧Grow w w' (fun x=>x=b∨qed w 71 b x):=by
 obtain ⟨p,hB,v,hbk,hown,hne⟩:∃ p,Lib.BuilderAt 71 5 B b p (Lib.byteCells l) w:=by
  rcases h with h|h
  ·exact ⟨_,h⟩
  ·exact ⟨_,h⟩
 have hl0:l.length≠0:=by simpa using h0
 rw [Lib.byteCells_length] at hown
 obtain ⟨g,cap,cur,rfl,hbg,hg,hnc,hcm,hcs,htake⟩:∃ g cap cur,v=.slice (some ⟨g,0,none⟩) l.length cap∧B≤g∧w.heap[g]?=some (.cells cur 5 (0,0))∧l.length≤cap∧cap≤maxLen∧cur.size=cap * 1∧cur.toList.take (l.length * 1)=Lib.byteCells l:=by
  rcases hown.2 with ⟨_,hz⟩|⟨g,cap,cur,hv,r⟩
  ·exact absurd hz hl0
  ·exact ⟨g,cap,cur,hv,r⟩
 have c1:w.drew.cell? ⟨b,1,none⟩=some (.slice (some ⟨g,0,none⟩) l.length cap):=by
  have:w.drew.heap[b]?=some (.cells #[p,.slice (some ⟨g,0,none⟩) l.length cap] 71 (0,0)):=hbk
  rw [Lib.cell_of_heap this];rfl
 have hSD:(Builtin.unsafeSliceData_ #[69] 128 #[.slice (some ⟨g,0,none⟩) l.length cap]).run Tryz.prog w.drew=.ok (.pointer (some ⟨g,0,none⟩)) w.drew:=
  Lib.run_unsafeSliceData_row _ _ _ _ _ _ (by omega)
 have hUS:(Builtin.unsafeString_ #[128,3] 9 #[.pointer (some ⟨g,0,none⟩),.int .i64 l.length]).run Tryz.prog w.drew=.ok (.string ⟨l.toArray⟩) (w.drew.freeze ⟨g,0,none⟩ l.length):=by
  refine Lib.run_unsafeString_row w.drew 128 3 9 5 Tryz.underlying128 qwQ g cur.size (by have hg':w.drew.heap[g]?=some (.cells cur 5 (0,0)):=hg;simp [World.shape?,hg']) l h0 (by omega) (by unfold maxLen at hcm;omega) ?_
  intro j x hx
  have:=hown.cells (g:=g) rfl j (.int .u8 x.toNat) (by simp [Lib.byteCells,hx])
  exact this
 have mixed:=qhA
 go_enter Tryz.func37,Tryz.ntmps37
 go_wp2
 go_region_o
 all_goals (go_wp2;go_ret;exact ⟨rfl,qow (.inr ⟨_,_,hbk,rfl⟩)⟩)
set_option maxHeartbeats 2000000 in
set_option maxRecDepth 100000 in
theorem qnA (B b:Nat) (p:Value) (w:World) (hbk:w.heap[b]?=some (.cells #[p,.slice none 0 0] 71 (0,0))) :
  Calls Tryz.prog 37 #[.pointer (some ⟨b,0,none⟩)] w fun e w'=>e=.returned (.string ⟨#[]⟩)∧Grow w w' (fun x=>x=b∨qed w 71 b x):=by
 have hUS:=ql5
 have c1:w.drew.cell? ⟨b,1,none⟩=some (.slice none 0 0):=by
  have:w.drew.heap[b]?=some (.cells #[p,.slice none 0 0] 71 (0,0)):=hbk
  rw [Lib.cell_of_heap this];rfl
 have hSD:(Builtin.unsafeSliceData_ #[69] 128 #[.slice none 0 0]).run Tryz.prog w.drew=.ok (.pointer none) w.drew:=rfl
 have mixed:=qhA
 go_enter Tryz.func37,Tryz.ntmps37
 go_wp2
 go_region_o
 all_goals (go_wp2;go_ret;exact ⟨rfl,(Grow.refl w _).drew⟩)
set_option maxHeartbeats 2000000 in
set_option maxRecDepth 100000 in
theorem qjU (B b g:Nat) (p:Value) (cur:Array Value) (w:World) (hBw:B≤w.heap.size) (hbk:w.heap[b]?=some (.cells #[p,.slice (some ⟨g,0,none⟩) 0 0] 71 (0,0))) (hg:w.heap[g]?=some (.cells cur 5 (0,0))) :
  Calls Tryz.prog 37 #[.pointer (some ⟨b,0,none⟩)] w fun e w'=>e=.returned (.string ⟨#[]⟩)∧Grow w w' (fun x=>x=b∨qed w 71 b x):=by
 have hUS:=ql5
 have hlt:b < w.heap.size:=by
  rcases Nat.lt_or_ge b w.heap.size with h'|h'
  ·exact h'
  ·simp [ym h'] at hbk
 have c1:w.drew.cell? ⟨b,1,none⟩=some (.slice (some ⟨g,0,none⟩) 0 0):=by
  have:w.drew.heap[b]?=some (.cells #[p,.slice (some ⟨g,0,none⟩) 0 0] 71 (0,0)):=hbk
  rw [Lib.cell_of_heap this];rfl
 have hSD:(Builtin.unsafeSliceData_ #[69] 128 #[.slice (some ⟨g,0,none⟩) 0 0]).run Tryz.prog w.drew=.ok (.pointer (some ⟨w.drew.heap.size,0,none⟩)) (w.drew.alloc (.view ⟨g,0,none⟩ 5)):=
  Lib.run_unsafeSliceData_zero w.drew _ _ 5 Tryz.underlying128 ⟨g,0,none⟩ 0 (5,cur.size) (by have hg':w.drew.heap[g]?=some (.cells cur 5 (0,0)):=hg;simp [World.shape?,hg'])
 have c2:(w.drew.alloc (.view ⟨g,0,none⟩ 5)).cell? ⟨b,1,none⟩=some (.slice (some ⟨g,0,none⟩) 0 0):=by
  have:(w.drew.alloc (.view ⟨g,0,none⟩ 5)).heap[b]?=_:=(Lib.alloc_old w.drew _ b hlt).trans hbk
  rw [Lib.cell_of_heap this];rfl
 have c3:(w.alloc (.view ⟨g,0,none⟩ 5)).drew.cell? ⟨b,1,none⟩=some (.slice (some ⟨g,0,none⟩) 0 0):=c2
 have c0:w.cell? ⟨b,1,none⟩=some (.slice (some ⟨g,0,none⟩) 0 0):=c1
 have mixed:=qhA
 go_enter Tryz.func37,Tryz.ntmps37
 go_wp2
 go_region_o
 all_goals (go_wp2;go_ret;exact ⟨rfl,qox⟩)
set_option maxHeartbeats 2000000 in
set_option maxRecDepth 100000 in
theorem ql6 (B b g cap:Nat) (p:Value) (w:World) (hc0:cap≠0) (hbk:w.heap[b]?=some (.cells #[p,.slice (some ⟨g,0,none⟩) 0 cap] 71 (0,0))) :
  Calls Tryz.prog 37 #[.pointer (some ⟨b,0,none⟩)] w fun e w'=>e=.returned (.string ⟨#[]⟩)∧Grow w w' (fun x=>x=b∨qed w 71 b x):=by
 have hUS:=ql5
 have c1:w.drew.cell? ⟨b,1,none⟩=some (.slice (some ⟨g,0,none⟩) 0 cap):=by
  have:w.drew.heap[b]?=some (.cells #[p,.slice (some ⟨g,0,none⟩) 0 cap] 71 (0,0)):=hbk
  rw [Lib.cell_of_heap this];rfl
 have hSD:(Builtin.unsafeSliceData_ #[69] 128 #[.slice (some ⟨g,0,none⟩) 0 cap]).run Tryz.prog w.drew=.ok (.pointer (some ⟨g,0,none⟩)) w.drew:=
  Lib.run_unsafeSliceData_row _ _ _ _ _ _ hc0
 clear hc0
 have mixed:=qhA
 go_enter Tryz.func37,Tryz.ntmps37
 go_wp2
 go_region_o
 all_goals (go_wp2;go_ret;exact ⟨rfl,(Grow.refl w _).drew⟩)
theorem qki (B b:Nat) (w:World) (h:Lib.IsBuilder 71 5 B b [] w) (hBw:B≤w.heap.size) :
  Calls Tryz.prog 37 #[.pointer (some ⟨b,0,none⟩)] w fun e w'=>e=.returned (.string ⟨#[]⟩)∧Grow w w' (fun x=>x=b∨qed w 71 b x):=by
 obtain ⟨p,hB,v,hbk,hown,hne⟩:∃ p,Lib.BuilderAt 71 5 B b p [] w:=by
  rcases h with h|h
  ·exact ⟨_,h⟩
  ·exact ⟨_,h⟩
 rcases hown.2 with ⟨rfl,_⟩|⟨g,cap,cur,rfl,hbg,hg,_,_,_,_⟩
 ·exact qnA B b p w hbk
 ·by_cases hc0:cap=0
  ·subst hc0
   exact qjU B b g p cur w hBw hbk hg
  ·exact ql6 B b g cap p w hc0 hbk
theorem qnB (B b:Nat) (l:List UInt8) (w:World) (h:Lib.IsBuilder 71 5 B b (Lib.byteCells l) w) (hBw:B≤w.heap.size) :
  Calls Tryz.prog 37 #[.pointer (some ⟨b,0,none⟩)] w fun e w'=>e=.returned (.string ⟨l.toArray⟩)∧Grow w w' (fun x=>x=b∨qed w 71 b x):=by
 cases l with
 |nil=>exact qki B b w h hBw
 |cons x r=>exact quf B b (x :: r) w h (by simp)
set_option maxHeartbeats 1000000 in
set_option maxRecDepth 100000 in
theorem qzU (B b:Nat) (bs:List Value) (w:World) (h:Lib.IsBuilder 71 5 B b bs w) :
  Calls Tryz.prog 36 #[.pointer (some ⟨b,0,none⟩)] w fun e w'=>e=.returned (.int .i64 bs.length)∧w'=w:=by
 obtain ⟨p,hB,v,hbk,hown,hne⟩:∃ p,Lib.BuilderAt 71 5 B b p bs w:=by
  rcases h with h|h
  ·exact ⟨_,h⟩
  ·exact ⟨_,h⟩
 obtain ⟨ao,cap,rfl⟩:∃ ao cap,v=.slice ao bs.length cap:=by
  rcases hown.2 with ⟨hv,h0⟩|⟨g,cap,cur,hv,_⟩
  ·exact ⟨none,0,by rw [hv,h0]⟩
  ·exact ⟨_,_,hv⟩
 have c1:w.cell? ⟨b,1,none⟩=some (.slice ao bs.length cap):=by rw [Lib.cell_of_heap hbk];rfl
 have mixed:=qhA
 go_enter Tryz.func36,Tryz.ntmps36
 go_wp2
 go_ret
 exact ⟨rfl,rfl⟩
set_option maxHeartbeats 2000000 in
set_option maxRecDepth 1000000 in
theorem qny (B b n:Nat) (w:World) (hB:B≤b) (hbk:w.heap[b]?=some (.cells #[.pointer (some ⟨b,0,none⟩),.slice none 0 0] 71 (0,0))) (hBw:B≤w.heap.size) (hn:n≤281474976710656) :
  Calls Tryz.prog 108 #[.pointer (some ⟨b,0,none⟩),.int .i64 n] w fun e w'=>e=.returned (.tuple #[])∧SbPost 71 5 b [] w w':=by
 obtain ⟨cs,hrun,hle,hmax⟩:=Lib.run_makeNoZero (P:=Tryz.prog) w.drew #[3] 69 5 Tryz.underlying69 n hn
 have hw:IntKind.i64.wrap (IntKind.i64.wrap 0+(n:Int))=n:=by
  rw [IntKind.wrap_i64,IntKind.wrap_i64]
  omega
 have hcall:(callFunc 157 #[.int .i64 (IntKind.i64.wrap (IntKind.i64.wrap 0+(n:Int)))]).run Tryz.prog w.drew=.ok (.value (.slice (some ⟨w.drew.heap.size,0,none⟩) n cs.size)) (w.drew.drew.drew.alloc (.cells cs 5)):=by
  rw [hw,run_callFunc_extern Tryz.func157 (by kernel_rfl) (by kernel_rfl) (by kernel_rfl) (e:=Extern.BytealgMakeNoZero.makeNoZero #[3] #[69]) (by kernel_rfl),hrun]
  rfl
 have c1:w.drew.cell? ⟨b,1,none⟩=some (.slice none 0 0):=by
  have:w.drew.heap[b]?=_:=hbk
  rw [Lib.cell_of_heap this];rfl
 have c2:(w.alloc (.cells cs 5)).cell? ⟨b,1,none⟩=some (.slice none 0 0):=by
  have hlt:b < w.heap.size:=by
   rcases Nat.lt_or_ge b w.heap.size with h'|h'
   ·exact h'
   ·simp [ym h'] at hbk
  have:(w.alloc (.cells cs 5)).heap[b]?=_:=(Lib.alloc_old w _ b hlt).trans hbk
  rw [Lib.cell_of_heap this];rfl
 have f2:(w.alloc (.cells cs 5)).frozen? ⟨b,1,none⟩=false:=by
  have hlt:b < w.heap.size:=by
   rcases Nat.lt_or_ge b w.heap.size with h'|h'
   ·exact h'
   ·simp [ym h'] at hbk
  exact Lib.frozen_of_heap ((Lib.alloc_old w _ b hlt).trans hbk) 1
 have hcopy:∀ W:World,(Builtin.copy_ #[69,69] 3 #[.slice (some ⟨w.heap.size,0,none⟩) 0 cs.size,.slice none 0 0]).run Tryz.prog W=.ok (goInt 0) W:=
  fun W=>run_copy_none W 69 69 3 5 _ _ 0 cs.size 0 0 Tryz.underlying69 qya rfl
 clear hw
 have mixed:=qhA
 go_enter Tryz.func108,Tryz.ntmps108
 go_wp2
 have hfin:=SbPost.of_grown (T:=71) (e:=5) (cs:=cs) (by decide) hbk (hmax (by unfold maxLen;omega))
 go_region_o
 all_goals (go_wp2;go_end0;exact ⟨rfl,hfin⟩)
set_option maxHeartbeats 2000000 in
set_option maxRecDepth 1000000 in
theorem qnC (B b n:Nat) (w:World) (hB:B≤b) (hbk:w.heap[b]?=some (.cells #[.pointer none,.slice none 0 0] 71 (0,0))) (hBw:B≤w.heap.size) (hn:n≤281474976710656) :
  Calls Tryz.prog 64 #[.pointer (some ⟨b,0,none⟩),.int .i64 n] w fun e w'=>e=.returned (.tuple #[])∧SbPost 71 5 b [] w w':=by
 have hbk1:(w.setCell ⟨b,0,none⟩ (.pointer (some ⟨b,0,none⟩))).heap[b]?=some (.cells #[.pointer (some ⟨b,0,none⟩),.slice none 0 0] 71 (0,0)):=by
  simp [World.setCell,Array.getElem?_modify,hbk]
 have c1:(w.setCell ⟨b,0,none⟩ (.pointer (some ⟨b,0,none⟩))).cell? ⟨b,1,none⟩=some (.slice none 0 0):=by rw [Lib.cell_of_heap hbk1];rfl
 have mixed:=qhA
 go_enter Tryz.func64,Tryz.ntmps64
 have c1':(w.setCell ⟨b,0,none⟩ (.pointer (some ⟨b,0,none⟩))).drew.cell? ⟨b,1,none⟩=some (.slice none 0 0):=c1
 go_wp2_with (go_at_call 75;refine (qnz b w (by rw [Lib.cell_of_heap hbk];rfl) (by simp [World.shape?,hbk]) (Lib.frozen_of_heap hbk 0)).mono ?_;rintro e w' ⟨rfl,rfl⟩)
 go_region_o
 all_goals go_wp2_with (go_at_call 108;refine (qny B b n (w.setCell ⟨b,0,none⟩ (.pointer (some ⟨b,0,none⟩))).drew hB hbk1 (by simpa [World.setCell,World.drew,-World.drew_eq] using hBw) hn).mono ?_;rintro e w' ⟨rfl,h1⟩)
 all_goals first
  |(go_end0;exact ⟨rfl,SbPost.behind hbk h1⟩)
  |(go_end0;exact ⟨rfl,SbPost.of_used hbk⟩)
def qdY:IC:=(sR [qT 66 .lss 65 64] (.seq (.cond (.t 66) .skip (.exit 3)) (.seq (.block 4 (sR [qX 67 1 63 65,qL 68 67,qM 10 68] (sR [qM 69 1,jC 70 34 [.t 8,.t 69]] (.reg [qM 71 10,jC 72 34 [.t 8,.t 71]])))) (.reg [qB 73 .add 65 (cI 1),qM 65 73]))))
def qdZ:IC:=(sR [qT 42 .lss 41 40] (.seq (.cond (.t 42) .skip (.exit 1)) (.seq (.block 2 (sR [qX 43 1 39 41,qL 44 43,qM 7 44] (.seq (sR [qM 45 7,qO 46 (.sln (.t 45)),qM 47 5,qO 48 (.bin .sub (cI 9223372036854775807) (.t 47)),qT 49 .gtr 46 48] (jW 49 (.reg [qO 50 (.dead),⟨none,.dead,none⟩]))) (.cut (.reg [qM 51 5,qM 52 7,qO 53 (.sln (.t 52)),qT 54 .add 51 53,qM 5 54]))))) (.reg [qB 55 .add 41 (cI 1),qM 41 55]))))
abbrev qjM:IC:=(sR [qO 4 (.mov (.c (.str [])))] (.seq (sR [qM 11 0,qN 12 11] (.block 0 (sR [qB 14 .eql 12 (cI 0),qM 13 14] (.cond (.t 13) (sR [qO 4 (.mov (.c (.str [])))] .ret) (sR [qB 16 .eql 12 (cI 1),qM 15 16] (jW 15 (sR [qM 17 0,qO 18 (.ixa 1 (.t 17) (cI 0)),qL 19 18,qM 4 19] .ret))))))) (sR [jI 5 0] (.seq (sR [qM 20 1,qO 21 (.sln (.t 20)),qB 22 .gtr 21 (cI 0)] (jW 22 (.seq (sR [qM 23 1,qO 24 (.sln (.t 23)),qM 25 0,qN 26 25,qB 27 .sub 26 (cI 1),qO 28 (.bin .quo (cI 9223372036854775807) (.t 27)),qT 29 .geq 24 28] (jW 29 (.reg [qO 30 (.dead),⟨none,.dead,none⟩]))) (.cut (.reg [qM 31 5,qM 32 1,qO 33 (.sln (.t 32)),qM 34 0,qN 35 34,qB 36 .sub 35 (cI 1),qT 37 .mul 33 36,qT 38 .add 31 37,qM 5 38]))))) (.cut (.seq (sR [qM 39 0,qN 40 39,jI 41 0] (.block 1 (.loop qdZ))) (sR [qO 8 (.alc 71 [.raw (.pointer none),.nl 1])] (sR [qM 56 5,jC 57 64 [.t 8,.t 56]] (sR [qM 58 0,qO 59 (.ixa 1 (.t 58) (cI 0)),qL 60 59,jC 61 34 [.t 8,.t 60]] (.seq (sR [qM 62 0,qO 63 (.vsl 1 (.t 62) (some (cI 1)) none),qN 64 63,jI 65 0] (.block 3 (.loop qdY))) (sR [jC 74 37 [.t 8],qM 4 74] .ret)))))))))))
theorem qjR:chkF Tryz.prog Tryz.f33 qjM [.t 4] 75=true:=by kernel_rfl
section
variable {E:Envt} {L:Objs} {k:Key} {i:Nat} {fr:List AV} {d:Option Nat} {is:List IOper} {Y:List PV} {K:List AV→Objs→Prop}
theorem qpV (i:Nat) (s t:List UInt8) (hat:SbAt L k i tSb tU8 s) (hki:k≠.l i) (hlen:s.length+t.length≤140737488355328)
  (hk:qaa Tryz.prog E Y is (Zg (fr.map (·.kill (.l i))) d (.p (.tup [int (t.length:Nat),.raw .nilIface]))) (qgC L k i tSb tU8 (s++t)) K):qa5 Tryz.prog E 34 [.adr k 0,.p (.str t)] L d fr (qcV Tryz.prog E Y is K):=
 useW (vr:=[.string ⟨t.toArray⟩]) (x:=.tup [int (t.length:Nat),.raw .nilIface]) (v:=.tuple #[.int .i64 t.length,.nilIface]) i tSb tU8 s (s++t) hat hki (fun w U ι vs h=>by obtain ⟨v,r,rfl,h1,h2⟩:=h;simp only [ARep,PRep,ARepL] at h1 h2;rw [h1,h2]) (fun w U=>⟨[_,_],rfl,_,_,rfl,rfl,_,_,rfl,⟨rfl,rfl⟩,rfl⟩)
  (fun b w h _=>qj5 b s t w h hlen) hk
theorem qys (i:Nat) (n:Nat) (hat:SbAt L k i tSb tU8 []) (hf:Zas L k=some (.box [.p nilP,.p (.nl 1)] tSb)) (hki:k≠.l i) (hn:n≤281474976710656)
  (hk:qaa Tryz.prog E Y is (Zg (fr.map (·.kill (.l i))) d (.p (.tup []))) (qgC L k i tSb tU8 []) K):qa5 Tryz.prog E 64 [.adr k 0,.p (int (n:Nat))] L d fr (qcV Tryz.prog E Y is K):=
 useW (vr:=[.int .i64 n]) (x:=.tup []) (v:=.tuple #[]) i tSb tU8 [] [] hat hki (fun w U ι vs h=>by obtain ⟨v,r,rfl,h1,h2⟩:=h;simp only [ARep,PRep,ARepL] at h1 h2;rw [h1,h2]) (fun w U=>⟨[],rfl,rfl⟩)
  (fun b w _ h=>qnC 0 b n w (Nat.zero_le _) (h hf) (Nat.zero_le _) hn) hk
theorem qqF (i:Nat) (s:List UInt8) (hat:SbAt L k i tSb tU8 s) (hki:k≠.l i)
  (hk:qaa Tryz.prog E Y is (Zg (fr.map (·.kill (.l i))) d (.p (.str s))) (qnj L k i) K):qa5 Tryz.prog E 37 [.adr k 0] L d fr (qcV Tryz.prog E Y is K):=
 qyp i tSb tU8 s hat hki (fun b w h=>qnB 0 b s w h (Nat.zero_le _)) hk
theorem qw9 (i:Nat) (s:List UInt8) (hat:SbAt L k i tSb tU8 s) (hki:k≠.l i)
  (hk:qaa Tryz.prog E Y is (Zg fr d (.p (int (s.length:Nat)))) L K):qa5 Tryz.prog E 36 [.adr k 0] L d fr (qcV Tryz.prog E Y is K):=
 qyq (x:=int (s.length:Nat)) (v:=.int .i64 s.length) i tSb tU8 s hat hki (fun w U=>rfl) (fun b w h=>by have:=qzU 0 b _ w h;rwa [Lib.byteCells_length] at this) hk
theorem qiJ:∀ (l:List (List UInt8)) (k:Nat),Lib.lens (l.take k)≤Lib.lens l
 |[],k=>by simp
 |x :: r,0=>by simp [Lib.lens]
 |x :: r,k+1=>by have:=qiJ r k;simp only [List.take_succ_cons,Lib.lens,List.map_cons,List.sum_cons] at *;omega
set_option maxHeartbeats 2000000 in
theorem qef (l:List (List UInt8)) (sep:List UInt8) (hl:l.length≤1000000000) (hlen:(Lib.join l sep).length≤1000000000):PCall Tryz.prog E 33 [strs l,.str sep] (·=.str (Lib.join l sep)):=by
 refine qah mixed Tryz.func33 qjR ?_
 refine zV ?_
 simp only [strs,ZZ,WW,Ze,reduceCtorEq,zd,ze,za,zf,zb]
 refine br ?_ ?_
 ·intro h
  have h0:l=[]:=by
   have:=of_decide_eq_true h
   simp at this
   exact this
  subst h0
  refine zS ?_
  rfl
 intro h
 have h0:l.length≠0:=by have:=of_decide_eq_false h;simpa using this
 refine zS ?_
 obtain ⟨x,r,rfl⟩:∃ x r,l=x :: r:=by cases l with|nil=>exact absurd rfl h0|cons x r=>exact ⟨x,r,rfl⟩
 refine br ?_ ?_
 ·intro h1
  have h1:r=[]:=zq (by have:=of_decide_eq_true h1;simp at this;omega)
  subst h1
  refine zS ?_
  refine ⟨by simp,by simp,?_⟩
  rw [Lib.join_one]
  rfl
 intro h1
 have h1:r.length≠0:=by have:=of_decide_eq_false h1;simp at this;omega
 have hJ:=Lib.join_length x r sep
 have hcl:(x :: r).length=r.length+1:=by simp
 have hmul:sep.length * r.length≤1000000000:=by omega
 have hll:Lib.lens (x :: r)≤1000000000:=by omega
 generalize hes:(x :: r).map (fun x=>[PV.str x])=es
 have hln:es.length=r.length+1:=by rw [← hes];simp
 have hget:∀ (k:Nat) (y:List UInt8),(x :: r)[k]?=some y→es.getD k []=[PV.str y]:=fun k y h=>by rw [← hes];exact qaR h
 refine zS ?_
 refine qe3 (fun fr L=>fr=(.p (.sl 1 es)::.p (.str sep)::oo::oo::oo::.p (int (sep.length * r.length:Nat))::oG (oC (oo::[])))∧L=[]) ?_ ?_ ?_
 ·intro hs
  have hs:0 < sep.length:=by have:=of_decide_eq_true hs;omega
  refine zS ?_
  have hq:((9223372036854775807:Int)).tdiv ((es.length:Int) - 1)=((9223372036854775807 / r.length:Nat):Int):=by
   rw [hln,Int.tdiv_eq_ediv_of_nonneg (by omega)]
   have:((r.length+1:Nat):Int) - 1=(r.length:Int):=by omega
   rw [this]
   rfl
  have hq2:9223372036≤9223372036854775807 / r.length:=(Nat.le_div_iff_mul_le (by omega)).2 (by omega)
  have he:(es.length:Int) - 1=(r.length:Int):=by omega
  have hp:(sep.length:Int) * (r.length:Int)=((sep.length * r.length:Nat):Int):=by simp
  have hq3:9223372036854775807 / r.length≤9223372036854775807:=Nat.div_le_self _ _
  have hsl:sep.length≤sep.length * r.length:=Nat.le_mul_of_pos_right _ (by omega)
  rw [hq]
  generalize 9223372036854775807 / r.length=q at *
  simp only [he]
  refine ⟨qai (by omega) (by omega),⟨by omega,qai (by omega) (by omega)⟩,?_⟩
  refine br (fun h=>absurd (of_decide_eq_true h) (by omega)) ?_
  intro _
  refine zS ?_
  refine qae zE_ ?_
  refine zS ?_
  simp only [he,hp]
  refine ⟨qai (by omega) (by omega),qai (by omega) (by omega),qai (by omega) (by omega),qc9 (.p (.sl 1 es)::.p (.str sep)::oo::oo::oo::.p (int (sep.length * r.length:Nat))::oG (oC (oo::[]))) [] (by simp only [Int.zero_add];(simp only [ZZ,WW,Ze,reduceCtorEq,zd,ze,za,zf,zb];try trivial)) zE_ ⟨rfl,rfl⟩⟩
 ·intro hs
  have hs:sep.length=0:=by have:=of_decide_eq_false hs;omega
  refine zS ?_
  exact qc9 (.p (.sl 1 es)::.p (.str sep)::oo::oo::oo::.p (int (sep.length * r.length:Nat))::oG (oC (oo::[]))) [] (by rw [hs];simp only [Nat.zero_mul];(simp only [ZZ,WW,Ze,reduceCtorEq,zd,ze,za,zf,zb];try trivial)) zE_ ⟨rfl,rfl⟩
 ·rintro fr L ⟨rfl,rfl⟩
  refine zS ?_
  refine qad (fun n fr L=>∃ (k:Nat) (m:Nat),k≤r.length+1∧n=r.length+1 - k∧(m=sep.length * r.length+Lib.lens ((x :: r).take k))∧fr=(.p (.sl 1 es)::.p (.str sep)::oo::oo::oo::.p (int (m:Nat))::oF (oo::(.p (.sl 1 es)::.p (int (es.length:Nat))::.p (int (k:Nat))::oF (oo::[]))))∧L=[]) (r.length+1) (.p (.sl 1 es)::.p (.str sep)::oo::oo::oo::.p (int ((sep.length * r.length):Nat))::oF (oo::(.p (.sl 1 es)::.p (int (es.length:Nat))::.p (int (0:Nat))::oF (oo::[])))) [] zF_ zF_ ⟨0,sep.length * r.length,by omega,by omega,by simp [Lib.lens],rfl,rfl⟩ ?_
  rintro n fr L ⟨k,m,hk,rfl,hm,rfl,rfl⟩
  simp only [qdZ,ZZ,WW,Ze,reduceCtorEq,zd,ze,za,zf,zb]
  refine br ?_ ?_
  ·intro h
   have hlt:k < r.length+1:=by have:=of_decide_eq_true h;omega
   obtain ⟨y,hy⟩:∃ y,(x :: r)[k]?=some y:=⟨_,zk (by simpa using hlt)⟩
   have hg:=hget k y hy
   have hs1:=Lib.lens_take_succ (x :: r) k y hy
   have hs2:=qiJ (x :: r) (k+1)
   simp only [ZZ,WW,Ze,reduceCtorEq,zd,ze,za,zf,zb,hg]
   refine ⟨⟨by omega,by omega⟩,by omega,qai (by omega) (by omega),?_⟩
   refine br (fun h=>absurd (of_decide_eq_true h) (by omega)) ?_
   intro _
   refine zS ?_
   refine qae zE_ ?_
   refine zS ?_
   refine ⟨qai (by omega) (by omega),qai (by omega) (by omega),?_⟩
   refine qab (r.length+1 - (k+1)) (.p (.sl 1 es)::.p (.str sep)::oo::oo::oo::.p (int ((m+y.length):Nat))::oF (oo::(.p (.sl 1 es)::.p (int (es.length:Nat))::.p (int ((k+1):Nat))::oF (oo::[])))) [] (by omega) zF_ zF_ ⟨k+1,m+y.length,by omega,rfl,by omega,rfl,rfl⟩
  ·intro h
   have hge:k=r.length+1:=by have:=of_decide_eq_false h;omega
   subst hge
   have hm':m≤1000000000:=by rw [hm,List.take_of_length_le (by simp)];omega
   refine zS ?_
   refine qys 1000 m (.inl ⟨rfl,rfl⟩) rfl (by simp) (by omega) ?_
   have hg0:=hget 0 x rfl
   have hlx:Lib.lens (x :: r)=x.length+Lib.lens r:=by simp [Lib.lens]
   simp only [ZZ,WW,Ze,reduceCtorEq,zd,ze,za,zf,zb,qgC,Int.toNat_zero,hg0]
   refine ⟨⟨by omega,by omega⟩,by omega,?_⟩
   refine qpV 1000 [] x (.inr ⟨rfl,rfl⟩) (by simp) (by simp;omega) ?_
   simp only [ZZ,WW,Ze,reduceCtorEq,zd,ze,za,zf,zb,qgC]
   refine ⟨⟨by omega,by omega⟩,?_⟩
   have hd:(es.take es.length).drop 1=strE r:=by rw [z7,← hes];simp [strE]
   simp only [Int.toNat_one,hd,qac]
   refine qad (fun n fr L=>∃ (k:Nat) (s:List UInt8),k≤r.length∧n=r.length - k∧(s=x++Lib.joinTail sep (r.take k))∧fr=(oo::.p (.str sep)::oC (oB (.adr (.l 8) 0::oF (oE (oC (oB (.p (.sl 1 (strE r))::.p (int (r.length:Nat))::.p (int (k:Nat))::oD (oo::[]))))))))∧L=[(.l 8,.box [.adr (.l 8) 0,.row (.l 1000)] tSb),(.l 1000,.row (bytC s) tU8 1 true)]) (r.length) (oo::.p (.str sep)::oC (oB (.adr (.l 8) 0::oF (oE (oC (oB (.p (.sl 1 (strE r))::.p (int (r.length:Nat))::.p (int (0:Nat))::oD (oo::[])))))))) [(.l 8,.box [.adr (.l 8) 0,.row (.l 1000)] tSb),(.l 1000,.row (bytC x) tU8 1 true)] zF_ zF_ ⟨0,x,by omega,by omega,by simp [Lib.joinTail],rfl,rfl⟩ ?_
   rintro n fr L ⟨k,s,hk,rfl,hs,rfl,rfl⟩
   simp only [qdY,ZZ,WW,Ze,reduceCtorEq,zd,ze,za,zf,zb]
   refine br ?_ ?_
   ·intro h
    have hlt:k < r.length:=by have:=of_decide_eq_true h;omega
    obtain ⟨y,hy⟩:∃ y,r[k]?=some y:=⟨_,zk hlt⟩
    have hg:=qaU hy
    have hj1:=Lib.joinTail_take_succ sep r k y hy
    have hj2:=Lib.joinTail_take_le sep r (k+1)
    have hj3:=Lib.joinTail_length sep r
    have hj4:(Lib.joinTail sep (r.take (k+1))).length=(Lib.joinTail sep (r.take k)).length+sep.length+y.length:=by rw [hj1];simp;omega
    have hsl:s.length=x.length+(Lib.joinTail sep (r.take k)).length:=by rw [hs];simp
    simp only [ZZ,WW,Ze,reduceCtorEq,zd,ze,za,zf,zb,qac,hg]
    refine ⟨⟨by omega,by omega⟩,by omega,?_⟩
    refine qpV 1000 s sep (.inr ⟨rfl,rfl⟩) (by simp) (by omega) ?_
    simp only [ZZ,WW,Ze,reduceCtorEq,zd,ze,za,zf,zb,qgC]
    refine qpV 1000 (s++sep) y (.inr ⟨rfl,rfl⟩) (by simp) (by simp;omega) ?_
    simp only [ZZ,WW,Ze,reduceCtorEq,zd,ze,za,zf,zb,qgC]
    refine ⟨qai (by omega) (by omega),?_⟩
    refine qab (r.length - (k+1)) (oo::.p (.str sep)::oC (oB (.adr (.l 8) 0::oF (oE (oC (oB (.p (.sl 1 (strE r))::.p (int (r.length:Nat))::.p (int ((k+1):Nat))::oD (oo::[])))))))) [(.l 8,.box [.adr (.l 8) 0,.row (.l 1000)] tSb),(.l 1000,.row (bytC (s++sep++y)) tU8 1 true)] (by omega) zF_ zF_ ⟨k+1,s++sep++y,by omega,rfl,by rw [hj1,hs];simp,rfl,rfl⟩
   ·intro h
    have hge:k=r.length:=by have:=of_decide_eq_false h;omega
    subst hge
    refine zS ?_
    refine qqF 1000 s (.inr ⟨rfl,rfl⟩) (by simp) ?_
    refine zS ?_
    rw [hs,z7,Lib.join_cons]
end
def qa1:IC:=(sR [qT 9 .lss 8 7] (.seq (jE 9) (.seq (.block 1 (sR [qM 10 8,qM 5 10] (sR [qM 11 1,qM 12 0,qM 13 5,qX 14 1 12 13,qL 15 14,qO 16 (.callv (.t 11) [.t 15])] (jW 16 (sR [qM 17 5,qM 4 17] .ret))))) (.reg [qB 18 .add 8 (cI 1),qM 8 18]))))
abbrev qcz:IC:=(sR [jI 4 0] (.seq (sR [qM 6 0,qN 7 6,jI 8 0] (.block 0 (.loop qa1))) (sR [jI 4 (-1)] .ret)))
theorem qcO:chkF Tryz.prog Tryz.f147 qcz [.t 4] 19=true:=by kernel_rfl
abbrev qb1:IC:=(sR [qO 4 (.mov (.c (.bool false)))] (sR [qM 5 0,qM 6 1,jC 7 147 [.t 5,.t 6],qB 8 .geq 7 (cI 0),qM 4 8] .ret))
theorem qca:chkF Tryz.prog Tryz.f92 qb1 [.t 4] 9=true:=by kernel_rfl
section
variable {E:Envt}
def idxF {α:Type} (q:α→Bool) (l:List α):Int:=match l.findIdx? q with|some i=>(i:Int)|none=>-1
theorem qpp {α:Type} {q:α→Bool} {l:List α} {k:Nat} {x:α} (h:l[k]?=some x) (hx:q x=true) (hno:∀ y∈l.take k,q y=false):idxF q l=k:=by
 obtain ⟨hk,hxk⟩:=List.getElem?_eq_some_iff.1 h
 have:l.findIdx? q=some k:=by
  rw [List.findIdx?_eq_some_iff_getElem]
  refine ⟨hk,by rw [hxk];exact hx,fun j hj=>?_⟩
  have:=hno l[j] (by rw [List.mem_take_iff_getElem];exact ⟨j,by omega,rfl⟩)
  simp [this]
 simp [idxF,this]
theorem qnd {α:Type} {q:α→Bool} {l:List α} (hno:∀ y∈l,q y=false):idxF q l=-1:=by
 have:l.findIdx? q=none:=by rw [List.findIdx?_eq_none_iff];exact hno
 simp [idxF,this]
theorem qpq {α:Type} (q:α→Bool) (l:List α):decide ((0:Int)≤idxF q l)=l.any q:=by
 rw [← List.findIdx?_isSome]
 unfold idxF
 cases l.findIdx? q<;>simp
end
section
variable {E:Envt}
end
section
variable {P:Program} {E:Envt} {w:World} {U:Nat→Prop}
theorem qr6 {z b:Nat}:∀ (es:List (List PV)) (vs:List Value) (off:Nat),(∀ x∈es,x.length=z)→PRepL w U es.flatten vs→(∀ v∈vs,v.oneCell'=true)→(∀ j u,vs[j]?=some u→w.cell? ⟨b,off+j,none⟩=some u)→PRepE w U b z off es:=by
 intro es
 induction es with
 |nil=>intros;simp [PRepE]
 |cons x r ih=>
  intro vs off hz hv h1 hc
  simp only [PRepE]
  have hx:=hz x (by simp)
  simp only [List.flatten_cons] at hv
  have ha:=hv.take x.length
  have hb:=hv.drop x.length
  rw [List.take_left] at ha
  rw [List.drop_left] at hb
  refine ⟨hx,PRepC.of ha (fun v hv=>h1 v (List.mem_of_mem_take hv)) (fun j u hu=>hc j u (by rw [List.getElem?_take] at hu;split at hu;exact hu;cases hu)),ih _ (off+z) (fun y hy=>hz y (by simp [hy])) hb (fun v hv=>h1 v (List.mem_of_mem_drop hv)) (fun j u hu=>?_)⟩
  rw [List.getElem?_drop] at hu
  have:=hc _ u hu
  rwa [hx,← Nat.add_assoc] at this
theorem qxA {f:FuncId} {args:List PV} {e z:Nat} {φ:List (List PV)→Prop} (h:FCall P E f args e z φ):PCall P E f args (fun x=>∃ es,x=.sl z es∧φ es):=by
 intro w U vs hU hE hEb hA
 refine (h w U vs undef hU hE (fun c hc=>⟨hEb c hc,fun h=>by cases h⟩) hA trivial).mono ?_
 rintro e' w' ⟨v,r,os',rfl,⟨es,rfl,hφ⟩,⟨us,hrow,h1,hl,hz,hb⟩,hg⟩
 refine ⟨v,.sl z es,rfl,⟨es,rfl,hφ⟩,?_,hg⟩
 have hcl:=fun g m c hv=>hrow.cells (g:=g) (m:=m) (c:=c) hv
 rcases hrow.2 with ⟨rfl,g2⟩|⟨g,cap,cur,fz,rfl,k2,k3,_⟩
 ·exact ⟨none,0,by rw [g2],by omega,fun hne=>absurd (zq g2) hne⟩
 ·refine ⟨_,cap,rfl,k3,fun _=>⟨g,0,rfl,(Array.getElem?_eq_some_iff.1 k2).1,fun hu=>?_,?_⟩⟩
  ·have h1:=hU g hu
   have h2:=hb g rfl
   omega
  ·refine qr6 es us 0 hz (PRepL.mono (fun c _ hu=>⟨rfl,fun h=>hu (.inl h)⟩) _ _ hl) h1 (fun j u hu=>?_)
   rw [Nat.zero_add]
   exact hcl g _ _ rfl j u hu
theorem qri {f:FuncId} {args:List PV} {e z:Nat} {es:List (List PV)} (h:FCall P E f args e z (·=es)):PCall P E f args (·=.sl z es):=by
 intro w U vs hU hE hEb hA
 refine (qxA h w U vs hU hE hEb hA).mono ?_
 rintro e' w' ⟨v,x,h1,⟨es',rfl,rfl⟩,h2⟩
 exact ⟨v,_,h1,rfl,h2⟩
end
section
variable {E:Envt}
end
end Go.Proofs.YtjgdjinhkgjpeabGreatDoor
namespace Go.Proofs.YtjgdjinhkgjpeabGreatDoor
open Nat renaming reduceAdd→zd,reduceEqDiff→zb,reduceLT→zf,reduceLeDiff→za,reduceMul→ze
open List renaming getElem?_eq_getElem→zk,take_of_length_le→zJ
def qba:IC:=(sR [qT 14 .lss 13 12] (.seq (jE 14) (.seq (.block 1 (sR [qM 15 13,qM 5 15] (.seq (.drg [qM 16 0,qM 17 5,qX 18 1 16 17,qL 19 18,qM 20 1,qM 21 5,qX 22 1 20 21,qL 23 22,qT 24 .neq 19 23]) (jW 24 (sR [qO 4 (.mov (.c (.bool false)))] .ret))))) (.reg [qB 25 .add 13 (cI 1),qM 13 25]))))
abbrev qds:IC:=(sR [qO 4 (.mov (.c (.bool false)))] (.seq (sR [qM 6 0,qN 7 6,qM 8 1,qN 9 8,qT 10 .neq 7 9] (jW 10 (sR [qO 4 (.mov (.c (.bool false)))] .ret))) (.seq (sR [qM 11 0,qN 12 11,jI 13 0] (.block 0 (.loop qba))) (sR [qO 4 (.mov (.c (.bool true)))] .ret))))
theorem qdv:chkF Tryz.prog Tryz.f48 qds [.t 4] 26=true:=by kernel_rfl
section
variable {E:Envt}
set_option maxHeartbeats 2000000 in
theorem qsA (l m:List (List UInt8)) (hl:l.length≤1000000000):PCall Tryz.prog E 48 [strs l,strs m] (·=.bool (decide (l=m))):=by
 refine qah mixed Tryz.func48 qdv ?_
 refine zV ?_
 simp only [strs,ZZ,WW,Ze,reduceCtorEq,zd,ze,za,zf,zb]
 have hln:(l.map fun x=>[PV.str x]).length=l.length:=by simp
 have hlm:(m.map fun x=>[PV.str x]).length=m.length:=by simp
 have hget:∀ k x,l[k]?=some x→(l.map fun x=>[PV.str x]).getD k []=[.str x]:=fun k p hp=>qaR hp
 have hgem:∀ k x,m[k]?=some x→(m.map fun x=>[PV.str x]).getD k []=[.str x]:=fun k p hp=>qaR hp
 generalize (l.map fun x=>[PV.str x])=es at *
 generalize (m.map fun x=>[PV.str x])=fs at *
 simp only [ZZ,WW,Ze,reduceCtorEq,zd,ze,za,zf,zb,hln,hlm]
 refine br ?_ ?_
 ·intro h
  have:¬ l=m:=by rintro rfl;simp at h
  refine zS ?_
  simp [this]
 intro h
 have hlen:l.length=m.length:=by have:(l.length:Int)=m.length:=by simpa using h
                                 omega
 refine zS ?_
 refine qad (fun n fr L=>∃ (k:Nat),k≤l.length∧n=l.length - k∧(l.take k=m.take k)∧fr=(.p (.sl 1 es)::.p (.sl 1 fs)::oD (oB (.p (int (l.length:Nat))::.p (int (k:Nat))::oD (oC []))))∧L=[]) (l.length) (.p (.sl 1 es)::.p (.sl 1 fs)::oD (oB (.p (int (l.length:Nat))::.p (int (0:Nat))::oD (oC [])))) [] (by simp only [hln,ZZ,WW,Ze,reduceCtorEq,zd,ze,za,zf,zb];try trivial) zF_ ⟨0,by omega,by omega,by simp,rfl,rfl⟩ ?_
 rintro n fr L ⟨k,hk,rfl,hf,rfl,rfl⟩
 simp only [qba,ZZ,WW,Ze,reduceCtorEq,zd,ze,za,zf,zb]
 refine br ?_ ?_
 ·intro h
  have hlt:k < l.length:=by have:=of_decide_eq_true h;omega
  obtain ⟨x,hx⟩:∃ x,l[k]?=some x:=⟨_,zk hlt⟩
  obtain ⟨y,hy⟩:∃ y,m[k]?=some y:=⟨_,zk (by omega)⟩
  have hg:=hget k x hx
  have hg2:=hgem k y hy
  refine zS ?_
  refine drg0 ?_
  simp only [ZZ,WW,Ze,reduceCtorEq,zd,ze,za,zf,zb,hg,hg2,hln,hlm]
  ((with_reducible and_intros)<;>try exact sc_)
  refine br ?_ ?_
  ·intro h2
   have:¬ l=m:=by
    rintro rfl
    rw [hx] at hy
    cases hy
    simp at h2
   refine zS ?_
   simp [this]
  ·intro h2
   have hxy:x=y:=by simpa using h2
   refine zS ?_
   ((with_reducible and_intros)<;>try exact sc_)
   refine qab (l.length - (k+1)) (.p (.sl 1 es)::.p (.sl 1 fs)::oD (oB (.p (int (l.length:Nat))::.p (int ((k+1):Nat))::oD (oC [])))) [] (by omega) zF_ zF_ ⟨k+1,by omega,rfl,by rw [List.take_add_one,List.take_add_one,hf,hx,hy,hxy],rfl,rfl⟩
 ·intro h
  have hge:l.length≤k:=by have:=of_decide_eq_false h;omega
  refine zS ?_
  rw [zJ hge,zJ (by omega)] at hf
  simp [hf]
end
end Go.Proofs.YtjgdjinhkgjpeabGreatDoor
namespace Go.Proofs.YtjgdjinhkgjpeabGreatDoor
open Nat renaming reduceAdd→zd,reduceEqDiff→zb,reduceLT→zf,reduceLeDiff→za,reduceMul→ze
open List renaming getElem?_eq_getElem→zk,getElem?_eq_some_iff→zo,getElem?_of_mem→yg,length_cons→zl,take_length→z7,take_succ_eq_append_getElem→zI
open Go.RowKit
def qcJ:IC:=(sR [qT 17 .lss 16 15] (.seq (jE 17) (.seq (.block 1 (sR [qX 18 1 14 16,qL 19 18,qM 8 19] (sR [qM 20 5,qM 21 8,qO 22 (.bin .add (.c (.str [32])) (.t 21)),qB 23 .add 22 (.c (.str [32])),jC 24 70 [.t 20,.t 23]] (jW 24 (.reg [qM 25 6,qM 26 8,qO 27 (.bsl 1 [.t 26]),qO 28 (.app 9 1 16 (.t 25) (.t 27)),qM 6 28]))))) (.cut (.reg [qB 29 .add 16 (cI 1),qM 16 29])))))
abbrev qgO:IC:=(sR [qO 4 (.mov (.c (.nl 1)))] (sR [qM 9 1,jC 10 153 [.t 9],jC 11 33 [.t 10,.c (.str [32])],qO 12 (.bin .add (.c (.str [32])) (.t 11)),qB 13 .add 12 (.c (.str [32])),qM 5 13] (sR [qO 6 (.nilr 9 1)] (.seq (sR [qM 14 0,qN 15 14,jI 16 0] (.block 0 (.loop qcJ))) (sR [qM 30 6,qM 4 30] .ret)))))
theorem qg1:chkF Tryz.prog Tryz.f95 qgO [.t 4] 31=true:=by kernel_rfl
def qdI (l:List (List UInt8)):List UInt8:=Lib.join l [32]
theorem qlB (m:Nat):∀ l:List (List UInt8),(∀ x∈l,x.length≤m)→Lib.lens l≤l.length * m
 |[],_=>by simp [Lib.lens]
 |x :: r,h=>by
  have:=qlB m r (fun y hy=>h y (by simp [hy]))
  have:=h x (by simp)
  simp only [Lib.lens,List.map_cons,List.sum_cons,zl,Nat.succ_mul] at *
  omega
theorem qtG (l:List (List UInt8)) (m:Nat) (h:∀ x∈l,x.length≤m):(qdI l).length≤l.length * (m+1):=by
 cases l with
 |nil=>simp [qdI,Lib.join_nil]
 |cons x r=>
  have:=qlB m (x :: r) h
  rw [qdI,Lib.join_length,Nat.mul_add]
  simp only [zl,List.length_nil] at *
  omega
theorem qqC (t:List UInt8):∀ x∈qdU t,x.length≤t.length:=by
 intro x hx
 simp only [qdU,List.mem_map,quV] at hx
 obtain ⟨p,_,rfl⟩:=hx
 rw [qtx]
 exact Sp.part_len t p.1 p.2
theorem qtF (t:List UInt8) (ht:t.length≤25000):(qdU t).length≤25001∧(qdI (qdU t)).length≤900000000:=by
 have h1:=qpU t
 have h2:=qtG (qdU t) t.length (qqC t)
 have h3:(qdU t).length * (t.length+1)≤25001 * 25001:=Nat.mul_le_mul (by omega) (by omega)
 omega
theorem qpQ {E:Envt} (l:List (List UInt8)) (hl:l.length≤1000000000) (hlen:(qdI l).length≤1000000000):PCall Tryz.prog E 33 [.sl 1 (strE l),.str [32]] (·=.str (qdI l)):=qef l [32] hl hlen
def leS (x y:List UInt8):Bool:=bytesLess x y || decide (x=y)
section
def qm3 (s x:List UInt8):Bool:=decide (0≤Lib.index s (32 :: (x++[32])))
def qch (ts:List (List UInt8)) (t:List UInt8):List (List UInt8):=ts.filter (qm3 (32 :: (qdI (qdU t)++[32])))
set_option maxHeartbeats 2000000 in
theorem qqu (ts:List (List UInt8)) (t:List UInt8) (hl:ts.length≤1000000) (hb:∀ x∈ts,x.length≤25000) (ht:t.length≤25000):PCall Tryz.prog E0 95 [strs ts,.str t] (·=strs (qch ts t)):=by
 rw [qbU (qch ts t)]
 refine qri (e:=tStr) ?_
 unfold FCall
 refine qf0 mixed Tryz.func95 qg1 ?_
 refine zV ?_
 have hW:=qtF t ht
 refine use1 (qqo t (by omega)) rfl (.inl rfl) ?_
 rw [qbU,qbU]
 refine zS ?_
 refine use1 (qpQ (qdU t) (by omega) (Nat.le_trans hW.2 (by decide))) rfl (.inl rfl) ?_
 simp only [ZZ,WW,Ze,reduceCtorEq,zd,ze,za,zf,zb,qac]
 refine ⟨by simp;omega,by simp;omega,?_⟩
 have hJ:(32 :: (qdI (qdU t)++[32])).length≤900000002:=by simp;omega
 have hF:qch ts t=ts.filter (qm3 (32 :: (qdI (qdU t)++[32]))):=rfl
 rw [hF]
 generalize (32 :: (qdI (qdU t)++[32]):List UInt8)=s at hJ ⊢
 refine qad (fun n fr L=>∃ (k:Nat) (l:List (List UInt8)),k≤ts.length∧n=ts.length - k∧(l=(ts.take k).filter (qm3 s))∧fr=(oC (oo::(.p (.str s)::.row (.l 6)::oC (oB (oo::(.p (.sl 1 (strE ts))::.p (int (ts.length:Nat))::.p (int (k:Nat))::oD (oC (oB []))))))))∧L=[(.l 6,.row (strE l) tStr 1 true)]) (ts.length) (oC (oo::(.p (.str s)::.row (.l 6)::oC (oB (oo::(.p (.sl 1 (strE ts))::.p (int (ts.length:Nat))::.p (int (0:Nat))::oD (oC (oB [])))))))) [(.l 6,.row (strE []) tStr 1 true)] zF_ zF_ ⟨0,[],by omega,by omega,by simp,rfl,rfl⟩ ?_
 rintro n fr L ⟨k,l,hk,rfl,hl2,rfl,rfl⟩
 simp only [qcJ,ZZ,WW,Ze,reduceCtorEq,zd,ze,za,zf,zb]
 refine br ?_ ?_
 ·intro h
  have hlt:k < ts.length:=by have:=of_decide_eq_true h;omega
  obtain ⟨x,hx⟩:∃ x,ts[k]?=some x:=⟨_,zk hlt⟩
  have hg:=qaU hx
  have hbx:=hb x (List.mem_of_getElem? hx)
  have hlk:l.length≤ts.length:=by rw [hl2];exact Nat.le_trans (List.length_filter_le _ _) (by simp;omega)
  have hnx:(ts.take (k+1)).filter (qm3 s)=if qm3 s x=true then l++[x] else l:=by
   rw [zI hlt,List.filter_append,← hl2,(zo.1 hx).2]
   cases hm:qm3 s x<;>simp [hm]
  simp only [ZZ,WW,Ze,reduceCtorEq,zd,ze,za,zf,zb,hg,qac]
  ((with_reducible and_intros)<;>try exact sc_)
  refine use1 (qhD s (32 :: (x++[32])) (by omega)) rfl (.inl rfl) ?_
  refine zS ?_
  refine br ?_ ?_
  ·intro hm
   have hm:qm3 s x=true:=hm
   simp only [ZZ,WW,Ze,reduceCtorEq,zd,ze,za,zf,zb,qac]
   refine ⟨by omega,?_⟩
   refine qae zE_ ?_
   refine zS ?_
   refine ⟨qai (by omega) (by omega),?_⟩
   rw [qeK,← qdV]
   refine qab (ts.length - (k+1)) (oC (oo::(.p (.str s)::.row (.l 6)::oC (oB (oo::(.p (.sl 1 (strE ts))::.p (int (ts.length:Nat))::.p (int ((k+1):Nat))::oD (oC (oB [])))))))) [(.l 6,.row (strE (l++[x])) tStr 1 true)] (by omega) zF_ zF_ ⟨k+1,l++[x],by omega,rfl,by rw [hnx,if_pos hm],rfl,rfl⟩
  ·intro hm
   have hm:qm3 s x=false:=hm
   refine zS ?_
   refine qae zE_ ?_
   refine zS ?_
   refine ⟨qai (by omega) (by omega),?_⟩
   refine qab (ts.length - (k+1)) (oC (oo::(.p (.str s)::.row (.l 6)::oC (oB (oo::(.p (.sl 1 (strE ts))::.p (int (ts.length:Nat))::.p (int ((k+1):Nat))::oD (oC (oB [])))))))) [(.l 6,.row (strE l) tStr 1 true)] (by omega) zF_ zF_ ⟨k+1,l,by omega,rfl,by rw [hnx,if_neg (by simp [hm])],rfl,rfl⟩
 ·intro h
  have hge:k=ts.length:=by have:=of_decide_eq_false h;omega
  subst hge
  rw [z7] at hl2
  subst hl2
  refine zS ?_
  exact qke 6 _ rfl rfl rfl
end
abbrev qfj:IC:=(sR [jI 2 0] (sR [qM 3 0,jC 4 119 [.t 3],qO 5 (.not (.t 4)),jC 6 30 [.t 5,.c (.int .i64 3)],qM 2 6] .ret))
theorem qfq:chkF Tryz.prog Tryz.f73 qfj [.t 2] 7=true:=by kernel_rfl
def parE (l:List Par):List (List PV):=l.map par
theorem qgv (l:List Par):(parE l).length=l.length:=by simp [parE]
theorem qpe {l:List Par} {k:Nat} {x:Par} (h:l[k]?=some x):(parE l).getD k []=[.str x.1,int x.2.1,int x.2.2]:=qaR h
def p00:Par:=([],0,0)
section
variable {E:Envt}
end
theorem qiI (s:List UInt8) (hs:s.length≤1000000000):PCall Tryz.prog E0 73 [.str s] (·=int (qaO (!qhc s) 3)):=by
 refine qah mixed Tryz.func73 qfq ?_
 refine zV ?_
 refine use1 (qsx s hs) rfl (.inl rfl) ?_
 refine zS ?_
 refine use1 (qee _ _) rfl (.inl rfl) ?_
 simp only [ZZ,WW,Ze,reduceCtorEq,zd,ze,za,zf,zb]
theorem qo3 {n:Nat} (f:Nat→Int) {k:Nat} (h:k < n):((List.range n).map f)[k]?=some (f k):=by
 rw [List.getElem?_map,List.getElem?_range h];rfl
abbrev cb:=Lib.compareBytes
theorem qbF:∀ {l:List Int},qar l=0→∀ x∈l,x=0
 |[],_,x,hx=>by cases hx
 |e :: r,h,x,hx=>by
  simp only [qar] at h
  split at h
  ·rename_i he
   rcases List.mem_cons.1 hx with rfl|hx
   ·exact he
   ·exact qbF h x hx
  ·rename_i he;exact absurd h he
theorem qkm {b:Bool} {e:Int} (he:e≠0) (h:qaO b e=0):b=false:=by
 unfold qaO at h
 cases b
 ·rfl
 ·simp at h;exact absurd h he
def parA (p:Par):PV:=.agg (par p)
theorem qol (s:List UInt8) (c:UInt8) (i:Nat):Lib.occAt s [c] i=true↔s[i]?=some c:=by
 unfold Lib.occAt
 cases h:s.drop i with
 |nil=>
  have:s.length≤i:=by simpa using h
  simp [List.getElem?_eq_none this]
 |cons x r=>
  have hx:s[i]?=some x:=by
   have:=congrArg (fun l=>l[0]?) h
   simpa using this
  simp [hx]
  exact eq_comm
theorem qlR (s:List UInt8) (c:UInt8):(∃ a b,s=a++c :: b∧c∉a∧cutF s [c]=(a,b,true))∨(c∉s∧cutF s [c]=(s,[],false)):=by
 rcases Lib.index_spec s [c] with ⟨h1,h2⟩|⟨i,h1,h2,h3,h4⟩
 ·refine .inr ⟨fun hc=>?_,by rw [cutF,h1,if_neg (by decide)]⟩
  obtain ⟨j,hj⟩:=yg hc
  have:=h2 j (by have:=(zo.1 hj).1;omega)
  rw [(qol s c j).2 hj] at this
  cases this
 ·have h5:=(qol s c i).1 h3
  have hlt:=(zo.1 h5).1
  refine .inl ⟨s.take i,s.drop (i+1),?_,?_,?_⟩
  ·conv=>lhs;rw [← List.take_append_drop i s]
   rw [List.drop_eq_getElem_cons hlt,(zo.1 h5).2]
  ·intro hc
   obtain ⟨j,hj⟩:=yg hc
   rw [List.getElem?_take] at hj
   split at hj
   ·rename_i hji
    have:=h4 j hji
    rw [(qol s c j).2 hj] at this
    cases this
   ·cases hj
  ·rw [cutF,h1,if_pos (by omega)]
   simp
def qf1 (l:List Par) (n:List UInt8):Option Par:=l.find? (fun p=>decide (p.1=n))
theorem qiz {l:List Par} {n:List UInt8} {p:Par} (h:qf1 l n=some p):p∈l∧p.1=n:=⟨List.mem_of_find?_eq_some h,by simpa using List.find?_some h⟩
def refD (l:List Par):Nat→List UInt8→Option Par
 |0,s=>qf1 l s
 |n+1,s=>match qf1 l s with
  |some d=>some d
  |none=>if (cutF s [46]).2.2=true then refD l n (cutF s [46]).2.1 else none
theorem qjC (l:List Par) (n:Nat) (s:List UInt8):refD l (n+1) s=match qf1 l s with|some d=>some d|none=>if (cutF s [46]).2.2=true then refD l n (cutF s [46]).2.1 else none:=rfl
theorem qmN (l:List Par):∀ (n:Nat) (s:List UInt8),s.length≤n→refD l (n+1) s=refD l n s
 |0,s,h=>by
  have:s=[]:=List.eq_nil_of_length_eq_zero (by omega)
  subst this
  simp only [refD]
  rcases qlR [] 46 with ⟨a,b,h1,_⟩|⟨_,h2⟩
  ·simp at h1
  ·rw [h2];cases qf1 l []<;>rfl
 |n+1,s,h=>by
  rw [qjC l (n+1) s,qjC l n s]
  cases hq:qf1 l s with
  |some d=>rfl
  |none=>
   rcases qlR s 46 with ⟨a,b,h1,_,h3⟩|⟨_,h2⟩
   ·rw [h3]
    simp only [if_true]
    exact qmN l n b (by rw [h1] at h;simp at h;omega)
   ·rw [h2];simp
theorem qkv (l:List Par) (s:List UInt8):∀ d,refD l (s.length+d) s=refD l s.length s
 |0=>rfl
 |d+1=>by rw [← Nat.add_assoc,qmN l (s.length+d) s (by omega)];exact qkv l s d
theorem qrc (l:List Par) {s:List UInt8} (h:qf1 l s=none) (hc:(cutF s [46]).2.2=true):refD l s.length s=refD l (cutF s [46]).2.1.length (cutF s [46]).2.1:=by
 rcases qlR s 46 with ⟨a,b,h1,_,h3⟩|⟨_,h2⟩
 ·rw [h3]
  have hl:s.length=b.length+a.length+1:=by rw [h1];simp;omega
  rw [hl,refD,h,h3]
  simp only [if_true]
  exact qkv l b a.length
 ·rw [h2] at hc;cases hc
theorem qrb (l:List Par) {s:List UInt8} (h:qf1 l s=none) (hc:(cutF s [46]).2.2=false):refD l s.length s=none:=by
 cases hs:s.length with
 |zero=>rw [refD,h]
 |succ n=>rw [refD,h];simp [hc]
theorem qs9 (l:List Par) {s:List UInt8} {d:Par} (h:qf1 l s=some d):refD l s.length s=some d:=by
 cases hs:s.length with
 |zero=>rw [refD,h]
 |succ n=>rw [refD,h]
def qcF:IC:=(sR [qT 39 .lss 38 37] (.seq (.cond (.t 39) .skip (.exit 4)) (.seq (.block 5 (sR [qX 40 3 36 38,qO 41 (.ld 3 true (.t 40)),qO 14 (.alc 44 [.str [],.int .i64 0,.int .i64 0]),qS 3 14 41] (sR [wF 42 0 14,qL 43 42,qM 44 11,qT 45 .eql 43 44] (jW 45 (sR [qM 46 2,wF 47 1 14,qL 48 47,wF 49 2 14,qL 50 49,qO 51 (.bld [.str [],.int .i64 0,.int .i64 0] [(0,1,.t 46),(1,1,.t 48),(2,1,.t 50)]),qS 3 6 51,qO 7 (.mov (.c (.bool true)))] .ret))))) (.reg [qB 52 .add 38 (cI 1),qM 38 52]))))
def qcG:IC:=(.block 3 (.seq (sR [qM 36 1,qN 37 36,jI 38 0] (.block 4 (.loop qcF))) (sR [qM 54 11,jC 55 66 [.t 54,.c (.str [46])],qM 53 55,qO 56 (.ext 0 (.t 53)),qO 57 (.ext 1 (.t 53)),qO 58 (.ext 2 (.t 53)),qM 15 56,qM 16 57,qM 17 58] (.seq (sR [qM 59 17,qO 60 (.not (.t 59))] (jW 60 (sR [qO 61 (.bld [.str [],.int .i64 0,.int .i64 0] []),qS 3 6 61,qO 7 (.mov (.c (.bool false)))] .ret))) (.reg [qM 62 16,qM 11 62])))))
def qcH:IC:=(sR [qT 21 .lss 20 19] (.seq (jE 21) (.seq (.block 1 (sR [qX 22 3 18 20,qO 23 (.ld 3 true (.t 22)),qO 9 (.alc 41 [.str [],.int .i64 0,.int .i64 0]),qS 3 9 23] (sR [wF 24 0 9,qL 25 24,qM 26 2,qT 27 .eql 25 26] (jW 27 (sR [qO 28 (.ld 3 true (.t 9)),qS 3 6 28,qO 7 (.mov (.c (.bool true)))] .ret))))) (.reg [qB 29 .add 20 (cI 1),qM 20 29]))))
abbrev qgI:IC:=(sR [qO 6 (.alc 41 [.str [],.int .i64 0,.int .i64 0]),qO 7 (.mov (.c (.bool false)))] (.seq (sR [qM 18 0,qN 19 18,jI 20 0] (.block 0 (.loop qcH))) (sR [qM 31 2,jC 32 66 [.t 31,.c (.str [64])],qM 30 32,qO 33 (.ext 0 (.t 30)),qO 34 (.ext 1 (.t 30)),qO 35 (.ext 2 (.t 30)),qM 10 33,qM 11 34,qM 12 35] (.block 2 (.loop qcG)))))
theorem qgV:chkF Tryz.prog Tryz.f97 qgI [.c 6 3 true,.t 7] 63=true:=by kernel_rfl
def qlQ (m:List UInt8):List UInt8:=(cutF m [64]).2.1
def qa4 (l some':List Par) (m:List UInt8):Par×Bool:=
 match qf1 l m with
 |some p=>(p,true)
 |none=>match refD some' (qlQ m).length (qlQ m) with
  |some d=>((m,d.2),true)
  |none=>(p00,false)
theorem qpv {l:List Par} {n:List UInt8} {k:Nat} (hno:∀ x∈l.take k,x.1≠n) {x:Par} (hx:l[k]?=some x) (h:x.1=n):qf1 l n=some x:=by
 have hk:=(zo.1 hx).1
 have e:l=l.take k++x :: l.drop (k+1):=by
  conv=>lhs;rw [← List.take_append_drop k l]
  rw [List.drop_eq_getElem_cons hk,(zo.1 hx).2]
 rw [e,qf1,List.find?_append]
 have:(l.take k).find? (fun p=>decide (p.1=n))=none:=by
  rw [List.find?_eq_none];intro y hy;simpa using hno y hy
 rw [this]
 simp [h]
theorem qnf {l:List Par} {n:List UInt8} (hno:∀ x∈l,x.1≠n):qf1 l n=none:=by
 rw [qf1,List.find?_eq_none];intro y hy;simpa using hno y hy
theorem qqL {l:List Par} {n:List UInt8} {k:Nat} {x:Par} (hno:∀ y∈l.take k,y.1≠n) (hx:l[k]?=some x) (h:x.1≠n):∀ y∈l.take (k+1),y.1≠n:=by
 have hk:=(zo.1 hx).1
 rw [zI hk]
 intro y hy
 rcases List.mem_append.1 hy with hy|hy
 ·exact hno y hy
 ·rw [List.mem_singleton] at hy;rw [hy,(zo.1 hx).2];exact h
set_option maxHeartbeats 2000000 in
theorem qip (l some':List Par) (m:List UInt8) (hl:l.length≤1000000) (hl2:some'.length≤1000000) (hb:∀ p∈some',p.1.length≤1000000) (hm:m.length≤1000000):PCall Tryz.prog E0 97 [.sl 3 (parE l),.sl 3 (parE some'),.str m] (·=.tup [parA (qa4 l some' m).1,.bool (qa4 l some' m).2]):=by
 refine qah mixed Tryz.func97 qgV ?_
 refine zV ?_
 simp only [ZZ,WW,Ze,reduceCtorEq,zd,ze,za,zf,zb,qgv]
 refine qad (fun n fr L=>∃ (k:Nat),k≤l.length∧n=l.length - k∧(∀ x∈l.take k,x.1≠m)∧fr=(oo::.p (.sl 3 (parE some'))::.p (.str m)::oo::oo::oo::.adr (.l 6) 0::oD (oB (oo::(.p (.sl 3 (parE l))::.p (int (l.length:Nat))::.p (int (k:Nat))::oF (oD (oB []))))))∧L=[(.l 6,.box [.p (.str []),.p (int 0),.p (int 0)] qhG)]) (l.length) (oo::.p (.sl 3 (parE some'))::.p (.str m)::oo::oo::oo::.adr (.l 6) 0::oD (oB (oo::(.p (.sl 3 (parE l))::.p (int (l.length:Nat))::.p (int (0:Nat))::oF (oD (oB [])))))) [(.l 6,.box [.p (.str []),.p (int 0),.p (int 0)] qhG)] (by simp only [ZZ,WW,Ze,reduceCtorEq,zd,ze,za,zf,zb,qgv];try trivial) zF_ ⟨0,by omega,by omega,by simp,rfl,rfl⟩ ?_
 rintro n fr L ⟨k,hk,rfl,hno,rfl,rfl⟩
 simp only [qcH,ZZ,WW,Ze,reduceCtorEq,zd,ze,za,zf,zb]
 refine br ?_ ?_
 ·intro h
  have hlt:k < l.length:=by have:=of_decide_eq_true h;omega
  obtain ⟨x,hx⟩:∃ x,l[k]?=some x:=⟨_,zk hlt⟩
  have hg:=qpe hx
  simp only [ZZ,WW,Ze,reduceCtorEq,zd,ze,za,zf,zb,hg,qgv]
  ((with_reducible and_intros)<;>try exact sc_)
  refine br ?_ ?_
  ·intro he
   have he:x.1=m:=of_decide_eq_true he
   refine zS ?_
   rw [qa4,qpv hno hx he]
   rfl
  ·intro he
   have he:x.1≠m:=of_decide_eq_false he
   refine zS ?_
   refine ⟨qai (by omega) (by omega),?_⟩
   refine qab (l.length - (k+1)) (oo::.p (.sl 3 (parE some'))::.p (.str m)::oo::oo::oo::.adr (.l 6) 0::oD (oB (oo::(.p (.sl 3 (parE l))::.p (int (l.length:Nat))::.p (int ((k+1):Nat))::oF (oD (oB [])))))) [(.l 6,.box [.p (.str []),.p (int 0),.p (int 0)] qhG)] (by omega) zF_ zF_ ⟨k+1,by omega,rfl,qqL hno hx he,rfl,rfl⟩
 intro h
 have hge:k=l.length:=by have:=of_decide_eq_false h;omega
 subst hge
 rw [z7] at hno
 have hR:qa4 l some' m=match refD some' (qlQ m).length (qlQ m) with|some d=>((m,d.2),true)|none=>(p00,false):=by
  rw [qa4,qnf hno]
 rw [hR]
 refine zS ?_
 refine use1 (qpS m [64] (by omega)) rfl (.inl rfl) ?_
 have hcl:=qjm m [64]
 have hD:qlQ m=(cutF m [64]).2.1:=rfl
 rw [hD]
 generalize cutF m [64]=cq at *
 refine zS ?_
 refine qad (fun n fr L=>∃ (s:List UInt8),s.length=n∧(s.length≤1000000)∧(refD some' cq.2.1.length cq.2.1=refD some' s.length s)∧fr=(oo::.p (.sl 3 (parE some'))::.p (.str m)::oo::oo::oo::.adr (.l 6) 0::oo::oo::oo::oo::.p (.str s)::oF (oE (oB (oo::[]))))∧L=[(.l 6,.box [.p (.str []),.p (int 0),.p (int 0)] qhG)]) ((cq.2.1).length) (oo::.p (.sl 3 (parE some'))::.p (.str m)::oo::oo::oo::.adr (.l 6) 0::oo::oo::oo::oo::.p (.str (cq.2.1))::oF (oE (oB (oo::[])))) [(.l 6,.box [.p (.str []),.p (int 0),.p (int 0)] qhG)] zF_ zF_ ⟨cq.2.1,rfl,by omega,rfl,rfl,rfl⟩ ?_
 rintro n fr L ⟨s,rfl,hsl,hrf,rfl,rfl⟩
 simp only [qcG,ZZ,WW,Ze,reduceCtorEq,zd,ze,za,zf,zb]
 rw [hrf]
 simp only [ZZ,WW,Ze,reduceCtorEq,zd,ze,za,zf,zb,qgv]
 refine qad (fun n fr L=>∃ (k:Nat),k≤some'.length∧n=some'.length - k∧(∀ x∈some'.take k,x.1≠s)∧fr=(oo::.p (.sl 3 (parE some'))::.p (.str m)::oo::oo::oo::.adr (.l 6) 0::oo::oo::oo::oo::.p (.str s)::oE (oD (.p (.sl 3 (parE some'))::.p (int (some'.length:Nat))::.p (int (k:Nat))::oE (oD []))))∧L=[(.l 6,.box [.p (.str []),.p (int 0),.p (int 0)] qhG)]) (some'.length) (oo::.p (.sl 3 (parE some'))::.p (.str m)::oo::oo::oo::.adr (.l 6) 0::oo::oo::oo::oo::.p (.str s)::oE (oD (.p (.sl 3 (parE some'))::.p (int (some'.length:Nat))::.p (int (0:Nat))::oE (oD [])))) [(.l 6,.box [.p (.str []),.p (int 0),.p (int 0)] qhG)] (by simp only [ZZ,WW,Ze,reduceCtorEq,zd,ze,za,zf,zb,qgv];try trivial) zF_ ⟨0,by omega,by omega,by simp,rfl,rfl⟩ ?_
 rintro n fr L ⟨k,hk,rfl,hno2,rfl,rfl⟩
 simp only [qcF,ZZ,WW,Ze,reduceCtorEq,zd,ze,za,zf,zb]
 refine br ?_ ?_
 ·intro h
  have hlt:k < some'.length:=by have:=of_decide_eq_true h;omega
  obtain ⟨x,hx⟩:∃ x,some'[k]?=some x:=⟨_,zk hlt⟩
  have hg:=qpe hx
  simp only [ZZ,WW,Ze,reduceCtorEq,zd,ze,za,zf,zb,hg,qgv]
  ((with_reducible and_intros)<;>try exact sc_)
  refine br ?_ ?_
  ·intro he
   have he:x.1=s:=of_decide_eq_true he
   refine zS ?_
   rw [qs9 some' (qpv hno2 hx he)]
   rfl
  ·intro he
   have he:x.1≠s:=of_decide_eq_false he
   refine zS ?_
   refine ⟨qai (by omega) (by omega),?_⟩
   refine qab (some'.length - (k+1)) (oo::.p (.sl 3 (parE some'))::.p (.str m)::oo::oo::oo::.adr (.l 6) 0::oo::oo::oo::oo::.p (.str s)::oE (oD (.p (.sl 3 (parE some'))::.p (int (some'.length:Nat))::.p (int ((k+1):Nat))::oE (oD [])))) [(.l 6,.box [.p (.str []),.p (int 0),.p (int 0)] qhG)] (by omega) zF_ zF_ ⟨k+1,by omega,rfl,qqL hno2 hx he,rfl,rfl⟩
 intro h
 have hge:k=some'.length:=by have:=of_decide_eq_false h;omega
 subst hge
 rw [z7] at hno2
 refine zS ?_
 refine use1 (qpS s [46] (by omega)) rfl (.inl rfl) ?_
 have hnf:=qnf hno2
 have hnext:=qrc some' hnf
 have hstop:=qrb some' hnf
 have hlt:(cutF s [46]).2.2=true→(cutF s [46]).2.1.length < s.length:=by
  intro hc
  rcases qlR s 46 with ⟨a,b,h1,_,h3⟩|⟨_,h2⟩
  ·rw [h3,h1];simp;omega
  ·rw [h2] at hc;cases hc
 have hcl2:=qjm s [46]
 generalize cutF s [46]=r at *
 refine zS ?_
 refine br ?_ ?_
 ·intro hc
  have hc:r.2.2=false:=by rwa [Bool.not_eq_true'] at hc
  refine zS ?_
  rw [hstop hc]
  rfl
 ·intro hc
  have hc:r.2.2=true:=by rwa [Bool.not_eq_false'] at hc
  refine zS ?_
  refine qab ((r.2.1).length) (oo::.p (.sl 3 (parE some'))::.p (.str m)::oo::oo::oo::.adr (.l 6) 0::oo::oo::oo::oo::.p (.str (r.2.1))::oF (oE (oB (oo::[])))) [(.l 6,.box [.p (.str []),.p (int 0),.p (int 0)] qhG)] (hlt hc) zF_ zF_ ⟨r.2.1,rfl,by omega,hnext hc,rfl,rfl⟩
def cirV (P D:List Par) (Ts X:List (List UInt8)):List PV:=[.sl 3 (parE P),.sl 3 (parE D),.sl 1 (strE Ts),.sl 1 (strE X)]
structure CB (P D:List Par) (Ts X:List (List UInt8)):Prop where
 h1:P.length≤1000000
 h2:∀ p∈P,p.1.length≤1000000
 h3:D.length≤1000000
 h4:∀ p∈D,p.1.length≤1000000
 h5:Ts.length≤1000000
 h6:∀ t∈Ts,t.length≤25000
 h7:X.length≤1000000
 h8:∀ x∈X,x.length≤1000000
def pubE (X:List (List UInt8)) (k:Nat):Int:=qar [qaO (!qhc (X.getD k [])) 3,qaO (decide (0 < k) && leS (X.getD k []) (X.getD (k - 1) [])) 7]
abbrev AdT:=List UInt8×List UInt8
def adC (q:AdT):List PV:=[.str q.1,.str q.2]
def adrE (l:List AdT):List (List PV):=l.map adC
theorem qaY (l:List AdT):(adrE l).length=l.length:=by simp [adrE]
theorem qmh {l:List AdT} {k:Nat} {x:AdT} (h:l[k]?=some x):(adrE l).getD k []=[.str x.1,.str x.2]:=qaR h
section
variable {E:Envt}
end
abbrev qkd:IC:=(sR [qO 2 (.mov (.c (.bool false)))] (sR [qM 3 0,jC 4 71 [.t 3,.c (.int .i64 0),.c (.int .i64 5761439)],qM 2 4] .ret))
theorem qkg:chkF Tryz.prog Tryz.f72 qkd [.t 2] 5=true:=by kernel_rfl
abbrev qhl:IC:=(sR [qO 2 (.mov (.c (.bool false)))] (sR [qM 3 0,qB 4 .geq 3 (cI 0),qM 5 4,⟨some 6,.mov (.t 0),(some (5,true))⟩,⟨some 7,.bin .lss (.t 6) (cI 5761440),(some (5,true))⟩,qO 8 (.pick (.t 5) (.t 7) (.c (.bool false))),qM 2 8] .ret))
theorem qhv:chkF Tryz.prog Tryz.f26 qhl [.t 2] 9=true:=by kernel_rfl
section
variable {E:Envt}
theorem qsu (n:Int):PCall Tryz.prog E 72 [int n] (·=.bool (inE n 0 5761439)):=by
 refine qah mixed Tryz.func72 qkg ?_
 refine zV ?_
 refine use1 (qoW n 0 5761439) rfl (.inl rfl) ?_
 simp only [ZZ,WW,Ze,reduceCtorEq,zd,ze,za,zf,zb]
theorem qqt (n:Int):PCall Tryz.prog E 26 [int n] (·=.bool (inE n 0 5761439)):=by
 refine qah mixed Tryz.func26 qhv ?_
 refine zV ?_
 have:(decide (0≤n) && decide (n < 5761440))=inE n 0 5761439:=by
  unfold inE
  rw [Bool.eq_iff_iff]
  simp only [Bool.and_eq_true,decide_eq_true_eq]
  omega
 rw [this]
end
end Go.Proofs.YtjgdjinhkgjpeabGreatDoor
