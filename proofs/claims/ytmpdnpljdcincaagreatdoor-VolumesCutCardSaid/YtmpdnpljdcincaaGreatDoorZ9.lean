import Derived.Test.YtmpdnpljdcincaaGreatDoorZ8
import Derived.Lib.Strings
import Derived.Lib.Slices
import Derived.Lib.Walk
import Derived.Lib.MakeNoZero
import Derived.Laws.IdiomCopy
import Derived.Laws.BitsLemmas
set_option linter.unusedVariables false
set_option linter.unusedSimpArgs false
set_option linter.defProp false
namespace Go.Proofs.YtmpdnpljdcincaaGreatDoor
open Nat renaming reduceAdd→zd,reduceEqDiff→za,reduceLT→zf,reduceLeDiff→zb,reduceMul→ze
open Go.RowKit
def qeH:IC:=(sR [qT 6 .lss 5 4] (.seq (jE 6) (.seq (.block 1 (.reg [qM 7 3,qB 8 .mul 7 (cI 10),qM 3 8])) (.reg [qB 9 .add 5 (cI 1),qM 5 9]))))
abbrev qkp:IC:=(sR [jI 2 0] (sR [jI 3 1] (.seq (sR [qM 4 0,jI 5 0] (.block 0 (.loop qeH))) (sR [qM 10 3,qM 2 10] .ret))))
theorem qkv:chkF Tryz.prog Tryz.f115 qkp [.t 2] 11=true:=by kernel_rfl
def qdW:IC:=(sR [qT 6 .lss 5 4] (.seq (jE 6) (.seq (.block 1 (.reg [qM 7 3,qB 8 .mul 7 (cI 10),qM 3 8])) (.reg [qB 9 .add 5 (cI 1),qM 5 9]))))
abbrev qi3:IC:=(sR [jI 2 0] (sR [jI 3 1] (.seq (sR [qM 4 0,jI 5 0] (.block 0 (.loop qdW))) (sR [qM 10 3,qM 2 10] .ret))))
theorem qjl:chkF Tryz.prog Tryz.f77 qi3 [.t 2] 11=true:=by kernel_rfl
def qdl:IC:=(sR [qT 7 .lss 6 5] (.seq (jE 7) (.seq (.block 1 (sR [qM 8 6,qM 3 8] (sR [qM 9 0,qM 10 3,qO 11 (.idx (.t 9) (.t 10)),qB 12 .lss 11 (.c (.int .u8 65)),qM 13 12,⟨some 14,.mov (.t 0),(some (13,false))⟩,⟨some 15,.mov (.t 3),(some (13,false))⟩,⟨some 16,.idx (.t 14) (.t 15),(some (13,false))⟩,⟨some 17,.bin .gtr (.t 16) (.c (.int .u8 90)),(some (13,false))⟩,qO 18 (.pick (.t 13) (.c (.bool true)) (.t 17))] (jW 18 (sR [qO 2 (.mov (.c (.bool false)))] .ret))))) (.reg [qB 19 .add 6 (cI 1),qM 6 19]))))
abbrev qif:IC:=(sR [qO 2 (.mov (.c (.bool false)))] (.seq (sR [qM 4 0,qO 5 (.sln (.t 4)),jI 6 0] (.block 0 (.loop qdl))) (sR [qM 20 0,qO 21 (.sln (.t 20)),jC 22 71 [.t 21,.c (.int .i64 1),.c (.int .i64 8)],qM 2 22] .ret)))
theorem qir:chkF Tryz.prog Tryz.f81 qif [.t 2] 23=true:=by kernel_rfl
abbrev qhI:IC:=(sR [jI 4 0] (sR [qM 5 0,jC 6 81 [.t 5],qO 7 (.not (.t 6)),jC 8 51 [.t 7,.c (.int .i64 3)],qM 9 1,jC 10 71 [.t 9,.c (.int .i64 4),.c (.int .i64 9)],qO 11 (.not (.t 10)),jC 12 51 [.t 11,.c (.int .i64 1)],qO 13 (.bsl 1 [.t 8,.t 12]),jC 14 49 [.t 13],qM 4 14] .ret))
theorem qhP:chkF Tryz.prog Tryz.f114 qhI [.t 4] 15=true:=by kernel_rfl
abbrev qiW:IC:=(sR [qO 6 (.mov (.c (.str [])))] (sR [qM 8 2,jC 9 100 [.t 8],qM 7 9] (sR [qM 10 0,qM 11 1,qM 12 7,qO 13 (.sln (.t 12)),qT 14 .sub 11 13,qO 15 (.mx (cI 0) (.t 14)),jC 16 46 [.c (.str [48]),.t 15],qT 17 .add 10 16,qM 18 7,qT 19 .add 17 18,qM 6 19] .ret)))
theorem qje:chkF Tryz.prog Tryz.f66 qiW [.t 6] 20=true:=by kernel_rfl
abbrev qjK:IC:=(sR [qO 6 (.mov (.c (.str []))),jI 7 0] (.seq (sR [qM 9 0,qM 10 1,jC 11 114 [.t 9,.t 10],qM 8 11] (sR [qM 12 8,qB 13 .neq 12 (cI 0)] (jW 13 (sR [qM 14 8,qO 6 (.mov (.c (.str []))),qM 7 14] .ret)))) (.seq (sR [qM 15 2,qM 16 1,jC 17 115 [.t 16],qB 18 .sub 17 (cI 1),jC 19 71 [.t 15,.c (.int .i64 1),.t 18],qO 20 (.not (.t 19))] (jW 20 (sR [qO 6 (.mov (.c (.str []))),jI 7 1] .ret))) (sR [qM 21 0,qM 22 1,qM 23 2,jC 24 66 [.t 21,.t 22,.t 23],qM 6 24,jI 7 0] .ret))))
theorem qjT:chkF Tryz.prog Tryz.f69 qjK [.t 6,.t 7] 25=true:=by kernel_rfl
abbrev qhd:IC:=(sR [qO 0 (.mov (.c (.bool false)))] (sR [jC 4 69 [.c (.str [65,66]),.c (.int .i64 4),.c (.int .i64 7)],qM 3 4,qO 5 (.ext 0 (.t 3)),qO 6 (.ext 1 (.t 3)),qM 1 5,qM 2 6] (sR [qM 7 2,qB 8 .eql 7 (cI 0),qM 9 8,⟨some 10,.mov (.t 1),(some (9,true))⟩,⟨some 11,.bin .eql (.t 10) (.c (.str [65,66,48,48,48,55])),(some (9,true))⟩,qO 12 (.pick (.t 9) (.t 11) (.c (.bool false))),qM 0 12] .ret)))
theorem qhp:chkF Tryz.prog Tryz.f16 qhd [.t 0] 13=true:=by kernel_rfl
abbrev qg8:IC:=(sR [qO 2 (.mov (.c (.bool false)))] (sR [qM 3 0,qO 4 (.sln (.t 3)),qB 5 .geq 4 (cI 1),qM 6 5,⟨some 7,.mov (.t 0),(some (6,true))⟩,⟨some 8,.sln (.t 7),(some (6,true))⟩,⟨some 9,.bin .leq (.t 8) (cI 8),(some (6,true))⟩,qO 10 (.pick (.t 6) (.t 9) (.c (.bool false))),qM 11 10,⟨some 12,.mov (.t 0),(some (11,true))⟩,⟨some 13,.call 127 [.t 12,.c (.str [65,66,67,68,69,70,71,72,73,74,75,76,77,78,79,80,81,82,83,84,85,86,87,88,89,90])],(some (11,true))⟩,qO 14 (.pick (.t 11) (.t 13) (.c (.bool false))),qM 2 14] .ret))
theorem qhj:chkF Tryz.prog Tryz.f128 qg8 [.t 2] 15=true:=by kernel_rfl
abbrev qfc:IC:=(sR [jI 4 0] (.seq (sR [qM 5 0,jC 6 128 [.t 5],qO 7 (.not (.t 6))] (jW 7 (sR [jI 4 3] .ret))) (.seq (sR [qM 8 1,qB 9 .lss 8 (cI 4),qM 10 9,⟨some 11,.mov (.t 1),(some (10,false))⟩,⟨some 12,.bin .gtr (.t 11) (cI 9),(some (10,false))⟩,qO 13 (.pick (.t 10) (.c (.bool true)) (.t 12))] (jW 13 (sR [jI 4 1] .ret))) (sR [jI 4 0] .ret))))
theorem qfj:chkF Tryz.prog Tryz.f73 qfc [.t 4] 14=true:=by kernel_rfl
section
variable {E:Envt}
theorem qxK {i:Nat} (h:i≤9):1≤(10:Int) ^ i∧(10:Int) ^ i≤1000000000:=by
 have:=qle (d:=(i:Int)) (by omega)
 simpa [powF] using this
theorem qrs (d:Int) (h0:0≤d) (h:d≤9):PCall Tryz.prog E 115 [int d] (·=int (powF d)):=by
 obtain ⟨m,rfl⟩:=Int.eq_ofNat_of_zero_le h0
 refine qag mixed Tryz.func115 qkv ?_
 refine zV ?_
 refine qac (fun n fr L=>∃ (k:Nat),k≤m∧n=m - k∧fr=[oo,oo,oo,.p (int ((10:Int) ^ k)),.p (int (m:Nat)),.p (int (k:Nat)),oo,oo,oo,oo,oo]∧L=[]) (m) _ [] zF_ zF_ ⟨0,by omega,by omega,rfl,rfl⟩ ?_
 rintro n fr L ⟨k,hk,rfl,rfl,rfl⟩
 simp only [qeH,ZZ,WW,Zd,reduceCtorEq,zd,ze,zb,zf,za]
 refine br ?_ ?_
 ·intro h2
  have hlt:k < m:=by have:=of_decide_eq_true h2;omega
  have hb:=qxK (i:=k) (by omega)
  have hp:(10:Int) ^ (k+1)=(10:Int) ^ k * 10:=by rw [Int.pow_succ]
  refine zS ?_
  ((with_reducible and_intros)<;>try exact sc_)
  refine qab (m - (k+1)) _ [] (by omega) zF_ zE_ ⟨k+1,by omega,rfl,rfl,rfl⟩
 ·intro h2
  have hge:k=m:=by have:=of_decide_eq_false h2;omega
  subst hge
  refine zS ?_
  rfl
theorem qk7 (d:Int) (h0:0≤d) (h:d≤9):PCall Tryz.prog E 77 [int d] (·=int (powF d)):=by
 obtain ⟨m,rfl⟩:=Int.eq_ofNat_of_zero_le h0
 refine qag mixed Tryz.func77 qjl ?_
 refine zV ?_
 refine qac (fun n fr L=>∃ (k:Nat),k≤m∧n=m - k∧fr=[oo,oo,oo,.p (int ((10:Int) ^ k)),.p (int (m:Nat)),.p (int (k:Nat)),oo,oo,oo,oo,oo]∧L=[]) (m) _ [] zF_ zF_ ⟨0,by omega,by omega,rfl,rfl⟩ ?_
 rintro n fr L ⟨k,hk,rfl,rfl,rfl⟩
 simp only [qdW,ZZ,WW,Zd,reduceCtorEq,zd,ze,zb,zf,za]
 refine br ?_ ?_
 ·intro h2
  have hlt:k < m:=by have:=of_decide_eq_true h2;omega
  have hb:=qxK (i:=k) (by omega)
  have hp:(10:Int) ^ (k+1)=(10:Int) ^ k * 10:=by rw [Int.pow_succ]
  refine zS ?_
  ((with_reducible and_intros)<;>try exact sc_)
  refine qab (m - (k+1)) _ [] (by omega) zF_ zE_ ⟨k+1,by omega,rfl,rfl,rfl⟩
 ·intro h2
  have hge:k=m:=by have:=of_decide_eq_false h2;omega
  subst hge
  refine zS ?_
  rfl
theorem qlk (s:List UInt8) (hs:s.length≤1000000000):PCall Tryz.prog E 81 [.str s] (·=.bool (qdS s)):=by
 refine qag mixed Tryz.func81 qir ?_
 refine zV ?_
 refine qac (fun n fr L=>∃ (k:Nat),k≤s.length∧n=s.length - k∧((s.take k).all (fun c=>!qj8 c)=true)∧fr=(.p (.str s)::oo::oo::oo::oo::.p (int (s.length:Nat))::.p (int (k:Nat))::oE [])∧L=[]) (s.length) _ [] zF_ zF_ ⟨0,by omega,by omega,by simp,rfl,rfl⟩ ?_
 rintro n fr L ⟨k,hk,rfl,hall,rfl,rfl⟩
 simp only [qdl,ZZ,WW,Zd,reduceCtorEq,zd,ze,zb,zf,za]
 refine br ?_ ?_
 ·intro h2
  have hlt:k < s.length:=by have:=of_decide_eq_true h2;omega
  have hx:s[k]?=some (s.getD k 0):=by rw [List.getElem?_eq_getElem hlt];simp [List.getD,hlt]
  have hnx:=qjv (p:=fun c=>!qj8 c) hx
  refine zS ?_
  ((with_reducible and_intros)<;>try exact sc_)
  refine br ?_ ?_
  ·intro hb
   have hf:s.all (fun c=>!qj8 c)=false:=by
    rw [List.all_eq_false]
    refine ⟨s.getD k 0,List.mem_of_getElem? hx,?_⟩
    rw [show qj8 (s.getD k 0)=true from hb]
    simp
   refine zS ?_
   rw [qdS,hf,Bool.false_and]
  ·intro hb
   refine zS ?_
   ((with_reducible and_intros)<;>try exact sc_)
   refine qab (s.length - (k+1)) _ [] (by omega) zF_ zF_ ⟨k+1,by omega,rfl,by rw [hnx,hall,show qj8 (s.getD k 0)=false from hb];rfl,rfl,rfl⟩
 ·intro h2
  have hge:k=s.length:=by have:=of_decide_eq_false h2;omega
  subst hge
  rw [List.take_length] at hall
  refine zS ?_
  refine use1 (qqV s.length 1 8) rfl (.inl rfl) ?_
  refine zS ?_
  rw [qdS,hall,Bool.true_and]
theorem qka (p:List UInt8) (d:Int) (hs:p.length≤1000000000):PCall Tryz.prog E 114 [.str p,int d] (·=int (qd3 p d)):=by
 refine qag mixed Tryz.func114 qhP ?_
 refine zV ?_
 refine use1 (qlk p hs) rfl (.inl rfl) ?_
 refine zS ?_
 refine use1 (qcL _ 3) rfl (.inl rfl) ?_
 refine zS ?_
 refine use1 (qqV d 4 9) rfl (.inl rfl) ?_
 refine zS ?_
 refine use1 (qcL _ 1) rfl (.inl rfl) ?_
 refine zS ?_
 refine use1 (qeA [qak (!qdS p) 3,qak (!inE d 4 9) 1] (by simp)) rfl (.inl rfl) ?_
 refine zS ?_
 rfl
end
theorem qwy {n:Int} (h0:0≤n) (h1:n≤100000000000):(Lib.itoa n).length≤20:=by
 rw [qxS (by omega) h1]
 have:∀ f u,(dd f u).length≤f:=by
  intro f
  induction f with
  |zero=>intro u;simp [dd]
  |succ f ih=>
   intro u
   rw [dd]
   split
   ·simp
   ·have:=ih (u / 10);simp;omega
 unfold itD
 split
 ·omega
 ·have:=this 12 n.toNat;omega
theorem qqb {E:Envt} (s:List UInt8) (hs:s.length≤1000000000):PCall Tryz.prog E 128 [.str s] (·=.bool (qwd s)):=by
 refine qag mixed Tryz.func128 qhj ?_
 refine zV ?_
 ((with_reducible and_intros)<;>try exact sc_)
 refine useG (fun _=>qqk s capL hs (by decide) (by decide)) rfl (.inl rfl) ?_
 refine zS ?_
 ((with_reducible and_intros)<;>try exact sc_)
theorem qgZ {E:Envt} (p:List UInt8) (d:Int) (hs:p.length≤1000000000):PCall Tryz.prog E 73 [.str p,int d] (·=int (nfF p d)):=by
 refine qag mixed Tryz.func73 qfj ?_
 refine zV ?_
 refine use1 (qqb p hs) rfl (.inl rfl) ?_
 refine zS ?_
 unfold nfF
 refine br ?_ ?_
 ·intro h
  refine zS ?_
  rw [if_neg (by simpa using h)]
 ·intro h
  refine zS ?_
  rw [if_pos (by simpa using h)]
  ((with_reducible and_intros)<;>try exact sc_)
  refine br ?_ ?_
  ·intro h2
   refine zS ?_
   rw [if_pos h2]
  ·intro h2
   refine zS ?_
   rw [if_neg (by rw [h2];simp)]
section
variable {E:Envt}
end
abbrev qed:IC:=(sR [qO 2 (.nilr 9 1)] (.seq (sR [qM 3 0,qO 4 (.isn (.t 3))] (jW 4 (sR [qO 2 (.nilr 9 1)] .ret))) (sR [qO 5 (.bsr 9 1 []),qM 6 0,qO 7 (.app 9 1 16 (.t 5) (.t 6)),qM 2 7] .ret)))
theorem qei:chkF Tryz.prog Tryz.f101 qed [.t 2] 8=true:=by kernel_rfl
section
variable {E:Envt}
abbrev qBN:Nat:=9
theorem qeC (s:List UInt8) (n:Nat) (hn:n≤1000000) (hs:s.length≤1000000):PCall Tryz.prog E 46 [.str s,int n] (·=.str (Lib.repeatL s n)):=
 qbm rfl rfl fun w _=>(qrr ⟨s.toArray⟩ n w (by omega) (by rw [show (⟨s.toArray⟩:ByteArray).size=s.length from by simp [ByteArray.size]];exact Nat.le_trans (Nat.mul_le_mul hs hn) (by decide))).mono fun e w' h=>⟨h.1,qfE h.2⟩
theorem qvz (es:List (List PV)) (hn:es.length≤1000000):FCall Tryz.prog E 101 [.sl 1 es] qBN 1 (·=es):=by
 unfold FCall
 refine qfF mixed Tryz.func101 qei ?_
 refine zV ?_
 intro b hb
 refine br ?_ ?_
 ·intro h
  have:=hb h
  refine zS ?_
  exact qjd 2 [] rfl rfl this.symm
 ·intro h
  refine zS ?_
  exact ⟨by omega,qjd 5 es rfl rfl rfl⟩
end
end Go.Proofs.YtmpdnpljdcincaaGreatDoor
namespace Go.Proofs.YtmpdnpljdcincaaGreatDoor
section
variable {E:Envt}
abbrev Par:=List UInt8×Int×Int
def t1:List UInt8:=[108,101,103,97,108,32,97,100,118,105,99,101]
def t2:List UInt8:=[112,114,105,118,105,108,101,103,101,100,32,97,110,100,32,99,111,110,102,105,100,101,110,116,105,97,108]
def p0:List Par:=[([97,105,100,64,111,117,114,115,46,100,101],1,3),([97,110,110,64,102,105,114,109,46,100,101],1,2),([108,97,119,64,111,117,114,115,46,100,101],1,1)]
def d0 (y:Int):List Par:=[([102,105,114,109,46,100,101],1,4),([120,46,102,105,114,109,46,100,101],y,2),([111,117,114,115,46,100,101],1,4)]
end
section
variable {E:Envt}
end
section
variable {E:Envt}
end
section
variable {E:Envt}
end
abbrev qie:IC:=(sR [qO 4 (.mov (.c (.bool false)))] (sR [qM 5 0,qM 6 1,jC 7 270 [.t 5,.t 6],qB 8 .geq 7 (cI 0),qM 4 8] .ret))
theorem qiq:chkF Tryz.prog Tryz.f240 qie [.t 4] 9=true:=by kernel_rfl
section
theorem qlK (s t:List UInt8) (hs:s.length≤1000000000):PCall Tryz.prog E0 240 [.str s,.str t] (·=.bool (decide (0≤Lib.index s t))):=by
 refine qag mixed Tryz.func240 qiq ?_
 refine zV ?_
 refine use1 (qxv s t hs) rfl (.inl rfl) ?_
 simp only [ZZ,WW,Zd,reduceCtorEq,Nat.reduceAdd,Nat.reduceMul,Nat.reduceLeDiff,Nat.reduceLT,Nat.reduceEqDiff]
end
end Go.Proofs.YtmpdnpljdcincaaGreatDoor
namespace Go.Proofs.YtmpdnpljdcincaaGreatDoor
open List renaming cons_append→yi,nil_append→yg
open Option renaming map_eq_some_iff→zi
open _root_.Array renaming getElem?_eq_none→yB
open Go.RowKit
section
variable {E:Envt}
def qqE (s p:List UInt8):List UInt8×Bool:=if sufE s p=true then (s.take (s.length - p.length),true) else (s,false)
end
def qh0 (s:List UInt8):Bool:=((visE s false && !Lib.hasPrefix s [32]) && !sufE s [32]) && !decide (0≤Lib.index s [32,32])
theorem qrQ {c:UInt8} {a b a' b':List UInt8} (h:a++c :: b=a'++c :: b') (h1:c∉a) (h2:c∉a'):a=a'∧b=b':=by
 induction a generalizing a' with
 |nil=>
  cases a' with
  |nil=>simpa using h
  |cons x a'=>simp only [yg,yi,List.cons.injEq] at h;exact absurd (by rw [h.1];simp) h2
 |cons y a ih=>
  cases a' with
  |nil=>simp only [yg,yi,List.cons.injEq] at h;exact absurd (by rw [← h.1];simp) h1
  |cons x a'=>
   simp only [yi,List.cons.injEq] at h
   obtain ⟨e1,e2⟩:=ih h.2 (fun hm=>h1 (by simp [hm])) (fun hm=>h2 (by simp [hm]))
   exact ⟨by rw [h.1,e1],e2⟩
theorem hp1 (c:UInt8) (r:List UInt8):Lib.hasPrefix r [c]=true↔∃ t,r=c :: t:=by
 unfold Lib.hasPrefix
 rw [List.isPrefixOf_iff_prefix]
 constructor
 ·rintro ⟨t,rfl⟩;exact ⟨t,rfl⟩
 ·rintro ⟨t,rfl⟩;exact ⟨t,rfl⟩
theorem qBt:(Tryz.prog.info? 5).map (fun i=>(i.zero,i.size,i.bytes))=some (some (.int .u8 0),1,1):=by kernel_rfl
theorem qva:(Tryz.prog.info? 143).map (·.size)=some 2:=by kernel_rfl
theorem qzX:liesAt Tryz.prog Tryz.prog.depth 143 (2 / Tryz.prog.cellsOf 143) 0 143 1=true:=by kernel_rfl
theorem qnY (W:World) (q:Option Addr):(Builtin.unsafeString_ #[186,3] 9 #[.pointer q,.int .i64 0]).run Tryz.prog W=.ok (.string .empty) W:=Lib.run_unsafeString_none W _ _ _ q
theorem qjW:Tryz.prog.follows .mixedOrders=true:=by kernel_rfl
theorem qzY:Tryz.prog.cellsOf 5=1:=by kernel_rfl
theorem qBs:(Tryz.prog.info? 5).map (·.size)=some 1:=by kernel_rfl
abbrev tSb:TypeId:=143
abbrev tU8:TypeId:=5
set_option maxHeartbeats 1000000 in
set_option maxRecDepth 100000 in
theorem qxb (b:Nat) (w:World) (h0:w.cell? ⟨b,0,none⟩=some (.pointer (some ⟨b,0,none⟩))) :
  Calls Tryz.prog 157 #[.pointer (some ⟨b,0,none⟩)] w fun e w'=>e=.returned (.tuple #[])∧w'=w:=by
 obtain ⟨j,hj,_⟩:=zi.1 qva
 go_enter Tryz.func157,Tryz.ntmps157
 go_wp2
 rw [Lib.run_neq_ptr_same w _ Tryz.underlying140 hj]
 go_wp2
 go_end0
 exact ⟨rfl,rfl⟩
set_option maxHeartbeats 1000000 in
set_option maxRecDepth 100000 in
theorem qpt (b:Nat) (w:World) (h0:w.cell? ⟨b,0,none⟩=some (.pointer none)) (hsh:w.shape? b=some (143,2)) (hfz:w.frozen? ⟨b,0,none⟩=false) :
  Calls Tryz.prog 157 #[.pointer (some ⟨b,0,none⟩)] w fun e w'=>e=.returned (.tuple #[])∧w'=w.setCell ⟨b,0,none⟩ (.pointer (some ⟨b,0,none⟩)):=by
 obtain ⟨j,hj,hjs⟩:=zi.1 qva
 go_enter Tryz.func157,Tryz.ntmps157
 go_wp2
 rw [Lib.run_to_unsafe w ⟨b,0,none⟩ Tryz.underlying140 Tryz.underlying220 hj (by rw [hjs];decide) hsh (Nat.zero_lt_succ 1)]
 simp only [Result.andThen]
 rw [Oper.upon_value]
 go_wp2
 rw [run_callFunc_extern Tryz.func205 (by kernel_rfl) (by kernel_rfl) (by kernel_rfl) (e:=Extern.AbiNoEscape.same) (by kernel_rfl)]
 rw [Lib.run_noEscape]
 simp only [Result.andThen]
 rw [Oper.upon_value]
 go_wp2
 rw [Lib.run_from_unsafe w ⟨b,0,none⟩ Tryz.underlying220 Tryz.underlying140 hj hsh qzX]
 simp only [Result.andThen]
 rw [Oper.upon_value]
 go_wp2
 go_end0
 exact ⟨rfl,rfl⟩
theorem b_cc (b:Nat) (bs:List Value) (w:World) (h:Lib.IsBuilder 143 5 0 b bs w) :
  Calls Tryz.prog 157 #[.pointer (some ⟨b,0,none⟩)] w fun e w'=>e=.returned (.tuple #[])∧qvA 143 5 b bs w w':=by
 rcases h with h|h
 ·refine (qpt b w h.cell0 h.shape h.frozen0).mono ?_
  rintro e w' ⟨rfl,rfl⟩
  exact ⟨rfl,qpq h⟩
 ·refine (qxb b w h.cell0).mono ?_
  rintro e w' ⟨rfl,rfl⟩
  exact ⟨rfl,qqG h⟩
set_option maxHeartbeats 2000000 in
set_option maxRecDepth 100000 in
theorem qlM (b:Nat) (s t:List UInt8) (w:World) (h:Lib.IsBuilder 143 5 0 b (Lib.byteCells s) w) (hlen:s.length+t.length≤140737488355328) :
  Calls Tryz.prog 111 #[.pointer (some ⟨b,0,none⟩),.string ⟨t.toArray⟩] w fun e w'=>e=.returned (.tuple #[.int .i64 t.length,.nilIface])∧SbPost 143 5 b (s++t) w w':=by
 obtain ⟨i0,hi,hz0,hz1,hz2⟩:=info_parts qBt
 have hsz:(⟨t.toArray⟩:ByteArray).size=t.length:=by simp [ByteArray.size]
 have hcl:Lib.strCells ⟨t.toArray⟩=Lib.byteCells t:=by simp [Lib.strCells,Lib.byteCells]
 generalize hst:(⟨t.toArray⟩:ByteArray)=st at hsz hcl ⊢
 rw [← hsz] at hlen ⊢
 go_enter Tryz.func111,Tryz.ntmps111
 go_wp2_with (go_at_call 157;refine (b_cc b _ _ h).mono ?_)
 rintro e w1 ⟨rfl,v,hbk,hown,hne,hG1,hbf⟩
 rw [Lib.byteCells_length] at hown
 have c0:w1.cell? ⟨b,0,none⟩=some (.pointer (some ⟨b,0,none⟩)):=by rw [Lib.cell_of_heap hbk];rfl
 have c1:w1.cell? ⟨b,1,none⟩=some v:=by rw [Lib.cell_of_heap hbk];rfl
 go_wp2_with (at_builtin;refine qlL rfl _ _ 141 9 rfl 0 5 i0 Tryz.underlying141 Tryz.underlying9 hi hz0 hz1 hz2 _ _ _ rfl hown st rfl (by unfold maxLen;omega) (by omega) (Nat.zero_le _) ?_)
 intro v' w2 hown' hgrow hat
 have hlt:=qmk hbk
 have hb2:w2.heap[b]?=some (.cells #[.pointer (some ⟨b,0,none⟩),v] 143 (0,0)):=by
  rw [hgrow.block b hlt (fun e=>hne e.symm)]
  exact hbk
 have d0:w2.cell? ⟨b,0,none⟩=some (.pointer (some ⟨b,0,none⟩)):=by rw [Lib.cell_of_heap hb2];rfl
 have d1:w2.cell? ⟨b,1,none⟩=some v:=by rw [Lib.cell_of_heap hb2];rfl
 have f1:w2.frozen? ⟨b,1,none⟩=false:=Lib.frozen_of_heap hb2 1
 have hP:SbPost 143 5 b (s++t) w (w2.setCell ⟨b,1,none⟩ v'):=
  qor (by decide) hG1 hbf hbk hgrow hne hat (by first|(rw [hcl,hsz] at hown';simpa [Lib.byteCells] using hown')|simpa [Lib.byteCells] using hown')
 obtain ⟨ao,n',cap,rfl⟩:∃ ao n' cap,v'=.slice ao n' cap:=by
  rcases hown'.2 with ⟨hv,_⟩|⟨g,cap,cur,hv,_⟩
  ·exact ⟨_,_,_,hv⟩
  ·exact ⟨_,_,_,hv⟩
 go_wp2
 go_ret2
 exact ⟨by first|rfl|(rw [hsz];rfl),hP⟩
set_option maxHeartbeats 1000000 in
set_option maxRecDepth 100000 in
theorem qxc (B b:Nat) (l:List UInt8) (w:World) (h:Lib.IsBuilder 143 5 B b (Lib.byteCells l) w) (h0:l≠[]) :
  Calls Tryz.prog 113 #[.pointer (some ⟨b,0,none⟩)] w fun e w'=>e=.returned (.string ⟨l.toArray⟩)∧Grow w w' (fun x=>x=b∨qfm w 143 b x):=by
 obtain ⟨p,hB,v,hbk,hown,hne⟩:∃ p,Lib.BuilderAt 143 5 B b p (Lib.byteCells l) w:=by
  rcases h with h|h
  ·exact ⟨_,h⟩
  ·exact ⟨_,h⟩
 have hl0:l.length≠0:=by simpa using h0
 rw [Lib.byteCells_length] at hown
 obtain ⟨g,cap,cur,rfl,hbg,hg,hnc,hcm,hcs,htake⟩:∃ g cap cur,v=.slice (some ⟨g,0,none⟩) l.length cap∧B≤g∧w.heap[g]?=some (.cells cur 5 (0,0))∧l.length≤cap∧cap≤maxLen∧cur.size=cap * 1∧cur.toList.take (l.length * 1)=Lib.byteCells l:=by
  rcases hown.2 with ⟨_,hz⟩|⟨g,cap,cur,hv,r⟩
  ·exact absurd hz hl0
  ·exact ⟨g,cap,cur,hv,r⟩
 have c1:w.drew.cell? ⟨b,1,none⟩=some (.slice (some ⟨g,0,none⟩) l.length cap):=by
  have:w.drew.heap[b]?=some (.cells #[p,.slice (some ⟨g,0,none⟩) l.length cap] 143 (0,0)):=hbk
  rw [Lib.cell_of_heap this];rfl
 have hSD:(Builtin.unsafeSliceData_ #[141] 186 #[.slice (some ⟨g,0,none⟩) l.length cap]).run Tryz.prog w.drew=.ok (.pointer (some ⟨g,0,none⟩)) w.drew:=
  Lib.run_unsafeSliceData_row _ _ _ _ _ _ (by omega)
 have hUS:(Builtin.unsafeString_ #[186,3] 9 #[.pointer (some ⟨g,0,none⟩),.int .i64 l.length]).run Tryz.prog w.drew=.ok (.string ⟨l.toArray⟩) (w.drew.freeze ⟨g,0,none⟩ l.length):=by
  refine Lib.run_unsafeString_row w.drew 186 3 9 5 Tryz.underlying186 qzY g cur.size (by have hg':w.drew.heap[g]?=some (.cells cur 5 (0,0)):=hg;simp [World.shape?,hg']) l h0 (by omega) (by unfold maxLen at hcm;omega) ?_
  intro j x hx
  have:=hown.cells (g:=g) rfl j (.int .u8 x.toNat) (by simp [Lib.byteCells,hx])
  exact this
 have mixed:=qjW
 go_enter Tryz.func113,Tryz.ntmps113
 go_wp2
 go_region_o
 all_goals (go_wp2;go_ret;exact ⟨rfl,qqs (.inr ⟨_,_,hbk,rfl⟩)⟩)
set_option maxHeartbeats 2000000 in
set_option maxRecDepth 100000 in
theorem qpu (B b:Nat) (p:Value) (w:World) (hbk:w.heap[b]?=some (.cells #[p,.slice none 0 0] 143 (0,0))) :
  Calls Tryz.prog 113 #[.pointer (some ⟨b,0,none⟩)] w fun e w'=>e=.returned (.string ⟨#[]⟩)∧Grow w w' (fun x=>x=b∨qfm w 143 b x):=by
 have hUS:=qnY
 have c1:w.drew.cell? ⟨b,1,none⟩=some (.slice none 0 0):=by
  have:w.drew.heap[b]?=some (.cells #[p,.slice none 0 0] 143 (0,0)):=hbk
  rw [Lib.cell_of_heap this];rfl
 have hSD:(Builtin.unsafeSliceData_ #[141] 186 #[.slice none 0 0]).run Tryz.prog w.drew=.ok (.pointer none) w.drew:=rfl
 have mixed:=qjW
 go_enter Tryz.func113,Tryz.ntmps113
 go_wp2
 go_region_o
 all_goals (go_wp2;go_ret;exact ⟨rfl,(Grow.refl w _).drew⟩)
set_option maxHeartbeats 2000000 in
set_option maxRecDepth 100000 in
theorem qlB (B b g:Nat) (p:Value) (cur:Array Value) (w:World) (hBw:B≤w.heap.size) (hbk:w.heap[b]?=some (.cells #[p,.slice (some ⟨g,0,none⟩) 0 0] 143 (0,0))) (hg:w.heap[g]?=some (.cells cur 5 (0,0))) :
  Calls Tryz.prog 113 #[.pointer (some ⟨b,0,none⟩)] w fun e w'=>e=.returned (.string ⟨#[]⟩)∧Grow w w' (fun x=>x=b∨qfm w 143 b x):=by
 have hUS:=qnY
 have hlt:b < w.heap.size:=by
  rcases Nat.lt_or_ge b w.heap.size with h'|h'
  ·exact h'
  ·simp [yB h'] at hbk
 have c1:w.drew.cell? ⟨b,1,none⟩=some (.slice (some ⟨g,0,none⟩) 0 0):=by
  have:w.drew.heap[b]?=some (.cells #[p,.slice (some ⟨g,0,none⟩) 0 0] 143 (0,0)):=hbk
  rw [Lib.cell_of_heap this];rfl
 have hSD:(Builtin.unsafeSliceData_ #[141] 186 #[.slice (some ⟨g,0,none⟩) 0 0]).run Tryz.prog w.drew=.ok (.pointer (some ⟨w.drew.heap.size,0,none⟩)) (w.drew.alloc (.view ⟨g,0,none⟩ 5)):=
  Lib.run_unsafeSliceData_zero w.drew _ _ 5 Tryz.underlying186 ⟨g,0,none⟩ 0 (5,cur.size) (by have hg':w.drew.heap[g]?=some (.cells cur 5 (0,0)):=hg;simp [World.shape?,hg'])
 have c2:(w.drew.alloc (.view ⟨g,0,none⟩ 5)).cell? ⟨b,1,none⟩=some (.slice (some ⟨g,0,none⟩) 0 0):=by
  have:(w.drew.alloc (.view ⟨g,0,none⟩ 5)).heap[b]?=_:=(Lib.alloc_old w.drew _ b hlt).trans hbk
  rw [Lib.cell_of_heap this];rfl
 have c3:(w.alloc (.view ⟨g,0,none⟩ 5)).drew.cell? ⟨b,1,none⟩=some (.slice (some ⟨g,0,none⟩) 0 0):=c2
 have c0:w.cell? ⟨b,1,none⟩=some (.slice (some ⟨g,0,none⟩) 0 0):=c1
 have mixed:=qjW
 go_enter Tryz.func113,Tryz.ntmps113
 go_wp2
 go_region_o
 all_goals (go_wp2;go_ret;exact ⟨rfl,qqt⟩)
set_option maxHeartbeats 2000000 in
set_option maxRecDepth 100000 in
theorem qnZ (B b g cap:Nat) (p:Value) (w:World) (hc0:cap≠0) (hbk:w.heap[b]?=some (.cells #[p,.slice (some ⟨g,0,none⟩) 0 cap] 143 (0,0))) :
  Calls Tryz.prog 113 #[.pointer (some ⟨b,0,none⟩)] w fun e w'=>e=.returned (.string ⟨#[]⟩)∧Grow w w' (fun x=>x=b∨qfm w 143 b x):=by
 have hUS:=qnY
 have c1:w.drew.cell? ⟨b,1,none⟩=some (.slice (some ⟨g,0,none⟩) 0 cap):=by
  have:w.drew.heap[b]?=some (.cells #[p,.slice (some ⟨g,0,none⟩) 0 cap] 143 (0,0)):=hbk
  rw [Lib.cell_of_heap this];rfl
 have hSD:(Builtin.unsafeSliceData_ #[141] 186 #[.slice (some ⟨g,0,none⟩) 0 cap]).run Tryz.prog w.drew=.ok (.pointer (some ⟨g,0,none⟩)) w.drew:=
  Lib.run_unsafeSliceData_row _ _ _ _ _ _ hc0
 clear hc0
 have mixed:=qjW
 go_enter Tryz.func113,Tryz.ntmps113
 go_wp2
 go_region_o
 all_goals (go_wp2;go_ret;exact ⟨rfl,(Grow.refl w _).drew⟩)
theorem qlY (B b:Nat) (w:World) (h:Lib.IsBuilder 143 5 B b [] w) (hBw:B≤w.heap.size) :
  Calls Tryz.prog 113 #[.pointer (some ⟨b,0,none⟩)] w fun e w'=>e=.returned (.string ⟨#[]⟩)∧Grow w w' (fun x=>x=b∨qfm w 143 b x):=by
 obtain ⟨p,hB,v,hbk,hown,hne⟩:∃ p,Lib.BuilderAt 143 5 B b p [] w:=by
  rcases h with h|h
  ·exact ⟨_,h⟩
  ·exact ⟨_,h⟩
 rcases hown.2 with ⟨rfl,_⟩|⟨g,cap,cur,rfl,hbg,hg,_,_,_,_⟩
 ·exact qpu B b p w hbk
 ·by_cases hc0:cap=0
  ·subst hc0
   exact qlB B b g p cur w hBw hbk hg
  ·exact qnZ B b g cap p w hc0 hbk
theorem qpv (B b:Nat) (l:List UInt8) (w:World) (h:Lib.IsBuilder 143 5 B b (Lib.byteCells l) w) (hBw:B≤w.heap.size) :
  Calls Tryz.prog 113 #[.pointer (some ⟨b,0,none⟩)] w fun e w'=>e=.returned (.string ⟨l.toArray⟩)∧Grow w w' (fun x=>x=b∨qfm w 143 b x):=by
 cases l with
 |nil=>exact qlY B b w h hBw
 |cons x r=>exact qxc B b (x :: r) w h (by simp)
set_option maxHeartbeats 2000000 in
set_option maxRecDepth 1000000 in
theorem qps (B b n:Nat) (w:World) (hB:B≤b) (hbk:w.heap[b]?=some (.cells #[.pointer (some ⟨b,0,none⟩),.slice none 0 0] 143 (0,0))) (hBw:B≤w.heap.size) (hn:n≤281474976710656) :
  Calls Tryz.prog 158 #[.pointer (some ⟨b,0,none⟩),.int .i64 n] w fun e w'=>e=.returned (.tuple #[])∧SbPost 143 5 b [] w w':=by
 obtain ⟨cs,hrun,hle,hmax⟩:=Lib.run_makeNoZero (P:=Tryz.prog) w.drew #[3] 141 5 Tryz.underlying141 n hn
 have hw:IntKind.i64.wrap (IntKind.i64.wrap 0+(n:Int))=n:=by
  rw [IntKind.wrap_i64,IntKind.wrap_i64]
  omega
 have hcall:(callFunc 206 #[.int .i64 (IntKind.i64.wrap (IntKind.i64.wrap 0+(n:Int)))]).run Tryz.prog w.drew=.ok (.value (.slice (some ⟨w.drew.heap.size,0,none⟩) n cs.size)) (w.drew.drew.drew.alloc (.cells cs 5)):=by
  rw [hw,run_callFunc_extern Tryz.func206 (by kernel_rfl) (by kernel_rfl) (by kernel_rfl) (e:=Extern.BytealgMakeNoZero.makeNoZero #[3] #[141]) (by kernel_rfl),hrun]
  rfl
 have c1:w.drew.cell? ⟨b,1,none⟩=some (.slice none 0 0):=by
  have:w.drew.heap[b]?=_:=hbk
  rw [Lib.cell_of_heap this];rfl
 have c2:(w.alloc (.cells cs 5)).cell? ⟨b,1,none⟩=some (.slice none 0 0):=by
  have hlt:b < w.heap.size:=by
   rcases Nat.lt_or_ge b w.heap.size with h'|h'
   ·exact h'
   ·simp [yB h'] at hbk
  have:(w.alloc (.cells cs 5)).heap[b]?=_:=(Lib.alloc_old w _ b hlt).trans hbk
  rw [Lib.cell_of_heap this];rfl
 have f2:(w.alloc (.cells cs 5)).frozen? ⟨b,1,none⟩=false:=by
  have hlt:b < w.heap.size:=by
   rcases Nat.lt_or_ge b w.heap.size with h'|h'
   ·exact h'
   ·simp [yB h'] at hbk
  exact Lib.frozen_of_heap ((Lib.alloc_old w _ b hlt).trans hbk) 1
 have hcopy:∀ W:World,(Builtin.copy_ #[141,141] 3 #[.slice (some ⟨w.heap.size,0,none⟩) 0 cs.size,.slice none 0 0]).run Tryz.prog W=.ok (goInt 0) W:=
  fun W=>run_copy_none W 141 141 3 5 _ _ 0 cs.size 0 0 Tryz.underlying141 qBs rfl
 clear hw
 have mixed:=qjW
 go_enter Tryz.func158,Tryz.ntmps158
 go_wp2
 have hfin:=SbPost.of_grown (T:=143) (e:=5) (cs:=cs) (by decide) hbk (hmax (by unfold maxLen;omega))
 go_region_o
 all_goals (go_wp2;go_end0;exact ⟨rfl,hfin⟩)
set_option maxHeartbeats 2000000 in
set_option maxRecDepth 1000000 in
theorem qpw (B b n:Nat) (w:World) (hB:B≤b) (hbk:w.heap[b]?=some (.cells #[.pointer none,.slice none 0 0] 143 (0,0))) (hBw:B≤w.heap.size) (hn:n≤281474976710656) :
  Calls Tryz.prog 110 #[.pointer (some ⟨b,0,none⟩),.int .i64 n] w fun e w'=>e=.returned (.tuple #[])∧SbPost 143 5 b [] w w':=by
 have hbk1:(w.setCell ⟨b,0,none⟩ (.pointer (some ⟨b,0,none⟩))).heap[b]?=some (.cells #[.pointer (some ⟨b,0,none⟩),.slice none 0 0] 143 (0,0)):=by
  simp [World.setCell,Array.getElem?_modify,hbk]
 have c1:(w.setCell ⟨b,0,none⟩ (.pointer (some ⟨b,0,none⟩))).cell? ⟨b,1,none⟩=some (.slice none 0 0):=by rw [Lib.cell_of_heap hbk1];rfl
 have mixed:=qjW
 go_enter Tryz.func110,Tryz.ntmps110
 have c1':(w.setCell ⟨b,0,none⟩ (.pointer (some ⟨b,0,none⟩))).drew.cell? ⟨b,1,none⟩=some (.slice none 0 0):=c1
 go_wp2_with (go_at_call 157;refine (qpt b w (by rw [Lib.cell_of_heap hbk];rfl) (by simp [World.shape?,hbk]) (Lib.frozen_of_heap hbk 0)).mono ?_;rintro e w' ⟨rfl,rfl⟩)
 go_region_o
 all_goals go_wp2_with (go_at_call 158;refine (qps B b n (w.setCell ⟨b,0,none⟩ (.pointer (some ⟨b,0,none⟩))).drew hB hbk1 (by simpa [World.setCell,World.drew,-World.drew_eq] using hBw) hn).mono ?_;rintro e w' ⟨rfl,h1⟩)
 all_goals first
  |(go_end0;exact ⟨rfl,SbPost.behind hbk h1⟩)
  |(go_end0;exact ⟨rfl,SbPost.of_used hbk⟩)
end Go.Proofs.YtmpdnpljdcincaaGreatDoor
