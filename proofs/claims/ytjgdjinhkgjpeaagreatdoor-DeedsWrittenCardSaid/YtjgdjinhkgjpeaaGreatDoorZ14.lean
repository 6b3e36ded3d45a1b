import Derived.Test.YtjgdjinhkgjpeaaGreatDoorZ5
import Derived.Test.YtjgdjinhkgjpeaaGreatDoorZ7
import Derived.Test.YtjgdjinhkgjpeaaGreatDoorZ13
import Derived.Lib.Bytes2
import Derived.Test.YtjgdjinhkgjpeaaGreatDoorZ6
import Derived.Test.YtjgdjinhkgjpeaaGreatDoorLayToErr
import Derived.Test.YtjgdjinhkgjpeaaGreatDoorLayLowerS
import Derived.Test.YtjgdjinhkgjpeaaGreatDoorZ8
import Derived.Test.YtjgdjinhkgjpeaaGreatDoorZ10
import Derived.Laws.Cover4
set_option linter.unusedVariables false
set_option linter.unusedSimpArgs false
set_option linter.defProp false
namespace Go.Proofs.YtjgdjinhkgjpeaaGreatDoor
open Nat renaming reduceAdd→zd,reduceEqDiff→zb,reduceLT→zf,reduceLeDiff→za,reduceMul→ze,reduceSub→zu
open List renaming cons_append→zo,drop_eq_nil_of_le→yz,getD_eq_getElem?_getD→zG,getElem?_eq_getElem→zr,length_append→zx,length_cons→zk,length_drop→zR,length_nil→zp,length_pos_iff→yf,map_cons→zl,map_nil→zt,mem_of_getElem?→zD,nil_append→zq,replicate_succ→zj,replicate_zero→zm,take_of_length_le→zP
open Bool renaming and_eq_true→zh,not_eq_false'→yp,or_eq_false_iff→zZ,true_and→yk
open Option renaming map_some→zF
open Int renaming toNat→yn
open Go.RowKit
def qbu:IC:=(.seq (.reg [qO 102 (.bin .lss (.t 101) (.t 100))]) (.seq (.cond (.t 102) .skip (.exit 3)) (.seq (.block 4 (.seq (.reg [qO 103 (.ixa 1 (.t 99) (.t 101)),qO 104 (.ld 1 false (.t 103)),qM 15 104]) (.seq (.reg [qO 16 (.mov (.c (.int .u8 0)))]) (.seq (.block 5 (.seq (.reg [qM 107 15,qO 108 (.bin .eql (.t 107) (.c (.int .u8 95))),qM 109 108,⟨some 110,.mov (.t 8),(some (109,true))⟩,qO 111 (.pick (.t 109) (.t 110) (.c (.bool false))),qM 106 111]) (.cond (.t 106) (.seq (.reg [qO 12 (.mov (.c (.bool true)))]) (.exit 4)) (.seq (.reg [qM 113 15,qO 114 (.bin .leq (.c (.int .u8 48)) (.t 113)),qM 115 114,⟨some 116,.mov (.t 15),(some (115,true))⟩,⟨some 117,.bin .leq (.t 116) (.c (.int .u8 57)),(some (115,true))⟩,qO 118 (.pick (.t 115) (.t 117) (.c (.bool false))),qM 112 118]) (.cond (.t 112) (.reg [qM 119 15,qO 120 (.bin .sub (.t 119) (.c (.int .u8 48))),qM 16 120]) (.seq (.reg [qM 122 15,qO 123 (.call 208 [.t 122]),qO 124 (.bin .leq (.c (.int .u8 97)) (.t 123)),qM 125 124,⟨some 126,.mov (.t 15),(some (125,true))⟩,⟨some 127,.call 208 [.t 126],(some (125,true))⟩,⟨some 128,.bin .leq (.t 127) (.c (.int .u8 122)),(some (125,true))⟩,qO 129 (.pick (.t 125) (.t 128) (.c (.bool false))),qM 121 129]) (.cond (.t 121) (.reg [qM 130 15,qO 131 (.call 208 [.t 130]),qO 132 (.bin .sub (.t 131) (.c (.int .u8 97))),qO 133 (.bin .add (.t 132) (.c (.int .u8 10))),qM 16 133]) (.seq (.reg [qO 105 (.mki 174 (.c (.int .i64 2))),qO 6 (.mov (.c (.int .u64 0))),qM 7 105]) .ret)))))))) (.cut (.seq (.seq (.reg [qM 134 16,qM 135 1,qO 136 (.cvi .u8 (.t 135)),qO 137 (.bin .geq (.t 134) (.t 136))]) (.cond (.t 137) (.seq (.reg [qO 138 (.mki 174 (.c (.int .i64 2))),qO 6 (.mov (.c (.int .u64 0))),qM 7 138]) .ret) .skip)) (.seq (.seq (.reg [qM 139 13,qM 140 10,qO 141 (.bin .geq (.t 139) (.t 140))]) (.cond (.t 141) (.seq (.reg [qM 142 11,qO 143 (.mki 174 (.c (.int .i64 1))),qM 6 142,qM 7 143]) .ret) .skip)) (.seq (.reg [qM 144 13,qM 145 1,qO 146 (.cvi .u64 (.t 145)),qO 147 (.bin .mul (.t 144) (.t 146)),qM 13 147]) (.seq (.reg [qM 148 13,qM 149 16,qO 150 (.cvi .u64 (.t 149)),qO 151 (.bin .add (.t 148) (.t 150)),qM 17 151]) (.seq (.seq (.reg [qM 152 17,qM 153 13,qO 154 (.bin .lss (.t 152) (.t 153)),qM 155 154,⟨some 156,.mov (.t 17),(some (155,false))⟩,⟨some 157,.mov (.t 11),(some (155,false))⟩,⟨some 158,.bin .gtr (.t 156) (.t 157),(some (155,false))⟩,qO 159 (.pick (.t 155) (.c (.bool true)) (.t 158))]) (.cond (.t 159) (.seq (.reg [qM 160 11,qO 161 (.mki 174 (.c (.int .i64 1))),qM 6 160,qM 7 161]) .ret) .skip)) (.reg [qM 162 17,qM 13 162]))))))))))) (.cut (.reg [qO 163 (.bin .add (.t 101) (.c (.int .i64 1))),qM 101 163])))))
def qbN:IC:=(.seq (.reg [qO 6 (.mov (.c (.int .u64 0))),qO 7 (.mov (.c (.raw .nilIface)))]) (.seq (.seq (.reg [qM 18 0,qO 19 (.bin .eql (.t 18) (.c (.str [])))]) (.cond (.t 19) (.seq (.reg [qO 20 (.mki 174 (.c (.int .i64 2))),qO 6 (.mov (.c (.int .u64 0))),qM 7 20]) .ret) .skip)) (.seq (.reg [qM 21 1,qO 22 (.bin .eql (.t 21) (.c (.int .i64 0))),qM 8 22]) (.seq (.reg [qM 23 0,qM 9 23]) (.seq (.block 0 (.seq (.reg [qM 26 1,qO 27 (.bin .leq (.c (.int .i64 2)) (.t 26)),qM 28 27,⟨some 29,.mov (.t 1),(some (28,true))⟩,⟨some 30,.bin .leq (.t 29) (.c (.int .i64 36)),(some (28,true))⟩,qO 31 (.pick (.t 28) (.t 30) (.c (.bool false))),qM 25 31]) (.cond (.t 25) .skip (.seq (.reg [qM 33 1,qO 34 (.bin .eql (.t 33) (.c (.int .i64 0))),qM 32 34]) (.cond (.t 32) (.seq (.reg [qO 1 (.mov (.c (.int .i64 10)))]) (.seq (.reg [qM 35 0,qO 36 (.idx (.t 35) (.c (.int .i64 0))),qO 37 (.bin .eql (.t 36) (.c (.int .u8 48)))]) (.cond (.t 37) (.block 1 (.seq (.reg [qM 41 0,qO 42 (.sln (.t 41)),qO 43 (.bin .geq (.t 42) (.c (.int .i64 3))),qM 44 43,⟨some 45,.mov (.t 0),(some (44,true))⟩,⟨some 46,.idx (.t 45) (.c (.int .i64 1)),(some (44,true))⟩,⟨some 47,.call 208 [.t 46],(some (44,true))⟩,⟨some 48,.bin .eql (.t 47) (.c (.int .u8 98)),(some (44,true))⟩,qO 49 (.pick (.t 44) (.t 48) (.c (.bool false))),qM 40 49]) (.cond (.t 40) (.seq (.reg [qO 1 (.mov (.c (.int .i64 2)))]) (.reg [qM 50 0,qO 51 (.ssl (.t 50) (some (.c (.int .i64 2))) none),qM 0 51])) (.seq (.reg [qM 53 0,qO 54 (.sln (.t 53)),qO 55 (.bin .geq (.t 54) (.c (.int .i64 3))),qM 56 55,⟨some 57,.mov (.t 0),(some (56,true))⟩,⟨some 58,.idx (.t 57) (.c (.int .i64 1)),(some (56,true))⟩,⟨some 59,.call 208 [.t 58],(some (56,true))⟩,⟨some 60,.bin .eql (.t 59) (.c (.int .u8 111)),(some (56,true))⟩,qO 61 (.pick (.t 56) (.t 60) (.c (.bool false))),qM 52 61]) (.cond (.t 52) (.seq (.reg [qO 1 (.mov (.c (.int .i64 8)))]) (.reg [qM 62 0,qO 63 (.ssl (.t 62) (some (.c (.int .i64 2))) none),qM 0 63])) (.seq (.reg [qM 65 0,qO 66 (.sln (.t 65)),qO 67 (.bin .geq (.t 66) (.c (.int .i64 3))),qM 68 67,⟨some 69,.mov (.t 0),(some (68,true))⟩,⟨some 70,.idx (.t 69) (.c (.int .i64 1)),(some (68,true))⟩,⟨some 71,.call 208 [.t 70],(some (68,true))⟩,⟨some 72,.bin .eql (.t 71) (.c (.int .u8 120)),(some (68,true))⟩,qO 73 (.pick (.t 68) (.t 72) (.c (.bool false))),qM 64 73]) (.cond (.t 64) (.seq (.reg [qO 1 (.mov (.c (.int .i64 16)))]) (.reg [qM 74 0,qO 75 (.ssl (.t 74) (some (.c (.int .i64 2))) none),qM 0 75])) (.seq (.reg [qO 1 (.mov (.c (.int .i64 8)))]) (.reg [qM 38 0,qO 39 (.ssl (.t 38) (some (.c (.int .i64 1))) none),qM 0 39]))))))))) .skip))) (.seq (.reg [qO 24 (.mki 174 (.c (.int .i64 3))),qO 6 (.mov (.c (.int .u64 0))),qM 7 24]) .ret)))))) (.cut (.seq (.seq (.reg [qM 76 2,qO 77 (.bin .eql (.t 76) (.c (.int .i64 0)))]) (.cond (.t 77) (.reg [qO 2 (.mov (.c (.int .i64 64)))]) (.seq (.reg [qM 78 2,qO 79 (.bin .lss (.t 78) (.c (.int .i64 0))),qM 80 79,⟨some 81,.mov (.t 2),(some (80,false))⟩,⟨some 82,.bin .gtr (.t 81) (.c (.int .i64 64)),(some (80,false))⟩,qO 83 (.pick (.t 80) (.c (.bool true)) (.t 82))]) (.cond (.t 83) (.seq (.reg [qO 84 (.mki 174 (.c (.int .i64 4))),qO 6 (.mov (.c (.int .u64 0))),qM 7 84]) .ret) .skip)))) (.cut (.seq (.reg [qO 10 (.mov (.c (.int .u64 0)))]) (.seq (.seq (.reg [qM 85 1]) (.block 2 (.seq (.reg [qO 91 (.bin .eql (.t 85) (.c (.int .i64 10))),qM 90 91]) (.cond (.t 90) (.reg [qO 10 (.mov (.c (.int .u64 1844674407370955162)))]) (.seq (.reg [qO 93 (.bin .eql (.t 85) (.c (.int .i64 16))),qM 92 93]) (.cond (.t 92) (.reg [qO 10 (.mov (.c (.int .u64 1152921504606846976)))]) (.reg [qM 86 1,qO 87 (.cvi .u64 (.t 86)),qO 88 (.bin .quo (.c (.int .u64 18446744073709551615)) (.t 87)),qO 89 (.bin .add (.t 88) (.c (.int .u64 1))),qM 10 89]))))))) (.cut (.seq (.reg [qM 94 2,qO 95 (.cvi .u64 (.t 94)),qO 96 (.bin .shl (.c (.int .u64 1)) (.t 95)),qO 97 (.bin .sub (.t 96) (.c (.int .u64 1))),qM 11 97]) (.seq (.reg [qO 12 (.mov (.c (.bool false)))]) (.seq (.reg [qO 13 (.mov (.c (.int .u64 0)))]) (.seq (.seq (.reg [qM 98 0,qO 99 (.s2b 5 (.t 98)),qO 100 (.len (.t 99)),qO 101 (.mov (.c (.int .i64 0)))]) (.block 3 (.loop qbu))) (.seq (.seq (.reg [qM 164 12,qM 165 164,⟨some 166,.mov (.t 9),(some (165,true))⟩,⟨some 167,.call 209 [.t 166],(some (165,true))⟩,⟨some 168,.not (.t 167),(some (165,true))⟩,qO 169 (.pick (.t 165) (.t 168) (.c (.bool false)))]) (.cond (.t 169) (.seq (.reg [qO 170 (.mki 174 (.c (.int .i64 2))),qO 6 (.mov (.c (.int .u64 0))),qM 7 170]) .ret) .skip)) (.seq (.reg [qM 171 13,qM 6 171,qO 7 (.mov (.c (.raw .nilIface)))]) .ret)))))))))))))))))
def qbJ:List IRes:=[.t 6,.t 7]
theorem qd1:chkF Tryz.prog Tryz.f187 qbN qbJ 172=true:=by kernel_rfl
def qei:IC:=(.seq (.reg [qO 6 (.mov (.c (.int .u64 0))),qO 7 (.mov (.c (.raw .nilIface)))]) (.seq (.reg [qM 11 0,qM 12 1,qM 13 2,qO 14 (.call 187 [.t 11,.t 12,.t 13]),qM 10 14,qO 15 (.ext 0 (.t 10)),qO 16 (.ext 1 (.t 10)),qM 8 15,qM 9 16]) (.seq (.seq (.reg [qM 17 9,qO 18 (.nli true (.t 17))]) (.cond (.t 18) (.seq (.reg [qM 19 8,qM 20 0,qM 21 1,qM 22 2,qM 23 9,qO 24 (.call 113 [.c (.str [80,97,114,115,101,85,105,110,116]),.t 20,.t 21,.t 22,.t 23]),qM 6 19,qM 7 24]) .ret) .skip)) (.seq (.reg [qM 25 8,qM 6 25,qO 7 (.mov (.c (.raw .nilIface)))]) .ret))))
def qd6:List IRes:=[.t 6,.t 7]
theorem qho:chkF Tryz.prog Tryz.f148 qei qd6 26=true:=by kernel_rfl
def qfC:IC:=(.seq (.reg [qO 2 (.mov (.c (.int .u8 0))),qO 3 (.mov (.c (.int .i64 0)))]) (.seq (.block 0 (.seq (.reg [qM 7 0,qO 8 (.bin .eql (.t 7) (.c (.str []))),qM 6 8]) (.cond (.t 6) (.seq (.reg [qO 2 (.mov (.c (.int .u8 0))),qO 3 (.mov (.c (.int .i64 0)))]) .ret) (.seq (.reg [qM 10 0,qO 11 (.idx (.t 10) (.c (.int .i64 0))),qO 12 (.bin .neq (.t 11) (.c (.int .u8 92))),qM 9 12]) (.cond (.t 9) (.seq (.reg [qM 13 0,qO 14 (.idx (.t 13) (.c (.int .i64 0))),qM 2 14,qO 3 (.mov (.c (.int .i64 1)))]) .ret) (.seq (.reg [qM 16 0,qO 17 (.call 74 [.t 16,.c (.str [92,110])]),qM 15 17]) (.cond (.t 15) (.seq (.reg [qO 2 (.mov (.c (.int .u8 10))),qO 3 (.mov (.c (.int .i64 2)))]) .ret) (.seq (.reg [qM 19 0,qO 20 (.call 74 [.t 19,.c (.str [92,34])]),qM 21 20,⟨some 22,.mov (.t 0),(some (21,false))⟩,⟨some 23,.call 74 [.t 22,.c (.str [92,92])],(some (21,false))⟩,qO 24 (.pick (.t 21) (.c (.bool true)) (.t 23)),qM 18 24]) (.cond (.t 18) (.seq (.reg [qM 25 0,qO 26 (.idx (.t 25) (.c (.int .i64 1))),qM 2 26,qO 3 (.mov (.c (.int .i64 2)))]) .ret) (.seq (.reg [qM 28 0,qO 29 (.sln (.t 28)),qO 30 (.bin .geq (.t 29) (.c (.int .i64 4))),qM 31 30,⟨some 32,.mov (.t 0),(some (31,true))⟩,⟨some 33,.idx (.t 32) (.c (.int .i64 1)),(some (31,true))⟩,⟨some 34,.bin .eql (.t 33) (.c (.int .u8 120)),(some (31,true))⟩,qO 35 (.pick (.t 31) (.t 34) (.c (.bool false))),qM 27 35]) (.cond (.t 27) (.seq (.reg [qM 37 0,qO 38 (.ssl (.t 37) (some (.c (.int .i64 2))) (some (.c (.int .i64 4)))),qO 39 (.call 148 [.t 38,.c (.int .i64 16),.c (.int .i64 8)]),qM 36 39,qO 40 (.ext 0 (.t 36)),qO 41 (.ext 1 (.t 36)),qM 4 40,qM 5 41]) (.seq (.reg [qM 42 5,qO 43 (.nli false (.t 42))]) (.cond (.t 43) (.seq (.reg [qM 44 4,qO 45 (.cvi .u8 (.t 44)),qM 2 45,qO 3 (.mov (.c (.int .i64 4)))]) .ret) .skip))) .skip))))))))))) (.cut (.seq (.reg [qO 2 (.mov (.c (.int .u8 0))),qO 3 (.mov (.c (.int .i64 0)))]) .ret))))
def qfs:List IRes:=[.t 2,.t 3]
theorem qje:chkF Tryz.prog Tryz.f108 qfC qfs 46=true:=by kernel_rfl
def puA:Nat→List UInt8→Option Nat
 |n,[]=>some n
 |n,b :: r=>match hvB b with|none=>none|some d=>puA (16 * n+d) r
def puR (o:Option Nat) (e:Value):PV:=match o with|some n=>.tup [.int .u64 (n:Nat),.raw .nilIface]|none=>.tup [.int .u64 0,.raw e]
theorem qs5 {n:Nat} {t:List UInt8} {k:Nat} (h:k < t.length):puA n (t.drop k)=match hvB (t.getD k 0) with|none=>none|some d=>puA (16 * n+d) (t.drop (k+1)):=by
 rw [List.drop_eq_getElem_cons h,zG,zr h]
 rfl
theorem qst (fn s:List UInt8) (base bits:Int) (hs:s.length≤1000000):PCall Tryz.prog E5 113 [.str fn,.str s,int base,int bits,.raw (.iface 174 (.int .i64 2))] (fun x=>∃ v,x=.raw v∧nilI v=some false):=by
 intro w U vs hU hE hEb hA
 obtain ⟨_,_,rfl,rfl,_,_,rfl,rfl,_,_,rfl,rfl,_,_,rfl,rfl,_,_,rfl,⟨rfl,_⟩,rfl⟩:=hA
 obtain ⟨tp,p,hv⟩:=hE.2.2.1
 refine (Any.strconv_toError_syntax Tryz.layToErr ⟨fn.toArray⟩ ⟨s.toArray⟩ base bits (.iface tp p) w (by rw [qfm];omega) (by have h0:=World.var?_cell Tryz.layToErr.m15 hv 0;simpa using h0) (.inr ⟨tp,p,rfl⟩)).mono ?_
 rintro e w' ⟨N,rfl,_,_,hb⟩
 exact ⟨_,_,rfl,⟨_,rfl,rfl⟩,⟨rfl,rfl⟩,qcL hb⟩
section
variable {E:Envt}
theorem qkl (b:UInt8):PCall Tryz.prog E 208 [.int .u8 (b.toNat:Nat)] (·=.int .u8 ((b ||| 32).toNat:Nat)):=
 qbz rfl rfl fun w _=>(Any.internal_strconv_lower Tryz.layLowerS (b.toNat:Nat) w).mono fun e w' h=>⟨by
  have e1:∀ n:Fin 256,Go.bits .or .u8 ((n.val:Nat):Int) 32=(((UInt8.ofNat n.val) ||| 32).toNat:Int):=by decide +kernel
  have:=e1 ⟨b.toNat,b.toNat_lt⟩
  simp only [UInt8.ofNat_toNat] at this
  rw [h.1,this]
  rfl,by rw [h.2];exact Grow.refl _ _⟩
set_option maxHeartbeats 2000000 in
set_option maxRecDepth 100000 in
theorem qwM (t:List UInt8) (ht:t.length=2):PCall Tryz.prog E 187 [.str t,int 16,int 8] (·=puR (puA 0 t) (.iface 174 (.int .i64 2))):=by
 have hne:t≠[]:=by rintro rfl;cases ht
 refine qaf mixed Tryz.func187 qd1 ?_
 simp only [a0,l0,OS.ao,zl,zt,zk,zp,zo,zq,zu,zd,zj,zm,qbN,qbJ,ZZ,WW,Ze,reduceCtorEq,zd,ze,za,zf,zb]
 have c0:decide (t=[])=false:=decide_eq_false hne
 have c1:decide ((2:Int)≤16)=true:=by decide
 have c2:decide ((16:Int)≤36)=true:=by decide
 have c3:decide ((16:Int)=0)=false:=by decide
 have c4:decide ((8:Int)=0)=false:=by decide
 have c5:decide ((8:Int) < 0)=false:=by decide
 have c6:decide ((64:Int) < 8)=false:=by decide
 have c7:decide ((16:Int)=10)=false:=by decide
 simp only [ZZ,WW,Ze,reduceCtorEq,zd,ze,za,zf,zb,c0,c1,c2,c3,c4,c5,c6,c7,yk,Bool.and_self,Bool.or_self,decide_true]
 refine qai zE_ ?_
 simp only [ZZ,WW,Ze,reduceCtorEq,zd,ze,za,zf,zb,c0,c1,c2,c3,c4,c5,c6,c7,yk,Bool.and_self,Bool.or_self,decide_true]
 refine qai zE_ ?_
 simp only [ZZ,WW,Ze,reduceCtorEq,zd,ze,za,zf,zb,c0,c1,c2,c3,c4,c5,c6,c7,yk,Bool.and_self,Bool.or_self,decide_true]
 refine qai zE_ ?_
 simp only [ZZ,WW,Ze,reduceCtorEq,zd,ze,za,zf,zb,c0,c1,c2,c3,c4,c5,c6,c7,yk,Bool.and_self,Bool.or_self,decide_true]
 refine ⟨by decide,by omega,?_⟩
 rw [show IntKind.u64.wrap (IntKind.u64.wrap (1 * 2 ^ min (IntKind.u64.wrap 8).toNat IntKind.u64.bits) - 1)=255 from by decide +kernel,List.length_map]
 refine qag (fun n fr L=>∃ (k:Nat) (z:Nat),k≤t.length∧n=t.length - k∧(puA z (t.drop k)=puA 0 t)∧(z < 16 ^ k)∧fr=[oo,.p (int 16),.p (int 8),oo,oo,oo,oo,oo,.p (.bool false),.p (.str t),.p (.int .u64 1152921504606846976),.p (.int .u64 255),.p (.bool false),.p (.int .u64 (z:Nat)),oo,oo,oo,oo,oo,oo,oo,oo,oo,oo,oo,oo,oo,oo,oo,oo,oo,oo,oo,oo,oo,oo,oo,oo,oo,oo,oo,oo,oo,oo,oo,oo,oo,oo,oo,oo,oo,oo,oo,oo,oo,oo,oo,oo,oo,oo,oo,oo,oo,oo,oo,oo,oo,oo,oo,oo,oo,oo,oo,oo,oo,oo,oo,oo,oo,oo,oo,oo,oo,oo,oo,oo,oo,oo,oo,oo,oo,oo,oo,oo,oo,oo,oo,oo,oo,.row (.l 99),.p (int (t.length:Nat)),.p (int (k:Nat)),oo,oo,oo,oo,oo,oo,oo,oo,oo,oo,oo,oo,oo,oo,oo,oo,oo,oo,oo,oo,oo,oo,oo,oo,oo,oo,oo,oo,oo,oo,oo,oo,oo,oo,oo,oo,oo,oo,oo,oo,oo,oo,oo,oo,oo,oo,oo,oo,oo,oo,oo,oo,oo,oo,oo,oo,oo,oo,oo,oo,oo,oo,oo,oo,oo,oo,oo,oo,oo,oo]∧L=[(.l 99,.row (qhT t) tU8 1 false)]) (t.length) _ _ (by (simp only [ZZ,WW,Ze,reduceCtorEq,zd,ze,za,zf,zb];try trivial)) (by (simp only [ZZ,WW,Ze,reduceCtorEq,zd,ze,za,zf,zb];try trivial)) ⟨0,0,by omega,by omega,rfl,by simp,rfl,rfl⟩ ?_
 rintro n fr L ⟨k,z,hk,rfl,hn,hlt,rfl,rfl⟩
 simp only [qbu,ZZ,WW,Ze,reduceCtorEq,zd,ze,za,zf,zb]
 refine br ?_ ?_
 ·intro h
  have hlt':k < t.length:=by have:=of_decide_eq_true h;omega
  have hn':=qs5 (n:=z) hlt'
  obtain ⟨b,hb⟩:∃ b,t.getD k 0=b:=⟨_,rfl⟩
  rw [hb] at hn'
  have hbn:=b.toNat_lt
  have e1:(qhT t).length=t.length:=by simp [qhT]
  have e2:(qhT t).getD k []=[.int .u8 (b.toNat:Nat)]:=by
   rw [zG] at hb ⊢
   rw [zr hlt'] at hb
   simp only [qhT,List.getElem?_map,zr hlt',zF,Option.getD_some]
   rw [← hb]
   rfl
  simp only [ZZ,WW,Ze,reduceCtorEq,zd,ze,za,zf,zb,e1,e2]
  refine ⟨by omega,hlt',?_⟩
  rw [Bool.and_false]
  have hz:z < 16:=Nat.lt_of_lt_of_le hlt (Nat.pow_le_pow_right (n:=16) (by omega) (show k≤1 by omega))
  have ov:(b ||| 32).toNat < 256:=(b ||| 32).toNat_lt
  have hcB:hvB b=hvB b:=rfl
  conv at hcB=>rhs;unfold hvB
  have w48:∀ x:Fin 256,48≤x.val→IntKind.u8.wrap (((x.val:Nat):Int) - 48)=((x.val - 48:Nat):Int):=by decide +kernel
  have w87:∀ x:Fin 256,97≤x.val→x.val≤122→IntKind.u8.wrap (IntKind.u8.wrap (((x.val:Nat):Int) - 97)+10)=((x.val - 87:Nat):Int):=by decide +kernel
  have wm:∀ x y:Fin 16,IntKind.u64.wrap (((x.val:Nat):Int) * 16)=((16 * x.val:Nat):Int)∧IntKind.u64.wrap ((y.val:Nat):Int)=((y.val:Nat):Int)∧IntKind.u64.wrap (((16 * x.val:Nat):Int)+((y.val:Nat):Int))=((16 * x.val+y.val:Nat):Int):=by decide +kernel
  have w16:IntKind.u8.wrap 16=16:=by decide
  have w17:IntKind.u64.wrap 16=16:=by decide
  simp only [ZZ,WW,Ze,reduceCtorEq,zd,ze,za,zf,zb]
  refine br ?_ ?_
  ·intro h1
   have h1:48≤b.toNat∧b.toNat≤57:=by simp only [zh,decide_eq_true_eq] at h1;omega
   rw [if_pos h1] at hcB
   obtain ⟨d,hd⟩:∃ d,b.toNat - 48=d:=⟨_,rfl⟩
   rw [hd] at hcB
   have hdl:d < 16:=by omega
   have e3:IntKind.u8.wrap (((b.toNat:Nat):Int) - 48)=(d:Nat):=by have:=w48 ⟨b.toNat,hbn⟩ h1.1;rw [← hd];exact this
   simp only [ZZ,WW,Ze,reduceCtorEq,zd,ze,za,zf,zb,e3]
   refine qai zE_ ?_
   simp only [ZZ,WW,Ze,reduceCtorEq,zd,ze,za,zf,zb,w16]
   refine br ?_ ?_
   ·intro h2
    have h2:16≤d:=by have:=of_decide_eq_true h2;omega
    have hp:puA 0 t=none:=by omega
    rw [hp]
    simp only [ZZ,WW,Ze,reduceCtorEq,zd,ze,za,zf,zb]
    rfl
   intro h2
   have h2:d < 16:=by have:=of_decide_eq_false h2;omega
   have f1:decide ((1152921504606846976:Int)≤((z:Nat):Int))=false:=decide_eq_false (by omega)
   have hw:=wm ⟨z,hz⟩ ⟨d,h2⟩
   have f2:decide (((16 * z+d:Nat):Int) < ((16 * z:Nat):Int))=false:=decide_eq_false (by omega)
   have f3:decide ((255:Int) < ((16 * z+d:Nat):Int))=false:=decide_eq_false (by omega)
   simp only [ZZ,WW,Ze,reduceCtorEq,zd,ze,za,zf,zb,w16,w17,f1,hw.1,hw.2.1,hw.2.2,f2,f3,Bool.or_self,Bool.or_false]
   refine qai zE_ ?_
   simp only [ZZ,WW,Ze,reduceCtorEq,zd,ze,za,zf,zb]
   ((repeat' (with_reducible apply And.intro))<;>try ((exact sc_)))
   refine qae (t.length - (k+1)) _ _ (by omega) (by (simp only [ZZ,WW,Ze,reduceCtorEq,zd,ze,za,zf,zb];try trivial)) (by (simp only [ZZ,WW,Ze,reduceCtorEq,zd,ze,za,zf,zb];try trivial)) ⟨k+1,16 * z+d,by omega,rfl,by rw [← hn,hn',hcB],by rw [Nat.pow_succ];omega,rfl,rfl⟩
  ·intro h1
   have h1:¬ (48≤b.toNat∧b.toNat≤57):=by intro h2;rw [Bool.and_eq_false_iff] at h1;simp only [decide_eq_false_iff_not] at h1;omega
   rw [if_neg h1] at hcB
   simp only [ZZ,WW,Ze,reduceCtorEq,zd,ze,za,zf,zb]
   refine use1 (qkl b) rfl (.inl rfl) ?_
   simp only [ZZ,WW,Ze,reduceCtorEq,zd,ze,za,zf,zb]
   refine useG (fun _=>qkl b) rfl (.inl rfl) ?_
   simp only [ZZ,WW,Ze,reduceCtorEq,zd,ze,za,zf,zb]
   refine br ?_ ?_
   ·intro h3
    have h3:97≤(b ||| 32).toNat∧(b ||| 32).toNat≤122:=by simp only [zh,decide_eq_true_eq] at h3;omega
    obtain ⟨d,hd⟩:∃ d,(b ||| 32).toNat - 87=d:=⟨_,rfl⟩
    have e3:IntKind.u8.wrap (IntKind.u8.wrap ((((b ||| 32).toNat:Nat):Int) - 97)+10)=(d:Nat):=by have:=w87 ⟨(b ||| 32).toNat,ov⟩ h3.1 h3.2;rw [← hd];exact this
    simp only [ZZ,WW,Ze,reduceCtorEq,zd,ze,za,zf,zb]
    refine use1 (qkl b) rfl (.inl rfl) ?_
    simp only [ZZ,WW,Ze,reduceCtorEq,zd,ze,za,zf,zb,e3]
    refine qai zE_ ?_
    simp only [ZZ,WW,Ze,reduceCtorEq,zd,ze,za,zf,zb,w16]
    refine br ?_ ?_
    ·intro h2
     have h2:16≤d:=by have:=of_decide_eq_true h2;omega
     have hp:puA 0 t=none:=by rw [← hn,hn',hcB,if_neg (by omega)]
     rw [hp]
     simp only [ZZ,WW,Ze,reduceCtorEq,zd,ze,za,zf,zb]
     rfl
    intro h2
    have h2:d < 16:=by have:=of_decide_eq_false h2;omega
    rw [if_pos (by omega),hd] at hcB
    have f1:decide ((1152921504606846976:Int)≤((z:Nat):Int))=false:=decide_eq_false (by omega)
    have hw:=wm ⟨z,hz⟩ ⟨d,h2⟩
    have f2:decide (((16 * z+d:Nat):Int) < ((16 * z:Nat):Int))=false:=decide_eq_false (by omega)
    have f3:decide ((255:Int) < ((16 * z+d:Nat):Int))=false:=decide_eq_false (by omega)
    simp only [ZZ,WW,Ze,reduceCtorEq,zd,ze,za,zf,zb,w16,w17,f1,hw.1,hw.2.1,hw.2.2,f2,f3,Bool.or_self,Bool.or_false]
    refine qai zE_ ?_
    simp only [ZZ,WW,Ze,reduceCtorEq,zd,ze,za,zf,zb]
    ((repeat' (with_reducible apply And.intro))<;>try ((exact sc_)))
    refine qae (t.length - (k+1)) _ _ (by omega) (by (simp only [ZZ,WW,Ze,reduceCtorEq,zd,ze,za,zf,zb];try trivial)) (by (simp only [ZZ,WW,Ze,reduceCtorEq,zd,ze,za,zf,zb];try trivial)) ⟨k+1,16 * z+d,by omega,rfl,by rw [← hn,hn',hcB],by rw [Nat.pow_succ];omega,rfl,rfl⟩
   ·intro h3
    have h3:¬ (97≤(b ||| 32).toNat∧(b ||| 32).toNat≤122):=by intro h4;rw [Bool.and_eq_false_iff] at h3;simp only [decide_eq_false_iff_not] at h3;omega
    have hp:puA 0 t=none:=by rw [← hn,hn',hcB,if_neg (by omega)]
    rw [hp]
    simp only [ZZ,WW,Ze,reduceCtorEq,zd,ze,za,zf,zb]
    rfl
 ·intro h
  have hge:t.length≤k:=by have:=of_decide_eq_false h;omega
  rw [yz hge] at hn
  have hn:puA 0 t=some z:=hn.symm
  rw [hn]
  simp only [ZZ,WW,Ze,reduceCtorEq,zd,ze,za,zf,zb]
  refine useG (r:=.bool false) (fun h=>by cases h) rfl (.inl rfl) ?_
  simp only [ZZ,WW,Ze,reduceCtorEq,zd,ze,za,zf,zb]
  rfl
end
theorem qx8 (t:List UInt8) (ht:t.length=2):PCall Tryz.prog E5 148 [.str t,int 16,int 8] (fun x=>∃ v,x=.tup [.int .u64 (((puA 0 t).getD 0:Nat):Int),.raw v]∧nilI v=some (puA 0 t).isSome):=by
 refine qaf mixed Tryz.func148 qho ?_
 simp only [a0,l0,OS.ao,zl,zt,zk,zp,zo,zq,zu,zd,zj,zm,qei,qd6,ZZ,WW,Ze,reduceCtorEq,zd,ze,za,zf,zb]
 refine use1 (qwM t ht) rfl (.inl rfl) ?_
 cases hp:puA 0 t with
 |none=>
  simp only [puR]
  simp only [ZZ,WW,Ze,reduceCtorEq,zd,ze,za,zf,zb,nilI,zF,Bool.not_false]
  refine use (qst _ t 16 8 (by omega)) rfl (.inl rfl) ?_
  rintro y ⟨v,rfl,hv⟩
  simp only [ZZ,WW,Ze,reduceCtorEq,zd,ze,za,zf,zb]
  exact ⟨v,rfl,hv⟩
 |some n=>
  simp only [puR]
  simp only [ZZ,WW,Ze,reduceCtorEq,zd,ze,za,zf,zb,nilI,zF,Bool.not_true]
  exact ⟨.nilIface,rfl,rfl⟩
theorem qvx {t:List UInt8} (ht:t.length=2):puA 0 t=match hvB (t.getD 0 0),hvB (t.getD 1 0) with|some i,some j=>some (16 * i+j)|_,_=>none:=by
 match t,ht with
 |[a,b],_=>
  show (match hvB a with|none=>none|some d=>puA (16 * 0+d) [b])=(match hvB a,hvB b with|some i,some j=>some (16 * i+j)|_,_=>none)
  cases hvB a with
  |none=>rfl
  |some i=>
   show (match hvB b with|none=>none|some d=>puA (16 * (16 * 0+i)+d) [])=_
   cases hvB b with
   |none=>rfl
   |some j=>simp [puA]
theorem qqC (s:List UInt8) (hs:s.length≤1000000000):PCall Tryz.prog E5 108 [.str s] (·=.tup [.int .u8 ((escF s).1.toNat:Nat),int ((escF s).2:Nat)]):=by
 have h92:=qkQ (s.getD 0 0) 92 (by omega)
 have h120:=qkQ (s.getD 1 0) 120 (by omega)
 refine qaf mixed Tryz.func108 qje ?_
 simp only [a0,l0,OS.ao,zl,zt,zk,zp,zo,zq,zu,zd,zj,zm,qfC,qfs,ZZ,WW,Ze,reduceCtorEq,zd,ze,za,zf,zb]
 unfold escF
 refine br ?_ ?_
 ·intro h
  have h:s=[]:=of_decide_eq_true h
  simp only [ZZ,WW,Ze,reduceCtorEq,zd,ze,za,zf,zb]
  rw [if_pos h]
  rfl
 intro h
 have h:¬ s=[]:=of_decide_eq_false h
 have hl:0 < s.length:=yf.2 h
 have e0:yn 0=0:=rfl
 have e1:yn 1=1:=rfl
 rw [if_neg h]
 simp only [ZZ,WW,Ze,reduceCtorEq,zd,ze,za,zf,zb,e0]
 refine ⟨by omega,?_⟩
 refine br ?_ ?_
 ·intro h2
  have h2:s.getD 0 0≠92:=fun e=>by rw [Bool.not_eq_true',decide_eq_false_iff_not] at h2;exact h2 (h92.1 e)
  simp only [ZZ,WW,Ze,reduceCtorEq,zd,ze,za,zf,zb,e0]
  refine ⟨by omega,?_⟩
  rw [if_pos h2]
  rfl
 intro h2
 have h2:¬ s.getD 0 0≠92:=fun e=>by rw [yp,decide_eq_true_eq] at h2;exact e (h92.2 h2)
 rw [if_neg h2]
 simp only [ZZ,WW,Ze,reduceCtorEq,zd,ze,za,zf,zb]
 refine use1 (qb5 s [92,110]) rfl (.inl rfl) ?_
 simp only [ZZ,WW,Ze,reduceCtorEq,zd,ze,za,zf,zb]
 refine br ?_ ?_
 ·intro h3
  simp only [ZZ,WW,Ze,reduceCtorEq,zd,ze,za,zf,zb]
  rw [if_pos h3]
  rfl
 intro h3
 rw [if_neg (by rw [h3];simp)]
 simp only [ZZ,WW,Ze,reduceCtorEq,zd,ze,za,zf,zb]
 refine use1 (qb5 s [92,34]) rfl (.inl rfl) ?_
 simp only [ZZ,WW,Ze,reduceCtorEq,zd,ze,za,zf,zb]
 refine useG (fun _=>qb5 s [92,92]) rfl (.inl rfl) ?_
 simp only [ZZ,WW,Ze,reduceCtorEq,zd,ze,za,zf,zb]
 refine ⟨fun h=>by rw [h];rfl,?_⟩
 refine br ?_ ?_
 ·intro h4
  have hl2:2≤s.length:=by rcases Bool.or_eq_true_iff.1 h4 with h5|h5<;>exact Lib.hasPrefix_le h5
  simp only [ZZ,WW,Ze,reduceCtorEq,zd,ze,za,zf,zb,e1]
  refine ⟨by omega,?_⟩
  rw [if_pos (Bool.or_eq_true_iff.1 h4)]
  rfl
 intro h4
 rw [if_neg (by rw [zZ] at h4;rw [h4.1,h4.2];simp)]
 simp only [ZZ,WW,Ze,reduceCtorEq,zd,ze,za,zf,zb,e1]
 refine ⟨fun h5=>⟨h5,by omega,by have:=of_decide_eq_true h5;omega⟩,?_⟩
 refine br ?_ ?_
 ·intro h5
  rw [zh] at h5
  have hl4:4≤s.length:=by have:=of_decide_eq_true h5.1;omega
  have e2:yn 2=2:=rfl
  have e4:yn 4=4:=rfl
  rw [if_pos ⟨hl4,h120.2 (of_decide_eq_true h5.2)⟩]
  obtain ⟨t,ht⟩:∃ t,(s.take 4).drop 2=t:=⟨_,rfl⟩
  have htl:t.length=2:=by rw [← ht];simp;omega
  have hpu:=qvx htl
  rw [show t.getD 0 0=s.getD 2 0 from by rw [← ht];simp,show t.getD 1 0=s.getD 3 0 from by rw [← ht];simp] at hpu
  have hm:hexP (hvB (s.getD 2 0)) (hvB (s.getD 3 0))=(match puA 0 t with|some n=>(UInt8.ofNat n,4)|none=>(0,0)):=by
   rw [hpu]
   cases hvB (s.getD 2 0)<;>cases hvB (s.getD 3 0)<;>rfl
  have hlt:∀ n,puA 0 t=some n→n < 256:=by
   intro n hn
   rw [hpu] at hn
   split at hn
   ·rename_i i j h6 h7
    cases hn
    have:=qux h6
    have:=qux h7
    omega
   ·cases hn
  rw [hm]
  simp only [ZZ,WW,Ze,reduceCtorEq,zd,ze,za,zf,zb,e2,e4,ht]
  refine ⟨by omega,?_⟩
  refine use (qx8 t htl) rfl (.inl rfl) ?_
  rintro y ⟨v,rfl,hv⟩
  simp only [ZZ,WW,Ze,reduceCtorEq,zd,ze,za,zf,zb]
  cases hp:puA 0 t with
  |none=>
   rw [hp] at hv
   simp only [ZZ,WW,Ze,reduceCtorEq,zd,ze,za,zf,zb,hv,zF,Option.isSome_none]
   refine qai zE_ ?_
   simp only [ZZ,WW,Ze,reduceCtorEq,zd,ze,za,zf,zb]
   rfl
  |some n=>
   have hn:=hlt n hp
   have w8:∀ x:Fin 256,IntKind.u8.wrap ((x.val:Nat):Int)=((UInt8.ofNat x.val).toNat:Int):=by decide +kernel
   have hw:IntKind.u8.wrap ((n:Nat):Int)=((UInt8.ofNat n).toNat:Int):=w8 ⟨n,hn⟩
   rw [hp] at hv
   simp only [ZZ,WW,Ze,reduceCtorEq,zd,ze,za,zf,zb,hv,zF,Option.isSome_some,Option.getD_some,hw]
   rfl
 ·intro h5
  rw [if_neg (by rintro ⟨h6,h7⟩;rw [h120.1 h7,Bool.and_eq_false_iff,decide_eq_false_iff_not,decide_eq_false_iff_not] at h5;omega)]
  simp only [ZZ,WW,Ze,reduceCtorEq,zd,ze,za,zf,zb]
  refine qai zE_ ?_
  simp only [ZZ,WW,Ze,reduceCtorEq,zd,ze,za,zf,zb]
  rfl
def qem:IC:=(.seq (.seq (.reg [qM 12 6,qM 13 0,qO 14 (.sln (.t 13)),qO 15 (.bin .lss (.t 12) (.t 14))]) (.cond (.t 15) .skip (.exit 0))) (.block 1 (.seq (.seq (.reg [qM 16 0,qM 17 6,qO 18 (.idx (.t 16) (.t 17)),qO 19 (.bin .eql (.t 18) (.c (.int .u8 34)))]) (.cond (.t 19) (.seq (.reg [qM 20 5,qO 21 (.b2s (.t 20)),qM 22 6,qO 23 (.bin .add (.t 22) (.c (.int .i64 1))),qM 2 21,qM 3 23,qO 4 (.mov (.c (.int .i64 0)))]) .ret) .skip)) (.seq (.reg [qM 25 0,qM 26 6,qO 27 (.ssl (.t 25) (some (.t 26)) none),qO 28 (.call 108 [.t 27]),qM 24 28,qO 29 (.ext 0 (.t 24)),qO 30 (.ext 1 (.t 24)),qM 7 29,qM 8 30]) (.seq (.seq (.drg [qM 31 8,qO 32 (.bin .eql (.t 31) (.c (.int .i64 0))),qM 33 32,⟨some 34,.mov (.t 7),(some (33,false))⟩,⟨some 35,.pcall 0 97 [.t 34],(some (33,false))⟩,⟨some 36,.mov (.t 0),(some (33,false))⟩,⟨some 37,.mov (.t 6),(some (33,false))⟩,⟨some 38,.mov (.t 6),(some (33,false))⟩,⟨some 39,.mov (.t 8),(some (33,false))⟩,⟨some 40,.bin .add (.t 38) (.t 39),(some (33,false))⟩,⟨some 41,.ssl (.t 36) (some (.t 37)) (some (.t 40)),(some (33,false))⟩,⟨some 42,.bin .neq (.t 35) (.t 41),(some (33,false))⟩,qO 43 (.pick (.t 33) (.c (.bool true)) (.t 42))]) (.cond (.t 43) (.seq (.reg [qO 2 (.mov (.c (.str []))),qO 3 (.mov (.c (.int .i64 0))),qO 4 (.mov (.c (.int .i64 9)))]) .ret) .skip)) (.seq (.reg [qM 44 5,qM 45 7,qO 46 (.bsl 1 [.t 45]),qO 47 (.app 5 1 1 (.t 44) (.t 46)),qM 5 47]) (.reg [qM 48 6,qM 49 8,qO 50 (.bin .add (.t 48) (.t 49)),qM 6 50])))))))
def qfD:IC:=(.seq (.reg [qO 2 (.mov (.c (.str []))),qO 3 (.mov (.c (.int .i64 0))),qO 4 (.mov (.c (.int .i64 0)))]) (.seq (.seq (.reg [qM 9 0,qO 10 (.call 74 [.t 9,.c (.str [34])]),qO 11 (.not (.t 10))]) (.cond (.t 11) (.seq (.reg [qO 2 (.mov (.c (.str []))),qO 3 (.mov (.c (.int .i64 0))),qO 4 (.mov (.c (.int .i64 9)))]) .ret) .skip)) (.seq (.reg [qO 5 (.nilr 5 1)]) (.seq (.seq (.reg [qO 6 (.mov (.c (.int .i64 1)))]) (.block 0 (.loop qem))) (.seq (.reg [qO 2 (.mov (.c (.str []))),qO 3 (.mov (.c (.int .i64 0))),qO 4 (.mov (.c (.int .i64 9)))]) .ret)))))
def qft:List IRes:=[.t 2,.t 3,.t 4]
theorem qjf:chkF Tryz.prog Tryz.f69 qfD qft 51=true:=by kernel_rfl
def qcE:IC:=(.seq (.reg [qO 29 (.bin .lss (.t 28) (.c (.int .i64 256)))]) (.seq (.cond (.t 29) .skip (.exit 2)) (.seq (.block 3 (.seq (.reg [qM 30 28,qM 8 30]) (.seq (.reg [qM 31 8,qO 32 (.cvi .u8 (.t 31)),qO 33 (.bsl 1 [.t 32]),qO 34 (.b2s (.t 33)),qO 35 (.call 32 [.t 34]),qM 9 35]) (.seq (.reg [qM 36 9,qM 37 9,qO 38 (.sln (.t 37)),qO 39 (.bin .sub (.t 38) (.c (.int .i64 1))),qO 40 (.ssl (.t 36) (some (.c (.int .i64 1))) (some (.t 39))),qM 9 40]) (.seq (.reg [qM 41 6,qM 42 9,qO 43 (.call 74 [.t 41,.t 42])]) (.cond (.t 43) (.seq (.drg [qM 44 5,qM 45 8,qO 46 (.cvi .u8 (.t 45)),qO 47 (.bsl 1 [.t 46]),qO 48 (.app 5 1 1 (.t 44) (.t 47)),qM 49 6,qM 50 9,qO 51 (.sln (.t 50)),qO 52 (.ssl (.t 49) (some (.t 51)) none),qM 5 48,qM 6 52,qO 7 (.mov (.c (.bool true)))]) (.exit 2)) .skip)))))) (.reg [qO 53 (.bin .add (.t 28) (.c (.int .i64 1))),qM 28 53]))))
def qcF:IC:=(.seq (.seq (.reg [qM 15 6,qO 16 (.bin .neq (.t 15) (.c (.str [])))]) (.cond (.t 16) .skip (.exit 0))) (.block 1 (.seq (.seq (.reg [qM 17 6,qO 18 (.idx (.t 17) (.c (.int .i64 0))),qO 19 (.bin .eql (.t 18) (.c (.int .u8 34)))]) (.cond (.t 19) (.seq (.reg [qM 20 5,qO 21 (.b2s (.t 20)),qM 22 0,qO 23 (.sln (.t 22)),qM 24 6,qO 25 (.sln (.t 24)),qO 26 (.bin .sub (.t 23) (.t 25)),qO 27 (.bin .add (.t 26) (.c (.int .i64 1))),qM 2 21,qM 3 27,qO 4 (.mov (.c (.bool true)))]) .ret) .skip)) (.seq (.reg [qO 7 (.mov (.c (.bool false)))]) (.seq (.seq (.reg [qO 28 (.mov (.c (.int .i64 0)))]) (.block 2 (.loop qcE))) (.cut (.seq (.reg [qM 54 7,qO 55 (.not (.t 54))]) (.cond (.t 55) (.seq (.reg [qO 2 (.mov (.c (.str []))),qO 3 (.mov (.c (.int .i64 0))),qO 4 (.mov (.c (.bool false)))]) .ret) .skip))))))))
def qdP:IC:=(.seq (.reg [qO 2 (.mov (.c (.str []))),qO 3 (.mov (.c (.int .i64 0))),qO 4 (.mov (.c (.bool false)))]) (.seq (.seq (.reg [qM 10 0,qO 11 (.call 74 [.t 10,.c (.str [34])]),qO 12 (.not (.t 11))]) (.cond (.t 12) (.seq (.reg [qO 2 (.mov (.c (.str []))),qO 3 (.mov (.c (.int .i64 0))),qO 4 (.mov (.c (.bool false)))]) .ret) .skip)) (.seq (.reg [qO 5 (.nilr 5 1)]) (.seq (.seq (.reg [qM 13 0,qO 14 (.ssl (.t 13) (some (.c (.int .i64 1))) none),qM 6 14]) (.block 0 (.loop qcF))) (.seq (.reg [qO 2 (.mov (.c (.str []))),qO 3 (.mov (.c (.int .i64 0))),qO 4 (.mov (.c (.bool false)))]) .ret)))))
def qdH:List IRes:=[.t 2,.t 3,.t 4]
theorem qgV:chkF Tryz.prog Tryz.f41 qdP qdH 56=true:=by kernel_rfl
def unqL (s:List UInt8) (o:Option (List UInt8×List UInt8)):PV:=match o with|some (q,r)=>.tup [.str q,int ((s.length - r.length:Nat):Int),int 0]|none=>.tup [.str [],int 0,int 9]
def unqR (s:List UInt8) (o:Option (List UInt8×List UInt8)):PV:=match o with|some (q,r)=>.tup [.str q,int ((s.length - r.length:Nat):Int),.bool true]|none=>.tup [.str [],int 0,.bool false]
theorem qqK (s:List UInt8) (hs:s.length≤1000000000):PCall Tryz.prog E5 69 [.str s] (·=unqL s (unqF s)):=by
 refine qaf mixed Tryz.func69 qjf ?_
 simp only [a0,l0,OS.ao,zl,zt,zk,zp,zo,zq,zu,zd,zj,zm,qfD,qft,ZZ,WW,Ze,reduceCtorEq,zd,ze,za,zf,zb]
 refine use1 (qb5 s [34]) rfl (.inl rfl) ?_
 simp only [ZZ,WW,Ze,reduceCtorEq,zd,ze,za,zf,zb]
 unfold unqF
 refine br ?_ ?_
 ·intro h
  have h:Lib.hasPrefix s [34]=false:=by simpa using h
  simp only [ZZ,WW,Ze,reduceCtorEq,zd,ze,za,zf,zb]
  rw [if_neg (by rw [h];simp)]
  rfl
 intro h
 have h:Lib.hasPrefix s [34]=true:=by simpa using h
 have hl1:1≤s.length:=Lib.hasPrefix_le h
 rw [if_pos h]
 simp only [ZZ,WW,Ze,reduceCtorEq,zd,ze,za,zf,zb]
 obtain ⟨R,hR⟩:∃ R,unqG (s.length+1) [] (s.drop 1)=R:=⟨_,rfl⟩
 rw [hR]
 refine qag (fun n fr L=>∃ (x:Nat) (f:Nat) (q:List UInt8),s.length - x=n∧(x≤s.length)∧(1≤x)∧(s.length - x < f)∧(q.length≤x)∧(unqG f q (s.drop x)=R)∧fr=[.p (.str s),oo,oo,oo,oo,.row (.l 5),.p (int (x:Nat)),oo,oo,oo,oo,oo,oo,oo,oo,oo,oo,oo,oo,oo,oo,oo,oo,oo,oo,oo,oo,oo,oo,oo,oo,oo,oo,oo,oo,oo,oo,oo,oo,oo,oo,oo,oo,oo,oo,oo,oo,oo,oo,oo,oo]∧L=[(.l 5,.row (bytC q) tU8 1 true)]) (s.length - 1) _ _ (by (simp only [ZZ,WW,Ze,reduceCtorEq,zd,ze,za,zf,zb];try trivial)) (by (simp only [ZZ,WW,Ze,reduceCtorEq,zd,ze,za,zf,zb];try trivial)) ⟨1,s.length+1,[],rfl,hl1,by omega,by omega,by simp,hR,rfl,rfl⟩ ?_
 rintro n fr L ⟨x,f,q,rfl,hx,hx1,hf,hq,hr,rfl,rfl⟩
 simp only [qem,ZZ,WW,Ze,reduceCtorEq,zd,ze,za,zf,zb]
 have hdl:(s.drop x).length=s.length - x:=zR ..
 refine br ?_ ?_
 ·intro h2
  have hlt:x < s.length:=by have:=of_decide_eq_true h2;omega
  have hg:(s.drop x).getD 0 0=s.getD x 0:=by simp
  have hne:s.drop x≠[]:=by intro e;rw [e] at hdl;simp at hdl;omega
  obtain ⟨c,hc⟩:∃ c,s.getD x 0=c:=⟨_,rfl⟩
  have h34:=qkQ c 34 (by omega)
  rw [hc] at hg
  have e0:((x:Nat):Int).toNat=x:=by omega
  simp only [ZZ,WW,Ze,reduceCtorEq,zd,ze,za,zf,zb,hc,e0]
  refine ⟨by omega,?_⟩
  refine br ?_ ?_
  ·intro h3
   have h3:c=34:=h34.2 (of_decide_eq_true h3)
   rw [qlb hne (by rw [hg,h3]) (by omega)] at hr
   rw [← hr]
   have hlen:((s.length - ((s.drop x).drop 1).length:Nat):Int)=(x:Nat)+1:=by simp only [zR];omega
   simp only [unqL]
   rw [hlen]
   simp only [ZZ,WW,Ze,reduceCtorEq,zd,ze,za,zf,zb,qp4]
   exact qaj (by omega) (by omega)
  intro h3
  have h3:c≠34:=fun e=>of_decide_eq_false h3 (h34.1 e)
  simp only [ZZ,WW,Ze,reduceCtorEq,zd,ze,za,zf,zb,e0,List.take_length]
  refine ⟨by omega,?_⟩
  refine use1 (qqC (s.drop x) (by omega)) rfl (.inl rfl) ?_
  have hel:=qtD (s.drop x)
  obtain ⟨g,m,hgm⟩:∃ g m,escF (s.drop x)=(g,m):=⟨_,_,rfl⟩
  have hst:qiW (s.drop x)=if m=0∨quB g≠(s.drop x).take m then none else some g:=by unfold qiW;rw [hgm]
  rw [hgm] at hel ⊢
  simp only at hel ⊢
  simp only [ZZ,WW,Ze,reduceCtorEq,zd,ze,za,zf,zb]
  refine drg1 (x1:=.str (quB g)) ?_
  simp only [ZZ,WW,Ze,reduceCtorEq,zd,ze,za,zf,zb]
  have e5:(s.take ((x:Int)+(m:Int)).toNat).drop x=(s.drop x).take m:=by
   rw [show ((x:Int)+(m:Int)).toNat=x+m from by omega,List.drop_take]
   congr 1
   omega
  rw [e5]
  refine ⟨fun h=>⟨h,usep (qni g) rfl (.inl rfl)⟩,fun h=>⟨h,h,qaj (by omega) (by omega)⟩,fun h=>⟨h,⟨h,by omega,by omega⟩,h,by omega,by omega⟩,fun h=>by rw [h];rfl,?_⟩
  refine br ?_ ?_
  ·intro h5
   rw [qmV (by rw [hg];exact h3) (by
    rw [hst,if_pos]
    rcases Bool.or_eq_true_iff.1 h5 with h6|h6
    ·exact .inl (by have:=of_decide_eq_true h6;omega)
    ·exact .inr (by simpa using h6))] at hr
   rw [← hr]
   simp only [ZZ,WW,Ze,reduceCtorEq,zd,ze,za,zf,zb]
   rfl
  intro h5
  rw [zZ,decide_eq_false_iff_not,yp,decide_eq_true_eq] at h5
  have hsm:qiW (s.drop x)=some g:=by rw [hst,if_neg (fun h6=>h6.elim (fun e=>h5.1 (by omega)) (fun e=>e h5.2))]
  have hml:=(qq4 hsm).1
  rw [hgm] at hml
  have hml:m=(quB g).length:=hml
  rw [qmU (by rw [hg];exact h3) hsm (by omega),List.drop_drop,← hml] at hr
  have hm1:1≤m:=by have:=h5.1;omega
  have hb:bytC q++[[.int .u8 (g.toNat:Nat)]]=bytC (q++[g]):=by rw [qf1];rfl
  have hbl:=qhg (s:=q)
  simp only [ZZ,WW,Ze,reduceCtorEq,zd,ze,za,zf,zb,hb]
  ((repeat' (with_reducible apply And.intro))<;>try ((exact sc_)))
  refine qae (s.length - (x+m)) _ _ (by omega) (by (simp only [ZZ,WW,Ze,reduceCtorEq,zd,ze,za,zf,zb];try trivial)) (by (simp only [ZZ,WW,Ze,reduceCtorEq,zd,ze,za,zf,zb];try trivial)) ⟨x+m,f - 1,q++[g],rfl,by omega,by omega,by omega,by rw [zx];simp only [zk,zp];omega,hr,rfl,rfl⟩
 ·intro h2
  have hge:s.length≤x:=by have:=of_decide_eq_false h2;omega
  rw [yz hge,qpl] at hr
  rw [← hr]
  simp only [ZZ,WW,Ze,reduceCtorEq,zd,ze,za,zf,zb]
  rfl
theorem pre_iff {s p:List UInt8}:Lib.hasPrefix s p=true↔∃ t,s=p++t:=by
 unfold Lib.hasPrefix
 rw [List.isPrefixOf_iff_prefix]
 exact ⟨fun ⟨t,h⟩=>⟨t,h.symm⟩,fun ⟨t,h⟩=>⟨t,h.symm⟩⟩
set_option maxRecDepth 100000 in
theorem quD:∀ x:Fin 256,IntKind.u8.wrap ((x.val:Nat):Int)=((UInt8.ofNat x.val).toNat:Int):=by decide +kernel
set_option maxRecDepth 100000 in
theorem qo9 {E:Envt} (s:List UInt8) (hs:s.length≤1000000000):PCall Tryz.prog E 41 [.str s] (·=unqR s (unqF s)):=by
 refine qaf mixed Tryz.func41 qgV ?_
 simp only [a0,l0,OS.ao,zl,zt,zk,zp,zo,zq,zu,zd,zj,zm,qdP,qdH,ZZ,WW,Ze,reduceCtorEq,zd,ze,za,zf,zb]
 refine use1 (qb5 s [34]) rfl (.inl rfl) ?_
 simp only [ZZ,WW,Ze,reduceCtorEq,zd,ze,za,zf,zb]
 unfold unqF
 refine br ?_ ?_
 ·intro h
  have h:Lib.hasPrefix s [34]=false:=by simpa using h
  simp only [ZZ,WW,Ze,reduceCtorEq,zd,ze,za,zf,zb]
  rw [if_neg (by rw [h];simp)]
  rfl
 intro h
 have h:Lib.hasPrefix s [34]=true:=by simpa using h
 have hl1:1≤s.length:=Lib.hasPrefix_le h
 rw [if_pos h]
 have e1:yn 1=1:=rfl
 have e0:yn 0=0:=rfl
 simp only [ZZ,WW,Ze,reduceCtorEq,zd,ze,za,zf,zb,e1,List.take_length]
 refine ⟨by omega,?_⟩
 obtain ⟨R,hR⟩:∃ R,unqG (s.length+1) [] (s.drop 1)=R:=⟨_,rfl⟩
 have hd1:(s.drop 1).length=s.length - 1:=zR ..
 rw [hR]
 refine qag (fun n fr L=>∃ (r:List UInt8) (f:Nat) (q:List UInt8),r.length=n∧(r.length < f)∧(q.length+r.length≤s.length)∧(unqG f q r=R)∧fr=[.p (.str s),oo,oo,oo,oo,.row (.l 5),.p (.str r),oo,oo,oo,oo,oo,oo,oo,oo,oo,oo,oo,oo,oo,oo,oo,oo,oo,oo,oo,oo,oo,oo,oo,oo,oo,oo,oo,oo,oo,oo,oo,oo,oo,oo,oo,oo,oo,oo,oo,oo,oo,oo,oo,oo,oo,oo,oo,oo,oo]∧L=[(.l 5,.row (bytC q) tU8 1 true)]) ((s.drop 1).length) _ _ (by (simp only [ZZ,WW,Ze,reduceCtorEq,zd,ze,za,zf,zb];try trivial)) (by (simp only [ZZ,WW,Ze,reduceCtorEq,zd,ze,za,zf,zb];try trivial)) ⟨s.drop 1,s.length+1,[],rfl,by omega,by simp only [zp];omega,hR,rfl,rfl⟩ ?_
 rintro n fr L ⟨r,f,q,rfl,hf,hq,hr,rfl,rfl⟩
 simp only [qcF,ZZ,WW,Ze,reduceCtorEq,zd,ze,za,zf,zb]
 refine br ?_ ?_
 ·intro h2
  have hne:r≠[]:=by simpa using h2
  have hl:0 < r.length:=yf.2 hne
  obtain ⟨c,hc⟩:∃ c,r.getD 0 0=c:=⟨_,rfl⟩
  have h34:=qkQ c 34 (by omega)
  simp only [ZZ,WW,Ze,reduceCtorEq,zd,ze,za,zf,zb,hc,e0]
  refine ⟨by omega,?_⟩
  refine br ?_ ?_
  ·intro h3
   have h3:c=34:=h34.2 (of_decide_eq_true h3)
   rw [qlb hne (by rw [hc,h3]) (by omega)] at hr
   rw [← hr]
   have hlen:((s.length - (r.drop 1).length:Nat):Int)=(s.length:Nat) - (r.length:Nat)+1:=by simp only [zR];omega
   simp only [unqR]
   rw [hlen]
   simp only [ZZ,WW,Ze,reduceCtorEq,zd,ze,za,zf,zb,qp4]
   exact ⟨qaj (by omega) (by omega),qaj (by omega) (by omega)⟩
  intro h3
  have h3:r.getD 0 0≠34:=fun e=>of_decide_eq_false h3 (h34.1 (hc.symm.trans e))
  simp only [ZZ,WW,Ze,reduceCtorEq,zd,ze,za,zf,zb]
  refine qag (fun n fr L=>∃ (k:Nat),k≤256∧n=256 - k∧(∀ j,j < k→∀ t,r≠quB (UInt8.ofNat j)++t)∧fr=[.p (.str s),oo,oo,oo,oo,.row (.l 5),.p (.str r),.p (.bool false),oo,oo,oo,oo,oo,oo,oo,oo,oo,oo,oo,oo,oo,oo,oo,oo,oo,oo,oo,oo,.p (int (k:Nat)),oo,oo,oo,oo,oo,oo,oo,oo,oo,oo,oo,oo,oo,oo,oo,oo,oo,oo,oo,oo,oo,oo,oo,oo,oo,oo,oo]∧L=[(.l 5,.row (bytC q) tU8 1 true)]) (256) _ _ (by (simp only [ZZ,WW,Ze,reduceCtorEq,zd,ze,za,zf,zb];try trivial)) (by (simp only [ZZ,WW,Ze,reduceCtorEq,zd,ze,za,zf,zb];try trivial)) ⟨0,by omega,by omega,by intro j hj;omega,rfl,rfl⟩ ?_
  rintro n fr L ⟨k,hk,rfl,hno,rfl,rfl⟩
  simp only [qcE,ZZ,WW,Ze,reduceCtorEq,zd,ze,za,zf,zb]
  refine br ?_ ?_
  ·intro h4
   have hk4:k < 256:=by have:=of_decide_eq_true h4;omega
   obtain ⟨g,hg⟩:∃ g,UInt8.ofNat k=g:=⟨_,rfl⟩
   have hgk:g.toNat=k:=by rw [← hg,UInt8.toNat_ofNat'];omega
   have hw:IntKind.u8.wrap ((k:Nat):Int)=(g.toNat:Int):=by rw [← hg];exact quD ⟨k,hk4⟩
   have hb1:qg0 [[.int .u8 (g.toNat:Nat)]]=some [g]:=qp4 [g]
   have hq1:quoF [g]=34 :: (quB g++[34]):=by simp [quoF]
   have hB4:=qou g
   have hql:(34 :: (quB g++[34])).length=(quB g).length+2:=by simp
   have hqd:((34 :: (quB g++[34])).take (((((quB g).length+2:Nat):Int) - 1).toNat)).drop 1=quB g:=by
    rw [show ((((quB g).length+2:Nat):Int) - 1).toNat=(quB g).length+1 from by omega]
    simp
   simp only [ZZ,WW,Ze,reduceCtorEq,zd,ze,za,zf,zb,hw,hb1]
   refine use1 (qkL [g] (by simp)) rfl (.inl rfl) ?_
   rw [hq1]
   simp only [ZZ,WW,Ze,reduceCtorEq,zd,ze,za,zf,zb,hql,hqd,e1]
   refine ⟨qaj (by omega) (by omega),⟨⟨by omega,by omega⟩,by omega,by omega⟩,?_⟩
   refine use1 (qb5 r (quB g)) rfl (.inl rfl) ?_
   simp only [ZZ,WW,Ze,reduceCtorEq,zd,ze,za,zf,zb]
   refine br ?_ ?_
   ·intro h5
    obtain ⟨t,ht⟩:=pre_iff.1 h5
    have hle:(quB g).length≤r.length:=Lib.hasPrefix_le h5
    have hsm:qiW r=some g:=(qh5 r g).2 ⟨t,ht⟩
    rw [qmU h3 hsm (by omega)] at hr
    have hq0:1≤(quB g).length:=yf.2 (qpA g)
    have hb:bytC q++[[.int .u8 (g.toNat:Nat)]]=bytC (q++[g]):=by rw [qf1];rfl
    have hbl:=qhg (s:=q)
    simp only [ZZ,WW,Ze,reduceCtorEq,zd,ze,za,zf,zb]
    refine drg0 ?_
    simp only [ZZ,WW,Ze,reduceCtorEq,zd,ze,za,zf,zb,hw,hb,List.take_length,Int.toNat_natCast]
    refine ⟨by omega,⟨by omega,by omega⟩,?_⟩
    refine qai zE_ ?_
    simp only [ZZ,WW,Ze,reduceCtorEq,zd,ze,za,zf,zb]
    have hdr:(r.drop (quB g).length).length=r.length - (quB g).length:=zR ..
    refine qae ((r.drop (quB g).length).length) _ _ (by omega) (by (simp only [ZZ,WW,Ze,reduceCtorEq,zd,ze,za,zf,zb];try trivial)) (by (simp only [ZZ,WW,Ze,reduceCtorEq,zd,ze,za,zf,zb];try trivial)) ⟨r.drop (quB g).length,f - 1,q++[g],rfl,by rw [zR];omega,by rw [zx,zR];simp only [zk,zp];omega,hr,rfl,rfl⟩
   ·intro h5
    simp only [ZZ,WW,Ze,reduceCtorEq,zd,ze,za,zf,zb]
    refine ⟨qaj (by omega) (by omega),?_⟩
    refine qae (256 - (k+1)) _ _ (by omega) (by (simp only [ZZ,WW,Ze,reduceCtorEq,zd,ze,za,zf,zb];try trivial)) (by (simp only [ZZ,WW,Ze,reduceCtorEq,zd,ze,za,zf,zb];try trivial)) ⟨k+1,by omega,rfl,by intro j hj t ht;rcases Nat.lt_or_eq_of_le (Nat.le_of_lt_succ hj) with h6|rfl;exact hno j h6 t ht;rw [hg] at ht;exact absurd (pre_iff.2 ⟨t,ht⟩) (by rw [h5];simp),rfl,rfl⟩
  ·intro h4
   have hk4:k=256:=by have:=of_decide_eq_false h4;omega
   have hsn:qiW r=none:=by
    cases hs4:qiW r with
    |none=>rfl
    |some g=>
     obtain ⟨t,ht⟩:=(qh5 r g).1 hs4
     exact absurd ht (by have:=hno g.toNat (by have:=g.toNat_lt;omega) t;rwa [UInt8.ofNat_toNat] at this)
   rw [qmV h3 hsn] at hr
   rw [← hr]
   simp only [ZZ,WW,Ze,reduceCtorEq,zd,ze,za,zf,zb]
   refine qai zE_ ?_
   simp only [ZZ,WW,Ze,reduceCtorEq,zd,ze,za,zf,zb]
   rfl
 ·intro h2
  have hn:r=[]:=by simpa using h2
  rw [hn,qpl] at hr
  rw [← hr]
  simp only [ZZ,WW,Ze,reduceCtorEq,zd,ze,za,zf,zb]
  rfl
def qfG:IC:=(.seq (.reg [qO 41 (.bin .lss (.t 40) (.t 39))]) (.seq (.cond (.t 41) .skip (.exit 0)) (.seq (.block 1 (.seq (.reg [qM 42 40,qM 8 42]) (.seq (.reg [qM 43 6,qM 44 8,qO 45 (.idx (.t 43) (.t 44)),qO 46 (.call 107 [.t 45]),qO 47 (.not (.t 46))]) (.cond (.t 47) (.seq (.reg [qO 4 (.mov (.c (.int .i64 0))),qO 5 (.mov (.c (.bool false)))]) .ret) .skip)))) (.reg [qO 48 (.bin .add (.t 40) (.c (.int .i64 1))),qM 40 48]))))
def qhD:IC:=(.seq (.reg [qO 4 (.mov (.c (.int .i64 0))),qO 5 (.mov (.c (.bool false)))]) (.seq (.reg [qM 12 0,qO 13 (.call 106 [.t 12,.c (.str [45])]),qM 11 13,qO 14 (.ext 0 (.t 11)),qO 15 (.ext 1 (.t 11)),qM 6 14,qM 7 15]) (.seq (.seq (.reg [qM 16 6,qO 17 (.sln (.t 16)),qM 18 1,qO 19 (.call 75 [.t 17,.c (.int .i64 1),.t 18]),qO 20 (.not (.t 19)),qM 21 20,⟨some 22,.mov (.t 6),(some (21,false))⟩,⟨some 23,.sln (.t 22),(some (21,false))⟩,⟨some 24,.bin .gtr (.t 23) (.c (.int .i64 1)),(some (21,false))⟩,⟨some 25,.mov (.t 24),(some (21,false))⟩,⟨some 26,.mov (.t 6),(some (25,true))⟩,⟨some 27,.idx (.t 26) (.c (.int .i64 0)),(some (25,true))⟩,⟨some 28,.bin .eql (.t 27) (.c (.int .u8 48)),(some (25,true))⟩,⟨some 29,.pick (.t 25) (.t 28) (.c (.bool false)),(some (21,false))⟩,qO 30 (.pick (.t 21) (.c (.bool true)) (.t 29)),qM 31 30,⟨some 32,.mov (.t 7),(some (31,false))⟩,⟨some 33,.mov (.t 32),(some (31,false))⟩,⟨some 34,.mov (.t 6),(some (33,true))⟩,⟨some 35,.bin .eql (.t 34) (.c (.str [48])),(some (33,true))⟩,⟨some 36,.pick (.t 33) (.t 35) (.c (.bool false)),(some (31,false))⟩,qO 37 (.pick (.t 31) (.c (.bool true)) (.t 36))]) (.cond (.t 37) (.seq (.reg [qO 4 (.mov (.c (.int .i64 0))),qO 5 (.mov (.c (.bool false)))]) .ret) .skip)) (.seq (.seq (.reg [qM 38 6,qO 39 (.sln (.t 38)),qO 40 (.mov (.c (.int .i64 0)))]) (.block 0 (.loop qfG))) (.seq (.reg [qM 50 0,qO 51 (.call 72 [.t 50]),qM 49 51,qO 52 (.ext 0 (.t 49)),qO 53 (.ext 1 (.t 49)),qM 9 52,qM 10 53]) (.seq (.drg [qM 54 9,qM 55 10,qO 56 (.nli false (.t 55)),qM 4 54,qM 5 56]) .ret))))))
def qhy:List IRes:=[.t 4,.t 5]
theorem qk3:chkF Tryz.prog Tryz.f68 qhD qhy 57=true:=by kernel_rfl
def qeL:IC:=(.seq (.reg [qO 4 (.mov (.c (.int .i64 0))),qO 5 (.mov (.c (.bool false)))]) (.seq (.reg [qM 9 0,qO 10 (.call 72 [.t 9]),qM 8 10,qO 11 (.ext 0 (.t 8)),qO 12 (.ext 1 (.t 8)),qM 6 11,qM 7 12]) (.seq (.reg [qM 13 6,qM 14 7,qO 15 (.nli false (.t 14)),qM 16 15,⟨some 17,.mov (.t 6),(some (16,true))⟩,⟨some 18,.call 17 [.t 17],(some (16,true))⟩,⟨some 19,.mov (.t 0),(some (16,true))⟩,⟨some 20,.bin .eql (.t 18) (.t 19),(some (16,true))⟩,qO 21 (.pick (.t 16) (.t 20) (.c (.bool false))),qM 22 21,⟨some 23,.mov (.t 0),(some (22,true))⟩,⟨some 24,.call 73 [.t 23,.c (.str [45])],(some (22,true))⟩,⟨some 25,.sln (.t 24),(some (22,true))⟩,⟨some 26,.mov (.t 1),(some (22,true))⟩,⟨some 27,.bin .leq (.t 25) (.t 26),(some (22,true))⟩,qO 28 (.pick (.t 22) (.t 27) (.c (.bool false))),qM 4 13,qM 5 28]) .ret)))
def qey:List IRes:=[.t 4,.t 5]
theorem qhP:chkF Tryz.prog Tryz.f39 qeL qey 29=true:=by kernel_rfl
theorem qx2 (s:List UInt8):-9223372036854775808≤atV s∧atV s≤9223372036854775807:=by
 unfold atV
 cases h:Lib.atoiAll s with
 |ok v=>exact Lib.atoiAll_bounds h
 |range=>simp only [Lib.atoiSat];split<;>omega
 |_=>
  show (-9223372036854775808:Int)≤0∧(0:Int)≤9223372036854775807
  decide
def qkY (s:List UInt8) (n:Int):Bool:=atB s && decide (Lib.itoa (atV s)=s) && decide (((qaF s [45]).1.length:Int)≤n)
theorem qqE (s p:List UInt8):(qaF s p).1.length≤s.length:=by
 unfold qaF
 split<;>simp
theorem qrt (s:List UInt8) (n:Int) (hs:s.length≤1000000):PCall Tryz.prog E5 39 [.str s,int n] (·=.tup [int (atV s),.bool (qkY s n)]):=by
 refine qaf mixed Tryz.func39 qhP ?_
 simp only [a0,l0,OS.ao,zl,zt,zk,zp,zo,zq,zu,zd,zj,zm,qeL,qey,ZZ,WW,Ze,reduceCtorEq,zd,ze,za,zf,zb]
 refine use (qqf s hs) rfl (.inl rfl) ?_
 rintro y ⟨v,rfl,hv⟩
 have hb:=qx2 s
 simp only [ZZ,WW,Ze,reduceCtorEq,zd,ze,za,zf,zb,hv]
 refine useG (fun _=>qt6 (atV s) hb.1 hb.2) rfl (.inl rfl) ?_
 simp only [ZZ,WW,Ze,reduceCtorEq,zd,ze,za,zf,zb]
 refine useG (fun _=>qmJ s [45] (by omega) (by decide)) rfl (.inl rfl) ?_
 simp only [ZZ,WW,Ze,reduceCtorEq,zd,ze,za,zf,zb]
 rfl
def badN (s:List UInt8) (dg:Int):Bool:=(!inE (qaF s [45]).1.length 1 dg || decide ((1:Int) < ((qaF s [45]).1.length:Nat)) && decide ((((qaF s [45]).1.getD 0 0).toNat:Int)=48)) || (qaF s [45]).2 && decide ((qaF s [45]).1=[48])
theorem qqN (s:List UInt8) (dg:Int) (hs:s.length≤1000000):PCall Tryz.prog E5 68 [.str s,int dg] (·=if badN s dg=false∧(qaF s [45]).1.all digB=true then .tup [int (atV s),.bool (atB s)] else .tup [int 0,.bool false]):=by
 refine qaf mixed Tryz.func68 qk3 ?_
 simp only [a0,l0,OS.ao,zl,zt,zk,zp,zo,zq,zu,zd,zj,zm,qhD,qhy,ZZ,WW,Ze,reduceCtorEq,zd,ze,za,zf,zb]
 refine use1 (qoc s [45] (by omega) (by decide)) rfl (.inl rfl) ?_
 have hcl:=qqE s [45]
 unfold badN
 generalize qaF s [45]=q at *
 obtain ⟨d,m⟩:=q
 simp only at hcl ⊢
 simp only [ZZ,WW,Ze,reduceCtorEq,zd,ze,za,zf,zb]
 refine use1 (qqO (d.length:Nat) 1 dg) rfl (.inl rfl) ?_
 have hx:decide ((1:Int) < (d.length:Nat))=true→(0:Int) < (d.length:Nat):=by
  intro h
  have:=of_decide_eq_true h
  omega
 have e0:yn 0=0:=rfl
 simp only [ZZ,WW,Ze,reduceCtorEq,zd,ze,za,zf,zb,e0]
 refine ⟨fun h=>⟨h,by omega,hx (by simp only [zh] at h;exact h.2.2)⟩,fun h=>⟨h,fun h2=>by rw [h,h2];rfl⟩,fun h=>by rw [h];rfl,fun h=>⟨h,fun h2=>by rw [h,h2];rfl⟩,fun h=>by rw [h];rfl,?_⟩
 refine br ?_ ?_
 ·intro h
  simp only [ZZ,WW,Ze,reduceCtorEq,zd,ze,za,zf,zb]
  rw [if_neg (by rw [h];simp)]
 ·intro h
  simp only [ZZ,WW,Ze,reduceCtorEq,zd,ze,za,zf,zb]
  refine qag (fun n fr L=>∃ (j:Nat),j≤d.length∧n=d.length - j∧((d.take j).all digB=true)∧fr=[.p (.str s),oo,oo,oo,oo,oo,.p (.str d),oo,oo,oo,oo,oo,oo,oo,oo,oo,oo,oo,oo,oo,oo,oo,oo,oo,oo,oo,oo,oo,oo,oo,oo,oo,oo,oo,oo,oo,oo,oo,oo,.p (int (d.length:Nat)),.p (int (j:Nat)),oo,oo,oo,oo,oo,oo,oo,oo,oo,oo,oo,oo,oo,oo,oo,oo]∧L=[]) (d.length) _ [] (by (simp only [ZZ,WW,Ze,reduceCtorEq,zd,ze,za,zf,zb];try trivial)) (by (simp only [ZZ,WW,Ze,reduceCtorEq,zd,ze,za,zf,zb];try trivial)) ⟨0,by omega,by omega,by simp,rfl,rfl⟩ ?_
  rintro n fr L ⟨j,hj,rfl,hall,rfl,rfl⟩
  simp only [qfG,ZZ,WW,Ze,reduceCtorEq,zd,ze,za,zf,zb]
  refine br ?_ ?_
  ·intro h2
   have hju:j < d.length:=by have:=of_decide_eq_true h2;omega
   have hnx:=qsp (p:=digB) hju
   simp only [ZZ,WW,Ze,reduceCtorEq,zd,ze,za,zf,zb]
   ((repeat' (with_reducible apply And.intro))<;>try ((exact sc_)))
   refine use1 (qqd (d.getD j 0)) rfl (.inl rfl) ?_
   simp only [ZZ,WW,Ze,reduceCtorEq,zd,ze,za,zf,zb]
   refine br ?_ ?_
   ·intro hd2
    have hd2:digB (d.getD j 0)=false:=by simpa using hd2
    simp only [ZZ,WW,Ze,reduceCtorEq,zd,ze,za,zf,zb]
    rw [if_neg]
    rintro ⟨_,h3⟩
    rw [List.all_eq_true] at h3
    have:=h3 (d.getD j 0) (by simp [List.getD,hju])
    rw [hd2] at this
    cases this
   ·intro hd2
    have hd2:digB (d.getD j 0)=true:=by simpa using hd2
    simp only [ZZ,WW,Ze,reduceCtorEq,zd,ze,za,zf,zb]
    ((repeat' (with_reducible apply And.intro))<;>try ((exact sc_)))
    refine qae (d.length - (j+1)) _ [] (by omega) (by (simp only [ZZ,WW,Ze,reduceCtorEq,zd,ze,za,zf,zb];try trivial)) (by (simp only [ZZ,WW,Ze,reduceCtorEq,zd,ze,za,zf,zb];try trivial)) ⟨j+1,by omega,rfl,by rw [hnx,hall,hd2];rfl,rfl,rfl⟩
  ·intro h2
   have hju:j=d.length:=by have:=of_decide_eq_false h2;omega
   subst hju
   rw [List.take_length] at hall
   rw [if_pos ⟨h,hall⟩]
   simp only [ZZ,WW,Ze,reduceCtorEq,zd,ze,za,zf,zb]
   refine use (qqf s hs) rfl (.inl rfl) ?_
   rintro y ⟨v,rfl,hv⟩
   simp only [ZZ,WW,Ze,reduceCtorEq,zd,ze,za,zf,zb]
   refine drg0 ?_
   simp only [ZZ,WW,Ze,reduceCtorEq,zd,ze,za,zf,zb,hv]
theorem qki:∀ (s:List UInt8) (acc:Nat),s.all digB=true→(acc+1) * 10 ^ s.length≤1000000000000000000→Lib.parseUint10 acc s=.ok (s.foldl (fun n c=>10 * n+(c.toNat - 48)) acc)
 |[],acc,_,_=>rfl
 |c :: r,acc,h,hb=>by
  simp only [List.all_cons,zh] at h
  have hc:=h.1
  simp only [digB,zh,decide_eq_true_eq] at hc
  have hp:1≤10 ^ r.length:=Nat.pow_pos (by decide)
  have hq:(acc+1) * 10≤1000000000000000000:=by
   rw [zk,Nat.pow_succ,Nat.mul_comm (10 ^ r.length) 10,← Nat.mul_assoc] at hb
   exact Nat.le_trans (Nat.le_mul_of_pos_right _ hp) hb
  rw [Lib.parseUint10,if_pos ⟨by omega,by omega⟩,if_neg (by omega),if_neg (by omega),qki r _ h.2 ?_,List.foldl_cons,Nat.mul_comm acc 10]
  rw [zk,Nat.pow_succ,Nat.mul_comm (10 ^ r.length) 10,← Nat.mul_assoc] at hb
  exact Nat.le_trans (Nat.mul_le_mul_right _ (by omega)) hb
theorem qsm {s:List UInt8} (hne:s≠[]) (h:s.all digB=true) (hl:s.length≤18):atV s=(qfI s:Nat)∧atB s=true:=by
 cases s with
 |nil=>exact absurd rfl hne
 |cons c r=>
  have hc:=h
  simp only [List.all_cons,zh] at hc
  have hc:=hc.1
  simp only [digB,zh,decide_eq_true_eq] at hc
  have hp:(10:Nat) ^ (c :: r).length≤10 ^ 18:=Nat.pow_le_pow_right (by decide) hl
  have e:=qki (c :: r) 0 h (by omega)
  have hb:=qh1 (c :: r) h
  have e2:Lib.atoiAll (c :: r)=.ok ((qfI (c :: r):Nat):Int):=by
   rw [Lib.atoiAll_plain c r (by omega) (by omega),Lib.parseMag,if_neg (by simp),e]
   rw [show (c :: r).foldl (fun n c=>10 * n+(c.toNat - 48)) 0=qfI (c :: r) from rfl]
   rw [Lib.signless,if_neg (by omega)]
  unfold atV atB
  rw [e2]
  exact ⟨rfl,rfl⟩
def qgN:IC:=(.seq (.reg [qO 0 (.mov (.c (.nl 1)))]) (.seq (.reg [qO 1 (.call 53 [.c (.str [99,111,100,101,32,108,97,98,101,108,32,100,114,111,112,32,99,111,118,101,114,32,110,111,116,101,32,117,110,100,111])]),qM 0 1]) .ret))
def qgA:List IRes:=[.t 0]
theorem qkz:chkF Tryz.prog Tryz.f18 qgN qgA 2=true:=by kernel_rfl
def qhA:IC:=(.seq (.reg [qO 2 (.mov (.c (.str [])))]) (.seq (.seq (.reg [qM 3 0,qO 4 (.bin .eql (.t 3) (.c (.str [45])))]) (.cond (.t 4) (.seq (.reg [qO 2 (.mov (.c (.str [])))]) .ret) .skip)) (.seq (.reg [qM 5 0,qM 2 5]) .ret)))
def qhv:List IRes:=[.t 2]
theorem qk0:chkF Tryz.prog Tryz.f70 qhA qhv 6=true:=by kernel_rfl
def qdv:IC:=(.seq (.reg [qO 0 (.mov (.c (.nl 1)))]) (.seq (.reg [qO 1 (.bsl 1 [.c (.str []),.c (.str [99,111,100,101]),.c (.str [108,97,98,101,108]),.c (.str [100,114,111,112]),.c (.str [99,111,118,101,114]),.c (.str [110,111,116,101]),.c (.str [117,110,100,111])]),qM 0 1]) .ret))
def qdo:List IRes:=[.t 0]
theorem qgq:chkF Tryz.prog Tryz.f30 qdv qdo 2=true:=by kernel_rfl
def qcI:IC:=(.seq (.reg [qO 2 (.mov (.c (.str [])))]) (.seq (.seq (.reg [qM 3 0,qO 4 (.bin .eql (.t 3) (.c (.str [45])))]) (.cond (.t 4) (.seq (.reg [qO 2 (.mov (.c (.str [])))]) .ret) .skip)) (.seq (.reg [qM 5 0,qM 2 5]) .ret)))
def qcA:List IRes:=[.t 2]
theorem qfM:chkF Tryz.prog Tryz.f42 qcI qcA 6=true:=by kernel_rfl
def E9:Envt where
 ok w:=E5.ok w∧TabAt 9 Lib.deBruijn64tab w
 bl b:=E5.bl b∨b=9
 mono w w' hb h:=⟨E5.mono w w' (fun b hbb=>hb b (.inl hbb)) h.1,fun j hj=>(World.cell?_of_block (hb _ (.inr rfl))).trans (h.2 j hj)⟩
theorem up95 {f:FuncId} {args:List PV} {φ:PV→Prop} (h:PCall Tryz.prog E5 f args φ):PCall Tryz.prog E9 f args φ:=fun w U vs hU hE hEb hA=>h w U vs hU hE.1 (fun c hc=>hEb c (.inl hc)) hA
theorem up9D {f:FuncId} {args:List PV} {φ:PV→Prop} (h:PCall Tryz.prog ED f args φ):PCall Tryz.prog E9 f args φ:=fun w U vs hU hE hEb hA=>h w U vs hU ⟨hE.1.1,hE.1.2.1,hE.2⟩ (fun c hc=>hEb c (by rcases hc with hc|rfl|rfl;exact .inl (.inl hc);exact .inl (.inr (.inl rfl));exact .inr rfl)) hA
theorem qpK:PCall Tryz.prog E9 18 [] (·=.sl 1 (strE kndW)):=by
 refine qaf mixed Tryz.func18 qkz ?_
 simp only [a0,l0,OS.ao,zl,zt,zk,zp,zo,zq,zu,zd,zj,zm,qgN,qgA,ZZ,WW,Ze,reduceCtorEq,zd,ze,za,zf,zb]
 refine use1 (up95 (qsD [99,111,100,101,32,108,97,98,101,108,32,100,114,111,112,32,99,111,118,101,114,32,110,111,116,101,32,117,110,100,111] (by simp) (by decide))) rfl (.inl rfl) ?_
 rw [show Lib.fields [99,111,100,101,32,108,97,98,101,108,32,100,114,111,112,32,99,111,118,101,114,32,110,111,116,101,32,117,110,100,111]=kndW from by decide]
 simp only [ZZ,WW,Ze,reduceCtorEq,zd,ze,za,zf,zb]
section
variable {E:Envt}
theorem qjt:PCall Tryz.prog E 30 [] (·=.sl 1 (strE ([] :: kndW))):=by
 refine qaf mixed Tryz.func30 qgq ?_
 simp only [a0,l0,OS.ao,zl,zt,zk,zp,zo,zq,zu,zd,zj,zm,qdv,qdo,ZZ,WW,Ze,reduceCtorEq,zd,ze,za,zf,zb]
 rfl
theorem qoD (s:List UInt8):PCall Tryz.prog E 70 [.str s] (·=.str (nonF s)):=by
 refine qaf mixed Tryz.func70 qk0 ?_
 simp only [a0,l0,OS.ao,zl,zt,zk,zp,zo,zq,zu,zd,zj,zm,qhA,qhv,ZZ,WW,Ze,reduceCtorEq,zd,ze,za,zf,zb]
 unfold nonF
 refine br ?_ ?_
 ·intro h
  simp only [ZZ,WW,Ze,reduceCtorEq,zd,ze,za,zf,zb]
  rw [if_pos (of_decide_eq_true h)]
 ·intro h
  simp only [ZZ,WW,Ze,reduceCtorEq,zd,ze,za,zf,zb]
  rw [if_neg (of_decide_eq_false h)]
theorem quF (s:List UInt8):PCall Tryz.prog E 42 [.str s] (·=.str (nonF s)):=by
 refine qaf mixed Tryz.func42 qfM ?_
 simp only [a0,l0,OS.ao,zl,zt,zk,zp,zo,zq,zu,zd,zj,zm,qcI,qcA,ZZ,WW,Ze,reduceCtorEq,zd,ze,za,zf,zb]
 unfold nonF
 refine br ?_ ?_
 ·intro h
  simp only [ZZ,WW,Ze,reduceCtorEq,zd,ze,za,zf,zb]
  rw [if_pos (of_decide_eq_true h)]
 ·intro h
  simp only [ZZ,WW,Ze,reduceCtorEq,zd,ze,za,zf,zb]
  rw [if_neg (of_decide_eq_false h)]
end
def qcn:IC:=(.seq (.reg [qO 9 (.bin .lss (.t 8) (.t 7))]) (.seq (.cond (.t 9) .skip (.exit 0)) (.seq (.block 1 (.seq (.reg [qO 10 (.ixa 12 (.t 6) (.t 8)),qO 11 (.ld 12 true (.t 10)),qO 5 (.alc 44 [.str [],.int .i64 0,.int .i64 0,.int .i64 0,.str [],.str [],.str [],.int .i64 0,.int .i64 0,.str [],.int .i64 0,.str []]),⟨none,.st 12 (.t 5) (.t 11),none⟩]) (.drg [qO 12 (.fla 0 (.t 5)),qO 13 (.fla 0 (.t 12)),qO 14 (.ld 1 false (.t 13)),qO 15 (.fla 0 (.t 5)),qO 16 (.fla 1 (.t 15)),qO 17 (.ld 1 false (.t 16)),qO 18 (.pcall 0 17 [.t 17]),qO 19 (.fla 2 (.t 5)),qO 20 (.ld 1 false (.t 19)),qO 21 (.pcall 1 17 [.t 20]),qO 22 (.pcall 2 30 []),qO 23 (.fla 3 (.t 5)),qO 24 (.ld 1 false (.t 23)),qO 25 (.ixa 1 (.t 22) (.t 24)),qO 26 (.ld 1 false (.t 25)),qO 27 (.fla 4 (.t 5)),qO 28 (.ld 1 false (.t 27)),qO 29 (.pcall 3 31 [.t 28]),qO 30 (.fla 5 (.t 5)),qO 31 (.ld 1 false (.t 30)),qO 32 (.pcall 4 31 [.t 31]),qO 33 (.fla 6 (.t 5)),qO 34 (.ld 1 false (.t 33)),qO 35 (.pcall 5 32 [.t 34]),qO 36 (.fla 7 (.t 5)),qO 37 (.fla 0 (.t 36)),qO 38 (.ld 1 false (.t 37)),qO 39 (.pcall 6 17 [.t 38]),qO 40 (.fla 7 (.t 5)),qO 41 (.fla 1 (.t 40)),qO 42 (.ld 1 false (.t 41)),qO 43 (.pcall 7 17 [.t 42]),qO 44 (.fla 9 (.t 5)),qO 45 (.fla 0 (.t 44)),qO 46 (.ld 1 false (.t 45)),qO 47 (.pcall 8 31 [.t 46]),qO 48 (.fla 9 (.t 5)),qO 49 (.fla 1 (.t 48)),qO 50 (.ld 1 false (.t 49)),qO 51 (.pcall 9 17 [.t 50]),qO 52 (.fla 11 (.t 5)),qO 53 (.ld 1 false (.t 52)),qO 54 (.bsl 1 [.c (.str [100,101,101,100]),.t 14,.t 18,.t 21,.t 26,.t 29,.t 32,.t 35,.t 39,.t 43,.t 47,.t 51,.t 53]),qO 55 (.pcall 10 21 [.t 54,.c (.str [32])]),qO 56 (.bin .add (.t 55) (.c (.str [10]))),qO 57 (.call 20 [.t 3,.t 56])]))) (.reg [qO 58 (.bin .add (.t 8) (.c (.int .i64 1))),qM 8 58]))))
def qdx:IC:=(.seq (.reg [qO 2 (.mov (.c (.str [])))]) (.seq (.reg [qO 3 (.alc 52 [.raw (.pointer none),.nl 1])]) (.seq (.seq (.reg [qM 6 0,qO 7 (.len (.t 6)),qO 8 (.mov (.c (.int .i64 0)))]) (.block 0 (.loop qcn))) (.seq (.reg [qO 59 (.call 23 [.t 3]),qM 2 59]) .ret))))
def qdq:List IRes:=[.t 2]
theorem qgs:chkF Tryz.prog Tryz.f7 qdx qdq 60=true:=by kernel_rfl
def qcX:IC:=(.seq (.reg [qO 17 (.bin .lss (.t 16) (.t 15))]) (.seq (.cond (.t 17) .skip (.exit 0)) (.seq (.block 1 (.seq (.reg [qO 18 (.ixa 12 (.t 14) (.t 16)),qO 19 (.ld 12 true (.t 18)),qO 7 (.alc 44 [.str [],.int .i64 0,.int .i64 0,.int .i64 0,.str [],.str [],.str [],.int .i64 0,.int .i64 0,.str [],.int .i64 0,.str []]),⟨none,.st 12 (.t 7) (.t 19),none⟩]) (.seq (.drg [qO 20 (.fla 0 (.t 7)),qO 21 (.fla 0 (.t 20)),qO 22 (.ld 1 false (.t 21)),qO 23 (.fla 0 (.t 7)),qO 24 (.fla 1 (.t 23)),qO 25 (.ld 1 false (.t 24)),qO 26 (.pcall 0 17 [.t 25]),qO 27 (.fla 2 (.t 7)),qO 28 (.ld 1 false (.t 27)),qO 29 (.pcall 1 17 [.t 28]),qO 30 (.pcall 2 18 []),qO 31 (.fla 3 (.t 7)),qO 32 (.ld 1 false (.t 31)),qO 33 (.bin .sub (.t 32) (.c (.int .i64 1))),qO 34 (.ixa 1 (.t 30) (.t 33)),qO 35 (.ld 1 false (.t 34)),qO 36 (.bsr 9 1 [.c (.str [100,101,101,100]),.t 22,.t 26,.t 29,.t 35]),qM 8 36]) (.seq (.drg [qM 37 8,qO 38 (.ld 12 true (.t 7)),qO 39 (.pcall 0 19 [.t 38]),qO 40 (.app 9 1 16 (.t 37) (.t 39)),qO 41 (.fla 11 (.t 7)),qO 42 (.ld 1 false (.t 41)),qO 43 (.bsl 1 [.t 42]),qO 44 (.app 9 1 16 (.t 40) (.t 43)),qM 8 44]) (.seq (.reg [qM 45 8,qO 46 (.call 21 [.t 45,.c (.str [32])]),qO 47 (.bin .add (.t 46) (.c (.str [10]))),qO 48 (.call 20 [.t 5,.t 47])]) (.seq (.reg [qO 49 (.call 22 [.t 5]),qO 50 (.bin .gtr (.t 49) (.c (.int .i64 200000)))]) (.cond (.t 50) (.seq (.reg [qO 2 (.mov (.c (.str []))),qO 3 (.mov (.c (.int .i64 2)))]) .ret) .skip))))))) (.reg [qO 51 (.bin .add (.t 16) (.c (.int .i64 1))),qM 16 51]))))
def qej:IC:=(.seq (.reg [qO 2 (.mov (.c (.str []))),qO 3 (.mov (.c (.int .i64 0)))]) (.seq (.seq (.reg [qM 9 0,qO 10 (.call 16 [.t 9]),qM 4 10]) (.seq (.reg [qM 11 4,qO 12 (.bin .neq (.t 11) (.c (.int .i64 0)))]) (.cond (.t 12) (.seq (.reg [qM 13 4,qO 2 (.mov (.c (.str []))),qM 3 13]) .ret) .skip))) (.seq (.reg [qO 5 (.alc 52 [.raw (.pointer none),.nl 1])]) (.seq (.seq (.reg [qM 14 0,qO 15 (.len (.t 14)),qO 16 (.mov (.c (.int .i64 0)))]) (.block 0 (.loop qcX))) (.seq (.reg [qO 52 (.call 23 [.t 5]),qM 2 52,qO 3 (.mov (.c (.int .i64 0)))]) .ret)))))
def qd7:List IRes:=[.t 2,.t 3]
theorem qhp:chkF Tryz.prog Tryz.f5 qej qd7 53=true:=by kernel_rfl
def kndF (d:Dd):List UInt8:=kndW.getD (d.kind - 1).toNat []
def lwF (d:Dd):List (List UInt8):=[[100,101,101,100],d.site,Lib.itoa d.no,Lib.itoa d.tm,kndF d,qff d.id,qff d.field,quoF d.value,Lib.itoa d.frm,Lib.itoa d.upto,qff d.osite,Lib.itoa d.ono,d.sum]
def qjG (d:Dd):List UInt8:=Lib.join (lwF d) [32]++[10]
def txtF (l:List Dd):List UInt8:=l.flatMap qjG
theorem qti (d:Dd):(kndF d).length≤5:=by
 have:∀ x∈kndW,x.length≤5:=by decide
 unfold kndF
 rw [zG]
 cases h:kndW[(d.kind - 1).toNat]? with
 |none=>simp
 |some x=>exact this x (zD h)
set_option maxHeartbeats 2000000 in
theorem qrG {d:Dd} (h:DdB d):(Lib.join (lwF d) [32]).length≤10000000:=by
 have i1:=qkn h.c1
 have i2:=qkn h.c2
 have i4:=qkn h.c4
 have i5:=qkn h.c5
 have i6:=qkn h.c6
 have d1:=qfL d.id
 have d2:=qfL d.field
 have d3:=qfL d.osite
 have q1:=qpz d.value
 have k1:=qti d
 have b1:=h.b1
 have b2:=h.b2
 have b3:=h.b3
 have b4:=h.b4
 have b5:=h.b5
 have b6:=h.b6
 simp only [lwF,Lib.join_length,Lib.lens,zl,zt,List.sum_cons,List.sum_nil,zk,zp]
 omega
theorem qmd {d:Dd} (h:DdB d):(qjG d).length≤10000001:=by
 have:=qrG h
 simp only [qjG,zx,zk,zp]
 omega
theorem qpo {l:List Dd} {k:Nat} {d:Dd} (h:l[k]?=some d):txtF (l.take (k+1))=txtF (l.take k)++qjG d:=by
 obtain ⟨hk,e⟩:=List.getElem?_eq_some_iff.1 h
 rw [List.take_succ_eq_append_getElem hk,txtF,List.flatMap_append,e]
 simp [txtF]
theorem qog:∀ {l:List Dd},DdsB l→(txtF l).length≤10000001 * l.length
 |[],_=>by simp [txtF]
 |d :: l,h=>by
  have h1:=qmd (h d (.head _))
  have h2:=qog (l:=l) fun x hx=>h x (.tail _ hx)
  have e:txtF (d :: l)=qjG d++txtF l:=rfl
  rw [e,zx,zk]
  omega
def TxL (s:List UInt8) (L:Objs):Prop:=(L=[(.l 3,.box [.p nilP,.p (.nl 1)] tSb)]∧s=[])∨L=[(.l 3,.box [.adr (.l 3) 0,.row (.l 1000)] tSb),(.l 1000,.row (bytC s) tU8 1 true)]
theorem qg5 (l:List Dd) (hB:DdsB l) (hK:∀ d∈l,1≤d.kind∧d.kind≤6) (hl:l.length≤3000):PCall Tryz.prog E9 7 [.sl 12 (ddE l)] (·=.str (txtF l)):=by
 refine qaf mixed Tryz.func7 qgs ?_
 simp only [a0,l0,OS.ao,zl,zt,zk,zp,zo,zq,zu,zd,zj,zm,qdx,qdq,ZZ,WW,Ze,reduceCtorEq,zd,ze,za,zf,zb]
 simp only [ZZ,WW,Ze,reduceCtorEq,zd,ze,za,zf,zb,qac]
 refine qrz (fun m fr L=>∃ k,k≤l.length∧m=l.length - k∧fr=[.p (.sl 12 (ddE l)),oo,oo,.adr (.l 3) 0,oo,oo,.p (.sl 12 (ddE l)),.p (int (l.length:Nat)),.p (int (k:Nat)),oo,oo,oo,oo,oo,oo,oo,oo,oo,oo,oo,oo,oo,oo,oo,oo,oo,oo,oo,oo,oo,oo,oo,oo,oo,oo,oo,oo,oo,oo,oo,oo,oo,oo,oo,oo,oo,oo,oo,oo,oo,oo,oo,oo,oo,oo,oo,oo,oo,oo,oo]∧TxL (txtF (l.take k)) L) l.length _ _ (qxb (by simp only [ZZ,WW,Ze,reduceCtorEq,zd,ze,za,zf,zb,qac];try trivial)) ⟨0,by omega,by omega,rfl,.inl ⟨rfl,rfl⟩⟩ ?_
 rintro m fr L ⟨k,hk,rfl,rfl,hat⟩
 simp only [qcn,ZZ,WW,Ze,reduceCtorEq,zd,ze,za,zf,zb]
 refine br ?_ ?_
 ·intro h
  have hlt:k < l.length:=by have:=of_decide_eq_true h;omega
  obtain ⟨d,hd⟩:∃ d,l[k]?=some d:=⟨_,zr hlt⟩
  have hg:=qbC hd
  have dB:=hB.get hd
  have hkd:=hK d (zD hd)
  have hn:=qpo hd
  have hjl:=qrG dB
  have htl:=qog (l:=l.take k) fun x hx=>hB x (List.mem_of_mem_take hx)
  have htk:(l.take k).length≤3000:=by simp;omega
  have hki:d.kind.toNat < 7:=by omega
  have hkn:kndW.length=6:=rfl
  have hll:=qmd dB
  have hkg:(strE ([] :: kndW)).getD d.kind.toNat []=[.str (kndF d)]:=by
   obtain ⟨j,hj⟩:∃ j:Nat,d.kind=(j+1:Nat):=⟨(d.kind - 1).toNat,by omega⟩
   unfold kndF
   rw [hj]
   have:j < 6:=by omega
   match j,this with
   |0,_|1,_|2,_|3,_|4,_|5,_=>rfl
  generalize hs:txtF (l.take k)=s at *
  rcases hat with ⟨rfl,hs0⟩|rfl
  all_goals
   simp only [ZZ,WW,Ze,reduceCtorEq,zd,ze,za,zf,zb,hg,ddC,qac]
   refine ⟨⟨by omega,by omega⟩,hlt,?_⟩
   refine ⟨[.str (Lib.itoa d.no),.str (Lib.itoa d.tm),.sl 1 (strE ([] :: kndW)),.str (qff d.id),.str (qff d.field),.str (quoF d.value),.str (Lib.itoa d.frm),.str (Lib.itoa d.upto),.str (qff d.osite),.str (Lib.itoa d.ono),.str (Lib.join (lwF d) [32])],?_⟩
   simp only [ZZ,WW,Ze,reduceCtorEq,zd,ze,za,zf,zb,hkg,qau]
   refine ⟨usep (up9D (qaW d.no (by have:=dB.c1;omega) (by have:=dB.c1;omega))) rfl (.inl rfl),usep (up9D (qaW d.tm (by have:=dB.c2;omega) (by have:=dB.c2;omega))) rfl (.inl rfl),usep qjt rfl (.inl rfl),⟨by omega,by omega⟩,by omega,usep (qhf d.id) rfl (.inl rfl),usep (qhf d.field) rfl (.inl rfl),usep (qkL d.value (by have:=dB.b4;omega)) rfl (.inl rfl),usep (up9D (qaW d.frm (by have:=dB.c4;omega) (by have:=dB.c4;omega))) rfl (.inl rfl),usep (up9D (qaW d.upto (by have:=dB.c5;omega) (by have:=dB.c5;omega))) rfl (.inl rfl),usep (qhf d.osite) rfl (.inl rfl),usep (up9D (qaW d.ono (by have:=dB.c6;omega) (by have:=dB.c6;omega))) rfl (.inl rfl),usep (qmN (lwF d) [32] (by simp [lwF]) (by omega)) rfl (.inl rfl),?_⟩
   refine ⟨by omega,?_⟩
   rw [show Lib.join (lwF d) [32]++[10]=qjG d from rfl]
   refine qqi (k:=.l 3) 1000 s (qjG d) ?_ (by simp) (by omega) ?_
   first
    |exact .inl ⟨rfl,hs0⟩
    |exact .inr ⟨rfl,rfl⟩
   simp only [ZZ,WW,Ze,reduceCtorEq,zd,ze,za,zf,zb,qfS]
   refine ⟨qaj (by omega) (by omega),?_⟩
   refine qae (l.length - (k+1)) _ [(.l 3,.box [.adr (.l 3) 0,.row (.l 1000)] tSb),(.l 1000,.row (bytC (s++qjG d)) tU8 1 true)] (by omega) (by (simp only [ZZ,WW,Ze,reduceCtorEq,zd,ze,za,zf,zb];try trivial)) zE_ ⟨k+1,by omega,rfl,rfl,.inr (by rw [hn])⟩
 ·intro h
  have hge:l.length≤k:=by have:=of_decide_eq_false h;omega
  rw [zP hge] at hat
  rcases hat with ⟨rfl,hs0⟩|rfl
  ·simp only [ZZ,WW,Ze,reduceCtorEq,zd,ze,za,zf,zb]
   refine qqh 1000 [] (.inl ⟨rfl,rfl⟩) (by simp) ?_
   simp only [ZZ,WW,Ze,reduceCtorEq,zd,ze,za,zf,zb]
   rw [hs0]
  ·simp only [ZZ,WW,Ze,reduceCtorEq,zd,ze,za,zf,zb]
   refine qqh 1000 _ (.inr ⟨rfl,rfl⟩) (by simp) ?_
   simp only [ZZ,WW,Ze,reduceCtorEq,zd,ze,za,zf,zb]
theorem qsJ (l:List Dd) (j:Nat):(txtF (l.take j)).length≤(txtF l).length:=by
 have e:txtF l=txtF (l.take j)++txtF (l.drop j):=by
  unfold txtF
  rw [← List.flatMap_append,List.take_append_drop]
 rw [e,zx]
 omega
def priF (l:List Dd):PV:=if ¬ (ckdF l).2=0 then .tup [.str [],int (ckdF l).2] else if 200000 < (txtF l).length then .tup [.str [],int 2] else .tup [.str (txtF l),int 0]
def TxP (s:List UInt8) (L:Objs):Prop:=(L=[(.l 5,.box [.p nilP,.p (.nl 1)] tSb)]∧s=[])∨L=[(.l 5,.box [.adr (.l 5) 0,.row (.l 1000)] tSb),(.l 1000,.row (bytC s) tU8 1 true)]
set_option maxRecDepth 100000 in
set_option maxHeartbeats 2000000 in
theorem qmL (l:List Dd) (hB:DdsB l) (hl:l.length≤3000):PCall Tryz.prog E9 5 [.sl 12 (ddE l)] (·=priF l):=by
 refine qaf mixed Tryz.func5 qhp ?_
 simp only [a0,l0,OS.ao,zl,zt,zk,zp,zo,zq,zu,zd,zj,zm,qej,qd7,ZZ,WW,Ze,reduceCtorEq,zd,ze,za,zf,zb]
 refine use1 (up9D (qgJ l hB (by omega))) rfl (.inl rfl) ?_
 unfold priF
 simp only [ZZ,WW,Ze,reduceCtorEq,zd,ze,za,zf,zb]
 refine br ?_ ?_
 ·intro h
  have h:¬ (ckdF l).2=0:=by simpa using h
  simp only [ZZ,WW,Ze,reduceCtorEq,zd,ze,za,zf,zb]
  rw [if_pos h]
 intro h
 have h:(ckdF l).2=0:=by simpa using h
 rw [if_neg (fun e=>e h)]
 simp only [ZZ,WW,Ze,reduceCtorEq,zd,ze,za,zf,zb,qac]
 refine qrz (fun m fr L=>∃ k,k≤l.length∧m=l.length - k∧(txtF (l.take k)).length≤200000∧fr=[.p (.sl 12 (ddE l)),oo,oo,oo,oo,.adr (.l 5) 0,oo,oo,oo,oo,oo,oo,oo,oo,.p (.sl 12 (ddE l)),.p (int (l.length:Nat)),.p (int (k:Nat)),oo,oo,oo,oo,oo,oo,oo,oo,oo,oo,oo,oo,oo,oo,oo,oo,oo,oo,oo,oo,oo,oo,oo,oo,oo,oo,oo,oo,oo,oo,oo,oo,oo,oo,oo,oo]∧TxP (txtF (l.take k)) L) l.length _ _ (qxb (by simp only [ZZ,WW,Ze,reduceCtorEq,zd,ze,za,zf,zb,qac];try trivial)) ⟨0,by omega,by omega,by simp [txtF],rfl,.inl ⟨rfl,rfl⟩⟩ ?_
 rintro m fr L ⟨k,hk,rfl,htx,rfl,hat⟩
 simp only [qcX,ZZ,WW,Ze,reduceCtorEq,zd,ze,za,zf,zb]
 refine br ?_ ?_
 ·intro h1
  have hlt:k < l.length:=by have:=of_decide_eq_true h1;omega
  obtain ⟨d,hd⟩:∃ d,l[k]?=some d:=⟨_,zr hlt⟩
  have hg:=qbC hd
  have dB:=hB.get hd
  have hkd:=qkk (qr6 h d (zD hd))
  have hn:=qpo hd
  have hmo:=qsJ l (k+1)
  have hjl:=qrG dB
  have hkn:kndW.length=6:=rfl
  have hll:=qmd dB
  have hkg:(strE kndW).getD (d.kind - 1).toNat []=[.str (kndF d)]:=by
   obtain ⟨j,hj⟩:∃ j:Nat,d.kind=(j+1:Nat):=⟨(d.kind - 1).toNat,by omega⟩
   unfold kndF
   rw [hj,show (((j+1:Nat):Int) - 1).toNat=j from by omega]
   have:j < 6:=by omega
   match j,this with
   |0,_|1,_|2,_|3,_|4,_|5,_=>rfl
  generalize hs:txtF (l.take k)=s at *
  rcases hat with ⟨rfl,hs0⟩|rfl
  all_goals
   simp only [ZZ,WW,Ze,reduceCtorEq,zd,ze,za,zf,zb,hg,ddC,qac]
   refine ⟨⟨by omega,by omega⟩,hlt,?_⟩
   refine drg3 (x1:=.str (Lib.itoa d.no)) (x2:=.str (Lib.itoa d.tm)) (x3:=.sl 1 (strE kndW)) ?_
   simp only [ZZ,WW,Ze,reduceCtorEq,zd,ze,za,zf,zb,hkg,qau]
   refine ⟨usep (up9D (qaW d.no (by have:=dB.c1;omega) (by have:=dB.c1;omega))) rfl (.inl rfl),usep (up9D (qaW d.tm (by have:=dB.c2;omega) (by have:=dB.c2;omega))) rfl (.inl rfl),usep qpK rfl (.inl rfl),qaj (by omega) (by omega),⟨by omega,by omega⟩,by omega,?_⟩
   refine drg1 (x1:=strs (wrdF d)) ?_
   simp only [ZZ,WW,Ze,reduceCtorEq,zd,ze,za,zf,zb,strs,wrdF,zl,zt]
   refine ⟨usep (up9D (qpj d dB)) rfl (.inl rfl),?_⟩
   refine use1 (qmN (lwF d) [32] (by simp [lwF]) (by omega)) rfl (.inr rfl) ?_
   simp only [ZZ,WW,Ze,reduceCtorEq,zd,ze,za,zf,zb]
   refine ⟨by omega,?_⟩
   rw [show Lib.join (lwF d) [32]++[10]=qjG d from rfl]
   refine qqi (k:=.l 5) 1000 s (qjG d) ?_ (by simp) (by omega) ?_
   first
    |exact .inl ⟨rfl,hs0⟩
    |exact .inr ⟨rfl,rfl⟩
   simp only [ZZ,WW,Ze,reduceCtorEq,zd,ze,za,zf,zb,qfS]
   refine qyh (k:=.l 5) 1000 (s++qjG d) (.inr ⟨rfl,rfl⟩) (by simp) ?_
   simp only [ZZ,WW,Ze,reduceCtorEq,zd,ze,za,zf,zb]
   refine br ?_ ?_
   ·intro h2
    have h2:200000 < (s++qjG d).length:=by have:=of_decide_eq_true h2;omega
    rw [hn] at hmo
    rw [if_pos (by omega)]
    simp only [ZZ,WW,Ze,reduceCtorEq,zd,ze,za,zf,zb]
   intro h2
   have h2:(s++qjG d).length≤200000:=by have:=of_decide_eq_false h2;omega
   simp only [ZZ,WW,Ze,reduceCtorEq,zd,ze,za,zf,zb]
   refine ⟨qaj (by omega) (by omega),?_⟩
   refine qae (l.length - (k+1)) _ [(.l 5,.box [.adr (.l 5) 0,.row (.l 1000)] tSb),(.l 1000,.row (bytC (s++qjG d)) tU8 1 true)] (by omega) (by (simp only [ZZ,WW,Ze,reduceCtorEq,zd,ze,za,zf,zb];try trivial)) zE_ ⟨k+1,by omega,rfl,by rw [hn];exact h2,rfl,.inr (by rw [hn])⟩
 ·intro h1
  have hge:l.length≤k:=by have:=of_decide_eq_false h1;omega
  rw [zP hge] at hat htx
  rw [if_neg (by omega)]
  rcases hat with ⟨rfl,hs0⟩|rfl
  ·simp only [ZZ,WW,Ze,reduceCtorEq,zd,ze,za,zf,zb]
   refine qqh 1000 [] (.inl ⟨rfl,rfl⟩) (by simp) ?_
   simp only [ZZ,WW,Ze,reduceCtorEq,zd,ze,za,zf,zb]
   rw [hs0]
  ·simp only [ZZ,WW,Ze,reduceCtorEq,zd,ze,za,zf,zb]
   refine qqh 1000 _ (.inr ⟨rfl,rfl⟩) (by simp) ?_
   simp only [ZZ,WW,Ze,reduceCtorEq,zd,ze,za,zf,zb]
end Go.Proofs.YtjgdjinhkgjpeaaGreatDoor
namespace Go.Proofs.YtjgdjinhkgjpeaaGreatDoor
open Nat renaming reduceAdd→zd,reduceEqDiff→zb,reduceLT→zf,reduceLeDiff→za,reduceMul→ze
open List renaming length_append→zx,length_drop→zR,length_pos_iff→yf,length_take→zQ
def qb1:IC:=(.seq (.reg [qO 6 (.mov (.c (.str [])))]) (.seq (.seq (.reg [qM 9 1,qO 10 (.bin .eql (.t 9) (.c (.str []))),qM 11 10,⟨some 12,.mov (.t 2),(some (11,false))⟩,⟨some 13,.bin .eql (.t 12) (.c (.str [])),(some (11,false))⟩,qO 14 (.pick (.t 11) (.c (.bool true)) (.t 13))]) (.cond (.t 14) (.seq (.reg [qM 15 2,qM 6 15]) .ret) .skip)) (.seq (.reg [qM 16 0,qM 17 1,qO 18 (.sln (.t 17)),qO 19 (.call 46 [.t 16,.t 18]),qM 7 19]) (.seq (.reg [qM 20 2,qM 21 0,qM 22 2,qO 23 (.sln (.t 22)),qO 24 (.call 46 [.t 21,.t 23]),qO 25 (.idx (.t 20) (.t 24)),qM 8 25]) (.seq (.seq (.reg [qM 26 0,qO 27 (.call 46 [.t 26,.c (.int .i64 3)])]) (.block 0 (.seq (.reg [qO 29 (.bin .eql (.t 27) (.c (.int .i64 0))),qM 28 29]) (.cond (.t 28) (.seq (.drg [qM 30 1,qM 31 7,qO 32 (.ssl (.t 30) none (some (.t 31))),qM 33 8,qO 34 (.cvi .i32 (.t 33)),qO 35 (.cvs (.t 34)),qO 36 (.bin .add (.t 32) (.t 35)),qM 37 1,qM 38 7,qO 39 (.bin .add (.t 38) (.c (.int .i64 1))),qO 40 (.ssl (.t 37) (some (.t 39)) none),qO 41 (.bin .add (.t 36) (.t 40)),qM 6 41]) .ret) (.seq (.reg [qO 43 (.bin .eql (.t 27) (.c (.int .i64 1))),qM 42 43]) (.cond (.t 42) (.seq (.drg [qM 44 1,qM 45 7,qO 46 (.ssl (.t 44) none (some (.t 45))),qM 47 8,qO 48 (.cvi .i32 (.t 47)),qO 49 (.cvs (.t 48)),qO 50 (.bin .add (.t 46) (.t 49)),qM 51 1,qM 52 7,qO 53 (.ssl (.t 51) (some (.t 52)) none),qO 54 (.bin .add (.t 50) (.t 53)),qM 6 54]) .ret) .skip)))))) (.seq (.drg [qM 55 1,qM 56 7,qO 57 (.ssl (.t 55) none (some (.t 56))),qM 58 1,qM 59 7,qO 60 (.bin .add (.t 59) (.c (.int .i64 1))),qO 61 (.ssl (.t 58) (some (.t 60)) none),qO 62 (.bin .add (.t 57) (.t 61)),qM 6 62]) .ret))))))
def qb0:List IRes:=[.t 6]
theorem qeS:chkF Tryz.prog Tryz.f33 qb1 qb0 63=true:=by kernel_rfl
section
variable {E:Envt}
theorem qxR (c:Int):(Utf8.encode c).data.toList.length≤4:=by
 rw [Array.length_toList]
 exact encode_size_le c
theorem qqP (l:List Int) (k:Nat) (s t:List UInt8) (hk:k≤900000) (hl:l.length≤9223372036854775807) (hs:s.length≤100000000000) (ht:t.length≤1000000) :
  qdl Tryz.prog E 33 T (stm l k) [.str s,.str t] (fun x cs'=>∃ u k',x=.str u∧u.length≤s.length+t.length+10∧cs'=stm l k'∧k'≤k+3):=by
 unfold qdl
 refine qgl mixed Tryz.func33 qeS ?_
 simp only [a0,l0,OS.ao,List.map_cons,List.map_nil,List.length_cons,List.length_nil,List.cons_append,List.nil_append,Nat.reduceSub,zd,List.replicate_succ,List.replicate_zero,qb1,qb0,ZZ,WW,Ze,reduceCtorEq,zd,ze,za,zf,zb]
 ((repeat' (with_reducible apply And.intro))<;>try ((exact sc_)))
 refine br ?_ ?_
 ·intro _
  simp only [ZZ,WW,Ze,reduceCtorEq,zd,ze,za,zf,zb]
  exact qfU (stm l k) rfl ⟨t,_,rfl,by omega,rfl,by omega⟩
 ·intro h
  simp only [Bool.or_eq_false_iff,decide_eq_false_iff_not] at h
  have hs0:0 < s.length:=yf.2 h.1
  have ht0:0 < t.length:=yf.2 h.2
  simp only [ZZ,WW,Ze,reduceCtorEq,zd,ze,za,zf,zb]
  refine useS (qb4 l k _ (by omega) hl (by omega)) rfl rfl rfl zE_ ?_
  rintro x cs' ⟨y,rfl,rfl⟩
  obtain ⟨i,hi,hy⟩:=qdW y s.length hs0
  rw [hy]
  simp only [ZZ,WW,Ze,reduceCtorEq,zd,ze,za,zf,zb]
  refine useS (qb4 l (k+1) _ (by omega) hl (by omega)) rfl rfl rfl zE_ ?_
  rintro x cs' ⟨y2,rfl,rfl⟩
  obtain ⟨j,hj,hy2⟩:=qdW y2 t.length ht0
  rw [hy2]
  simp only [ZZ,WW,Ze,reduceCtorEq,zd,ze,za,zf,zb]
  ((repeat' (with_reducible apply And.intro))<;>try ((exact sc_)))
  refine useS (qb4 l (k+1+1) _ (by omega) hl (by decide)) rfl rfl rfl zE_ ?_
  rintro x cs' ⟨y3,rfl,rfl⟩
  have hE4:=qxR (IntKind.i32.wrap (((t.getD j 0).toNat:Nat):Int))
  have l1:(s.take i).length≤s.length:=by simp;omega
  have l2:∀ q,(s.drop q).length≤s.length:=by intro q;simp
  generalize qer y3 3=z at *
  simp only [ZZ,WW,Ze,reduceCtorEq,zd,ze,za,zf,zb]
  refine br ?_ ?_
  ·intro _
   simp only [ZZ,WW,Ze,reduceCtorEq,zd,ze,za,zf,zb]
   refine drg0 ?_
   simp only [ZZ,WW,Ze,reduceCtorEq,zd,ze,za,zf,zb]
   ((repeat' (with_reducible apply And.intro))<;>try ((exact sc_)))
   all_goals first
    |exact qfU (stm l (k+1+1+1)) rfl ⟨_,_,rfl,by simp only [zx,zR,zQ];omega,rfl,by omega⟩
    |(simp only [zx,zR,zQ];omega)
  ·intro _
   simp only [ZZ,WW,Ze,reduceCtorEq,zd,ze,za,zf,zb]
   refine br ?_ ?_
   ·intro _
    simp only [ZZ,WW,Ze,reduceCtorEq,zd,ze,za,zf,zb]
    refine drg0 ?_
    simp only [ZZ,WW,Ze,reduceCtorEq,zd,ze,za,zf,zb]
    ((repeat' (with_reducible apply And.intro))<;>try ((exact sc_)))
    all_goals first
     |exact qfU (stm l (k+1+1+1)) rfl ⟨_,_,rfl,by simp only [zx,zR,zQ];omega,rfl,by omega⟩
     |(simp only [zx,zR,zQ];omega)
   ·intro _
    simp only [ZZ,WW,Ze,reduceCtorEq,zd,ze,za,zf,zb]
    refine drg0 ?_
    simp only [ZZ,WW,Ze,reduceCtorEq,zd,ze,za,zf,zb]
    ((repeat' (with_reducible apply And.intro))<;>try ((exact sc_)))
    all_goals first
     |exact qfU (stm l (k+1+1+1)) rfl ⟨_,_,rfl,by simp only [zx,zR,zQ];omega,rfl,by omega⟩
     |(simp only [zx,zR,zQ];omega)
end
end Go.Proofs.YtjgdjinhkgjpeaaGreatDoor
