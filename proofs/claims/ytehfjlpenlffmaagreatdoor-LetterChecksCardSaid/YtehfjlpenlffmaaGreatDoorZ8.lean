import Derived.Test.YtehfjlpenlffmaaGreatDoorZ7
import Derived.Test.YtehfjlpenlffmaaGreatDoorLayTrimRight
import Derived.Test.YtehfjlpenlffmaaGreatDoorZ4
import Derived.Test.YtehfjlpenlffmaaGreatDoorZ5
import Derived.WalkKit
import Derived.OwnWalk
import Derived.Lib.Builder
import Derived.Laws.Externs
import Derived.Maps.AppendAt
import Derived.Shelf.RegionOpenPlain
import Derived.Lib.Strings
import Derived.Lib.Slices
import Derived.Lib.Walk
import Derived.Lib.MakeNoZero
import Derived.Laws.IdiomCopy
import Derived.Laws.BitsLemmas
import Derived.KernelRfl
import Derived.Lib.Join
import Derived.Test.YtehfjlpenlffmaaGreatDoorZ6
import Derived.Lib.ValidLaws
import Derived.Test.YtehfjlpenlffmaaGreatDoorLayDecode
set_option linter.unusedVariables false
set_option linter.unusedSimpArgs false
set_option linter.defProp false
namespace Go.Proofs.YtehfjlpenlffmaaGreatDoor
open Go.RowKit
def ir_internal_stringslite_HasPrefix:IC:=(.seq (.reg [qO 4 (.mov (.c (.bool false)))]) (.seq (.reg [qM 5 0,qO 6 (.sln (.t 5)),qM 7 1,qO 8 (.sln (.t 7)),qO 9 (.bin .geq (.t 6) (.t 8)),qM 10 9,⟨some 11,.mov (.t 0),(some (10,true))⟩,⟨some 12,.mov (.t 1),(some (10,true))⟩,⟨some 13,.sln (.t 12),(some (10,true))⟩,⟨some 14,.ssl (.t 11) none (some (.t 13)),(some (10,true))⟩,⟨some 15,.mov (.t 1),(some (10,true))⟩,⟨some 16,.bin .eql (.t 14) (.t 15),(some (10,true))⟩,qO 17 (.pick (.t 10) (.t 16) (.c (.bool false))),qM 4 17]) .ret))
def rs_internal_stringslite_HasPrefix:List IRes:=[.t 4]
theorem ck_internal_stringslite_HasPrefix:chkF Tryz.prog Tryz.f205 ir_internal_stringslite_HasPrefix rs_internal_stringslite_HasPrefix 18=true:=by kernel_rfl
def ir_internal_stringslite_CutSuffix:IC:=(.seq (.reg [qO 4 (.mov (.c (.str []))),qO 5 (.mov (.c (.bool false)))]) (.seq (.seq (.reg [qM 6 0,qM 7 1,qO 8 (.call 245 [.t 6,.t 7]),qO 9 (.not (.t 8))]) (.cond (.t 9) (.seq (.reg [qM 10 0,qM 4 10,qO 5 (.mov (.c (.bool false)))]) .ret) .skip)) (.seq (.reg [qM 11 0,qM 12 0,qO 13 (.sln (.t 12)),qM 14 1,qO 15 (.sln (.t 14)),qO 16 (.bin .sub (.t 13) (.t 15)),qO 17 (.ssl (.t 11) none (some (.t 16))),qM 4 17,qO 5 (.mov (.c (.bool true)))]) .ret)))
def rs_internal_stringslite_CutSuffix:List IRes:=[.t 4,.t 5]
theorem ck_internal_stringslite_CutSuffix:chkF Tryz.prog Tryz.f306 ir_internal_stringslite_CutSuffix rs_internal_stringslite_CutSuffix 18=true:=by kernel_rfl
def ir_strings_CutSuffix:IC:=(.seq (.reg [qO 4 (.mov (.c (.str []))),qO 5 (.mov (.c (.bool false)))]) (.seq (.reg [qM 6 0,qM 7 1,qO 8 (.call 306 [.t 6,.t 7]),qO 9 (.ext 0 (.t 8)),qO 10 (.ext 1 (.t 8)),qM 4 9,qM 5 10]) .ret))
def rs_strings_CutSuffix:List IRes:=[.t 4,.t 5]
theorem ck_strings_CutSuffix:chkF Tryz.prog Tryz.f252 ir_strings_CutSuffix rs_strings_CutSuffix 11=true:=by kernel_rfl
def ir_internal_stringslite_CutPrefix:IC:=(.seq (.reg [qO 4 (.mov (.c (.str []))),qO 5 (.mov (.c (.bool false)))]) (.seq (.seq (.reg [qM 6 0,qM 7 1,qO 8 (.call 205 [.t 6,.t 7]),qO 9 (.not (.t 8))]) (.cond (.t 9) (.seq (.reg [qM 10 0,qM 4 10,qO 5 (.mov (.c (.bool false)))]) .ret) .skip)) (.seq (.reg [qM 11 0,qM 12 1,qO 13 (.sln (.t 12)),qO 14 (.ssl (.t 11) (some (.t 13)) none),qM 4 14,qO 5 (.mov (.c (.bool true)))]) .ret)))
def rs_internal_stringslite_CutPrefix:List IRes:=[.t 4,.t 5]
theorem ck_internal_stringslite_CutPrefix:chkF Tryz.prog Tryz.f307 ir_internal_stringslite_CutPrefix rs_internal_stringslite_CutPrefix 15=true:=by kernel_rfl
def ir_strings_CutPrefix:IC:=(.seq (.reg [qO 4 (.mov (.c (.str []))),qO 5 (.mov (.c (.bool false)))]) (.seq (.reg [qM 6 0,qM 7 1,qO 8 (.call 307 [.t 6,.t 7]),qO 9 (.ext 0 (.t 8)),qO 10 (.ext 1 (.t 8)),qM 4 9,qM 5 10]) .ret))
def rs_strings_CutPrefix:List IRes:=[.t 4,.t 5]
theorem ck_strings_CutPrefix:chkF Tryz.prog Tryz.f254 ir_strings_CutPrefix rs_strings_CutPrefix 11=true:=by kernel_rfl
def ir_base_Plain:IC:=(.seq (.reg [qO 2 (.mov (.c (.bool false)))]) (.seq (.reg [qM 3 0,qO 4 (.call 141 [.t 3,.c (.bool false)]),qM 5 4,⟨some 6,.mov (.t 0),(some (5,true))⟩,⟨some 7,.call 132 [.t 6,.c (.str [32])],(some (5,true))⟩,⟨some 8,.not (.t 7),(some (5,true))⟩,qO 9 (.pick (.t 5) (.t 8) (.c (.bool false))),qM 10 9,⟨some 11,.mov (.t 0),(some (10,true))⟩,⟨some 12,.call 185 [.t 11,.c (.str [32])],(some (10,true))⟩,⟨some 13,.not (.t 12),(some (10,true))⟩,qO 14 (.pick (.t 10) (.t 13) (.c (.bool false))),qM 15 14,⟨some 16,.mov (.t 0),(some (15,true))⟩,⟨some 17,.call 156 [.t 16,.c (.str [32,32])],(some (15,true))⟩,⟨some 18,.not (.t 17),(some (15,true))⟩,qO 19 (.pick (.t 15) (.t 18) (.c (.bool false))),qM 2 19]) .ret))
def rs_base_Plain:List IRes:=[.t 2]
theorem ck_base_Plain:chkF Tryz.prog Tryz.f108 ir_base_Plain rs_base_Plain 20=true:=by kernel_rfl
def ir_strings_ContainsAny:IC:=(.seq (.reg [qO 4 (.mov (.c (.bool false)))]) (.seq (.reg [qM 5 0,qM 6 1,qO 7 (.call 292 [.t 5,.t 6]),qO 8 (.bin .geq (.t 7) (.c (.int .i64 0))),qM 4 8]) .ret))
def rs_strings_ContainsAny:List IRes:=[.t 4]
theorem ck_strings_ContainsAny:chkF Tryz.prog Tryz.f240 ir_strings_ContainsAny rs_strings_ContainsAny 9=true:=by kernel_rfl
def ir_thread_isName:IC:=(.seq (.reg [qO 2 (.mov (.c (.bool false)))]) (.seq (.reg [qM 3 0,qO 4 (.sln (.t 3)),qO 5 (.bin .leq (.t 4) (.c (.int .i64 60))),qM 6 5,⟨some 7,.mov (.t 0),(some (6,true))⟩,⟨some 8,.call 108 [.t 7],(some (6,true))⟩,qO 9 (.pick (.t 6) (.t 8) (.c (.bool false))),qM 10 9,⟨some 11,.mov (.t 0),(some (10,true))⟩,⟨some 12,.call 240 [.t 11,.c (.str [34,60,62,44,59])],(some (10,true))⟩,⟨some 13,.not (.t 12),(some (10,true))⟩,qO 14 (.pick (.t 10) (.t 13) (.c (.bool false))),qM 2 14]) .ret))
def rs_thread_isName:List IRes:=[.t 2]
theorem ck_thread_isName:chkF Tryz.prog Tryz.f183 ir_thread_isName rs_thread_isName 15=true:=by kernel_rfl
def ir_thread_right:IC:=(.seq (.reg [qO 1 (.box 56 (.t 0)),qO 2 (.mov (.c (.bool false)))]) (.seq (.reg [qO 3 (.fla 0 (.t 1)),qO 4 (.ld 1 false (.t 3)),qO 5 (.call 183 [.t 4]),qM 6 5,⟨some 7,.fla 1 (.t 1),(some (6,true))⟩,⟨some 8,.ld 1 false (.t 7),(some (6,true))⟩,⟨some 9,.call 184 [.t 8],(some (6,true))⟩,qO 10 (.pick (.t 6) (.t 9) (.c (.bool false))),qM 2 10]) .ret))
def rs_thread_right:List IRes:=[.t 2]
theorem ck_thread_right:chkF Tryz.prog Tryz.f107 ir_thread_right rs_thread_right 11=true:=by kernel_rfl
def ir_thread_address:IC:=(.seq (.reg [qO 2 (.alc 56 [.str [],.str []]),qO 3 (.mov (.c (.bool false)))]) (.seq (.reg [qM 19 0,qO 20 (.call 155 [.t 19,.c (.str [32])]),qM 4 20]) (.seq (.reg [qM 22 4,qO 23 (.call 241 [.t 22,.c (.str [60])]),qM 21 23,qO 24 (.ext 0 (.t 21)),qO 25 (.ext 1 (.t 21)),qO 26 (.ext 2 (.t 21)),qM 5 24,qM 6 25,qM 7 26]) (.seq (.seq (.reg [qM 27 7,qO 28 (.not (.t 27))]) (.cond (.t 28) (.seq (.reg [qM 29 4,qO 30 (.call 251 [.t 29]),qO 31 (.bld [.str [],.str []] [(1,1,.t 30)]),qO 8 (.alc 56 [.str [],.str []]),⟨none,.st 2 (.t 8) (.t 31),none⟩]) (.seq (.drg [qO 32 (.ld 2 true (.t 8)),qO 33 (.ld 2 true (.t 8)),qO 34 (.pcall 0 107 [.t 33]),⟨none,.st 2 (.t 2) (.t 32),none⟩,qM 3 34]) .ret)) .skip)) (.seq (.reg [qM 36 6,qO 37 (.call 252 [.t 36,.c (.str [62])]),qM 35 37,qO 38 (.ext 0 (.t 35)),qO 39 (.ext 1 (.t 35)),qM 6 38,qM 9 39]) (.seq (.reg [qM 40 6,qO 41 (.call 251 [.t 40]),qO 42 (.bld [.str [],.str []] [(1,1,.t 41)]),qO 10 (.alc 56 [.str [],.str []]),⟨none,.st 2 (.t 10) (.t 42),none⟩]) (.seq (.seq (.reg [qM 43 5,qO 44 (.bin .eql (.t 43) (.c (.str [])))]) (.cond (.t 44) (.seq (.drg [qO 45 (.ld 2 true (.t 10)),qM 46 9,qM 47 46,⟨some 48,.ld 2 true (.t 10),(some (47,true))⟩,⟨some 49,.pcall 0 107 [.t 48],(some (47,true))⟩,qO 50 (.pick (.t 47) (.t 49) (.c (.bool false))),⟨none,.st 2 (.t 2) (.t 45),none⟩,qM 3 50]) .ret) .skip)) (.seq (.reg [qM 51 5,qO 52 (.call 253 [.t 51,.c (.str [32])]),qM 11 52]) (.seq (.seq (.reg [qM 53 11,qM 54 5,qO 55 (.bin .eql (.t 53) (.t 54))]) (.cond (.t 55) (.seq (.reg [qO 56 (.ld 2 true (.t 10)),⟨none,.st 2 (.t 2) (.t 56),none⟩,qO 3 (.mov (.c (.bool false)))]) .ret) .skip)) (.seq (.seq (.reg [qM 58 11,qO 59 (.call 254 [.t 58,.c (.str [34])]),qM 57 59,qO 60 (.ext 0 (.t 57)),qO 61 (.ext 1 (.t 57)),qM 12 60,qM 13 61]) (.seq (.reg [qM 62 13]) (.cond (.t 62) (.seq (.reg [qM 64 12,qO 65 (.call 252 [.t 64,.c (.str [34])]),qM 63 65,qO 66 (.ext 0 (.t 63)),qO 67 (.ext 1 (.t 63)),qM 14 66,qM 15 67]) (.seq (.seq (.reg [qM 68 15,qO 69 (.not (.t 68))]) (.cond (.t 69) (.seq (.reg [qO 70 (.ld 2 true (.t 10)),⟨none,.st 2 (.t 2) (.t 70),none⟩,qO 3 (.mov (.c (.bool false)))]) .ret) .skip)) (.seq (.reg [qM 71 14,qM 11 71]) (.seq (.reg [qM 73 14,qO 74 (.call 241 [.t 73,.c (.str [44,32])]),qM 72 74,qO 75 (.ext 0 (.t 72)),qO 76 (.ext 1 (.t 72)),qO 77 (.ext 2 (.t 72)),qM 16 75,qM 17 76,qM 18 77]) (.seq (.reg [qM 78 18,qM 79 78,⟨some 80,.mov (.t 16),(some (79,true))⟩,⟨some 81,.bin .neq (.t 80) (.c (.str [])),(some (79,true))⟩,qO 82 (.pick (.t 79) (.t 81) (.c (.bool false))),qM 83 82,⟨some 84,.mov (.t 17),(some (83,true))⟩,⟨some 85,.bin .neq (.t 84) (.c (.str [])),(some (83,true))⟩,qO 86 (.pick (.t 83) (.t 85) (.c (.bool false)))]) (.cond (.t 86) (.reg [qM 87 17,qO 88 (.bin .add (.t 87) (.c (.str [32]))),qM 89 16,qO 90 (.bin .add (.t 88) (.t 89)),qM 11 90]) .skip)))))) .skip))) (.cut (.seq (.reg [qM 91 11,qO 92 (.fla 0 (.t 10)),⟨none,.st 1 (.t 92) (.t 91),none⟩]) (.seq (.drg [qO 93 (.ld 2 true (.t 10)),qM 94 9,qM 95 94,⟨some 96,.mov (.t 11),(some (95,true))⟩,⟨some 97,.bin .neq (.t 96) (.c (.str [])),(some (95,true))⟩,qO 98 (.pick (.t 95) (.t 97) (.c (.bool false))),qM 99 98,⟨some 100,.ld 2 true (.t 10),(some (99,true))⟩,⟨some 101,.pcall 0 107 [.t 100],(some (99,true))⟩,qO 102 (.pick (.t 99) (.t 101) (.c (.bool false))),⟨none,.st 2 (.t 2) (.t 93),none⟩,qM 3 102]) .ret)))))))))))))
def rs_thread_address:List IRes:=[.c 2 2 true,.t 3]
theorem ck_thread_address:chkF Tryz.prog Tryz.f193 ir_thread_address rs_thread_address 103=true:=by kernel_rfl
def ir_thread_Address:IC:=(.seq (.reg [qO 2 (.alc 56 [.str [],.str []]),qO 3 (.mov (.c (.int .i64 0)))]) (.seq (.seq (.reg [qM 6 0,qO 7 (.sln (.t 6)),qO 8 (.bin .gtr (.t 7) (.c (.int .i64 500)))]) (.cond (.t 8) (.seq (.reg [qO 9 (.bld [.str [],.str []] []),⟨none,.st 2 (.t 2) (.t 9),none⟩,qO 3 (.mov (.c (.int .i64 2)))]) .ret) .skip)) (.seq (.reg [qM 11 0,qO 12 (.call 193 [.t 11]),qM 10 12,qO 13 (.ext 0 (.t 10)),qO 14 (.ext 1 (.t 10)),qO 4 (.alc 56 [.str [],.str []]),⟨none,.st 2 (.t 4) (.t 13),none⟩,qM 5 14]) (.seq (.seq (.reg [qM 15 5,qO 16 (.not (.t 15))]) (.cond (.t 16) (.seq (.reg [qO 17 (.bld [.str [],.str []] []),⟨none,.st 2 (.t 2) (.t 17),none⟩,qO 3 (.mov (.c (.int .i64 9)))]) .ret) .skip)) (.seq (.reg [qO 18 (.ld 2 true (.t 4)),⟨none,.st 2 (.t 2) (.t 18),none⟩,qO 3 (.mov (.c (.int .i64 0)))]) .ret)))))
def rs_thread_Address:List IRes:=[.c 2 2 true,.t 3]
theorem ck_thread_Address:chkF Tryz.prog Tryz.f117 ir_thread_Address rs_thread_Address 19=true:=by kernel_rfl
def ir_chaselaw1_threads:IC:=(.seq (.reg [qO 0 (.mov (.c (.bool false)))]) (.seq (.reg [qO 4 (.call 117 [.c (.str [65,110,110,32,60,97,64,98,46,100,101,62])]),qM 3 4,qO 5 (.ext 0 (.t 3)),qO 6 (.ext 1 (.t 3)),qO 1 (.alc 56 [.str [],.str []]),⟨none,.st 2 (.t 1) (.t 5),none⟩,qM 2 6]) (.seq (.reg [qM 7 2,qO 8 (.bin .eql (.t 7) (.c (.int .i64 0))),qM 9 8,⟨some 10,.ld 2 true (.t 1),(some (9,true))⟩,⟨some 11,.bld [.str [],.str []] [(0,1,.c (.str [65,110,110])),(1,1,.c (.str [97,64,98,46,100,101]))],(some (9,true))⟩,⟨some 12,.eqa false [.s,.s] (.t 10) (.t 11),(some (9,true))⟩,qO 13 (.pick (.t 9) (.t 12) (.c (.bool false))),qM 0 13]) .ret)))
def rs_chaselaw1_threads:List IRes:=[.t 0]
theorem ck_chaselaw1_threads:chkF Tryz.prog Tryz.f33 ir_chaselaw1_threads rs_chaselaw1_threads 14=true:=by kernel_rfl
section
variable {E:Envt}
theorem TrimRightSet_ok (s cs:List UInt8) (hs:s.length≤1000000000) (hcs:cs.length≤1000000) (h2:asc cs=true):PCall Tryz.prog E 253 [.str s,.str cs] (·=.str (Lib.trimRightS s cs)):=
 pcall_flat rfl rfl fun w _=>(Any.strings_TrimRight_laid Tryz.layTrimRight (by kernel_rfl) ⟨s.toArray⟩ ⟨cs.toArray⟩ w (by rw [ba_size];omega) (by rw [ba_size];omega) (asc_at h2)).mono fun e w' h=>⟨h.1,grow_below h.2⟩
def cutSufF (s p:List UInt8):List UInt8×Bool:=if sufE s p=true then (s.take (s.length - p.length),true) else (s,false)
def cutPreF (s p:List UInt8):List UInt8×Bool:=if Lib.hasPrefix s p=true then (s.drop p.length,true) else (s,false)
theorem CutSuffixL_ok (s p:List UInt8) (hs:s.length≤1000000000) (hp:p.length≤1000000000):PCall Tryz.prog E 306 [.str s,.str p] (·=.tup [.str (cutSufF s p).1,.bool (cutSufF s p).2]):=by
 refine pcallF mixed Tryz.func306 ck_internal_stringslite_CutSuffix ?_
 simp only [a0,l0,OS.ao,List.map_cons,List.map_nil,List.length_cons,List.length_nil,List.cons_append,List.nil_append,Nat.reduceSub,Nat.reduceAdd,List.replicate_succ,List.replicate_zero,ir_internal_stringslite_CutSuffix,rs_internal_stringslite_CutSuffix,ZZ,WW,Ze,reduceCtorEq,Nat.reduceAdd,Nat.reduceMul,Nat.reduceLeDiff,Nat.reduceLT,Nat.reduceEqDiff]
 refine use1 (sHasSuffix_ok s p (by omega)) rfl (.inl rfl) ?_
 simp only [ZZ,WW,Ze,reduceCtorEq,Nat.reduceAdd,Nat.reduceMul,Nat.reduceLeDiff,Nat.reduceLT,Nat.reduceEqDiff]
 unfold cutSufF
 refine br ?_ ?_
 ·intro h
  have h:sufE s p=false:=by rwa [Bool.not_eq_true'] at h
  simp only [ZZ,WW,Ze,reduceCtorEq,Nat.reduceAdd,Nat.reduceMul,Nat.reduceLeDiff,Nat.reduceLT,Nat.reduceEqDiff]
  rw [if_neg (by simp [h])]
 ·intro h
  have h:sufE s p=true:=by rwa [Bool.not_eq_false'] at h
  have hb:p.length≤s.length:=by
   have:=of_decide_eq_true (Bool.and_eq_true_iff.1 h).1
   omega
  have e:((s.length:Int) - p.length).toNat=s.length - p.length:=by omega
  simp only [ZZ,WW,Ze,reduceCtorEq,Nat.reduceAdd,Nat.reduceMul,Nat.reduceLeDiff,Nat.reduceLT,Nat.reduceEqDiff,e]
  refine ⟨i64_of (by omega) (by omega),⟨by omega,by omega⟩,?_⟩
  rw [if_pos h]
theorem CutSuffix_ok (s p:List UInt8) (hs:s.length≤1000000000) (hp:p.length≤1000000000):PCall Tryz.prog E 252 [.str s,.str p] (·=.tup [.str (cutSufF s p).1,.bool (cutSufF s p).2]):=by
 refine pcallF mixed Tryz.func252 ck_strings_CutSuffix ?_
 simp only [a0,l0,OS.ao,List.map_cons,List.map_nil,List.length_cons,List.length_nil,List.cons_append,List.nil_append,Nat.reduceSub,Nat.reduceAdd,List.replicate_succ,List.replicate_zero,ir_strings_CutSuffix,rs_strings_CutSuffix,ZZ,WW,Ze,reduceCtorEq,Nat.reduceAdd,Nat.reduceMul,Nat.reduceLeDiff,Nat.reduceLT,Nat.reduceEqDiff]
 refine use1 (CutSuffixL_ok s p hs hp) rfl (.inl rfl) ?_
 simp only [ZZ,WW,Ze,reduceCtorEq,Nat.reduceAdd,Nat.reduceMul,Nat.reduceLeDiff,Nat.reduceLT,Nat.reduceEqDiff]
theorem hasPrefix_len {s p:List UInt8} (h:Lib.hasPrefix s p=true):p.length≤s.length:=by
 unfold Lib.hasPrefix at h
 simp at h
 first|exact (List.IsPrefix.length_le (List.isPrefixOf_iff_prefix.1 h))|exact h.length_le|omega
theorem preE_eq (s p:List UInt8):(decide ((p.length:Int)≤s.length) && decide (s.take p.length=p))=Lib.hasPrefix s p:=by
 rw [Bool.eq_iff_iff]
 unfold Lib.hasPrefix
 rw [List.isPrefixOf_iff_prefix,List.prefix_iff_eq_take]
 simp only [Bool.and_eq_true,decide_eq_true_eq]
 constructor
 ·rintro ⟨_,h⟩;exact h.symm
 ·intro h
  have:=congrArg List.length h
  simp at this
  exact ⟨by omega,h.symm⟩
theorem sHasPrefix_ok (s p:List UInt8) (hs:s.length≤1000000000):PCall Tryz.prog E 205 [.str s,.str p] (·=.bool (Lib.hasPrefix s p)):=by
 rw [← preE_eq]
 refine pcallF mixed Tryz.func205 ck_internal_stringslite_HasPrefix ?_
 simp only [a0,l0,OS.ao,List.map_cons,List.map_nil,List.length_cons,List.length_nil,List.cons_append,List.nil_append,Nat.reduceSub,Nat.reduceAdd,List.replicate_succ,List.replicate_zero,ir_internal_stringslite_HasPrefix,rs_internal_stringslite_HasPrefix,ZZ,WW,Ze,reduceCtorEq,Nat.reduceAdd,Nat.reduceMul,Nat.reduceLeDiff,Nat.reduceLT,Nat.reduceEqDiff]
 ((repeat' (with_reducible apply And.intro))<;>try ((exact sc_)))
theorem CutPrefixL_ok (s p:List UInt8) (hs:s.length≤1000000000) (hp:p.length≤1000000000):PCall Tryz.prog E 307 [.str s,.str p] (·=.tup [.str (cutPreF s p).1,.bool (cutPreF s p).2]):=by
 refine pcallF mixed Tryz.func307 ck_internal_stringslite_CutPrefix ?_
 simp only [a0,l0,OS.ao,List.map_cons,List.map_nil,List.length_cons,List.length_nil,List.cons_append,List.nil_append,Nat.reduceSub,Nat.reduceAdd,List.replicate_succ,List.replicate_zero,ir_internal_stringslite_CutPrefix,rs_internal_stringslite_CutPrefix,ZZ,WW,Ze,reduceCtorEq,Nat.reduceAdd,Nat.reduceMul,Nat.reduceLeDiff,Nat.reduceLT,Nat.reduceEqDiff]
 refine use1 (sHasPrefix_ok s p hs) rfl (.inl rfl) ?_
 simp only [ZZ,WW,Ze,reduceCtorEq,Nat.reduceAdd,Nat.reduceMul,Nat.reduceLeDiff,Nat.reduceLT,Nat.reduceEqDiff]
 unfold cutPreF
 refine br ?_ ?_
 ·intro h
  have h:Lib.hasPrefix s p=false:=by rwa [Bool.not_eq_true'] at h
  simp only [ZZ,WW,Ze,reduceCtorEq,Nat.reduceAdd,Nat.reduceMul,Nat.reduceLeDiff,Nat.reduceLT,Nat.reduceEqDiff]
  rw [if_neg (by simp [h])]
 ·intro h
  have h:Lib.hasPrefix s p=true:=by rwa [Bool.not_eq_false'] at h
  have hb:=hasPrefix_len h
  simp only [ZZ,WW,Ze,reduceCtorEq,Nat.reduceAdd,Nat.reduceMul,Nat.reduceLeDiff,Nat.reduceLT,Nat.reduceEqDiff]
  refine ⟨⟨by omega,by omega⟩,?_⟩
  rw [if_pos h]
  try simp
theorem CutPrefix_ok (s p:List UInt8) (hs:s.length≤1000000000) (hp:p.length≤1000000000):PCall Tryz.prog E 254 [.str s,.str p] (·=.tup [.str (cutPreF s p).1,.bool (cutPreF s p).2]):=by
 refine pcallF mixed Tryz.func254 ck_strings_CutPrefix ?_
 simp only [a0,l0,OS.ao,List.map_cons,List.map_nil,List.length_cons,List.length_nil,List.cons_append,List.nil_append,Nat.reduceSub,Nat.reduceAdd,List.replicate_succ,List.replicate_zero,ir_strings_CutPrefix,rs_strings_CutPrefix,ZZ,WW,Ze,reduceCtorEq,Nat.reduceAdd,Nat.reduceMul,Nat.reduceLeDiff,Nat.reduceLT,Nat.reduceEqDiff]
 refine use1 (CutPrefixL_ok s p hs hp) rfl (.inl rfl) ?_
 simp only [ZZ,WW,Ze,reduceCtorEq,Nat.reduceAdd,Nat.reduceMul,Nat.reduceLeDiff,Nat.reduceLT,Nat.reduceEqDiff]
theorem ContainsAny_ok (s cs:List UInt8) (hs:s.length≤1000000000) (hcs:cs.length≤1000000) (h2:asc cs=true):PCall Tryz.prog E 240 [.str s,.str cs] (·=.bool (decide (0≤Lib.indexAny s cs))):=by
 refine pcallF mixed Tryz.func240 ck_strings_ContainsAny ?_
 simp only [a0,l0,OS.ao,List.map_cons,List.map_nil,List.length_cons,List.length_nil,List.cons_append,List.nil_append,Nat.reduceSub,Nat.reduceAdd,List.replicate_succ,List.replicate_zero,ir_strings_ContainsAny,rs_strings_ContainsAny,ZZ,WW,Ze,reduceCtorEq,Nat.reduceAdd,Nat.reduceMul,Nat.reduceLeDiff,Nat.reduceLT,Nat.reduceEqDiff]
 refine use1 (IndexAny_ok s cs hs hcs h2) rfl (.inl rfl) ?_
 simp only [ZZ,WW,Ze,reduceCtorEq,Nat.reduceAdd,Nat.reduceMul,Nat.reduceLeDiff,Nat.reduceLT,Nat.reduceEqDiff]
end
def plainB (s:List UInt8):Bool:=((visE s false && !Lib.hasPrefix s [32]) && !sufE s [32]) && !decide (0≤Lib.index s [32,32])
theorem Plain_ok (s:List UInt8) (hs:s.length≤1000000000):PCall Tryz.prog E0 108 [.str s] (·=.bool (plainB s)):=by
 refine pcallF mixed Tryz.func108 ck_base_Plain ?_
 simp only [a0,l0,OS.ao,List.map_cons,List.map_nil,List.length_cons,List.length_nil,List.cons_append,List.nil_append,Nat.reduceSub,Nat.reduceAdd,List.replicate_succ,List.replicate_zero,ir_base_Plain,rs_base_Plain,ZZ,WW,Ze,reduceCtorEq,Nat.reduceAdd,Nat.reduceMul,Nat.reduceLeDiff,Nat.reduceLT,Nat.reduceEqDiff]
 refine use1 (Visible_ok s false hs) rfl (.inl rfl) ?_
 simp only [ZZ,WW,Ze,reduceCtorEq,Nat.reduceAdd,Nat.reduceMul,Nat.reduceLeDiff,Nat.reduceLT,Nat.reduceEqDiff]
 refine useG (fun _=>HasPrefix_ok s [32]) rfl (.inl rfl) ?_
 simp only [ZZ,WW,Ze,reduceCtorEq,Nat.reduceAdd,Nat.reduceMul,Nat.reduceLeDiff,Nat.reduceLT,Nat.reduceEqDiff]
 refine useG (fun _=>HasSuffix_ok s [32] (by omega)) rfl (.inl rfl) ?_
 simp only [ZZ,WW,Ze,reduceCtorEq,Nat.reduceAdd,Nat.reduceMul,Nat.reduceLeDiff,Nat.reduceLT,Nat.reduceEqDiff]
 refine useG (fun _=>Contains_ok s [32,32] hs) rfl (.inl rfl) ?_
 simp only [ZZ,WW,Ze,reduceCtorEq,Nat.reduceAdd,Nat.reduceMul,Nat.reduceLeDiff,Nat.reduceLT,Nat.reduceEqDiff]
 ((repeat' (with_reducible apply And.intro))<;>try ((exact sc_)))
def nameS:List UInt8:=[34,60,62,44,59]
def nameB (s:List UInt8):Bool:=(decide ((s.length:Int)≤60) && plainB s) && !decide (0≤Lib.indexAny s nameS)
theorem isName_ok (s:List UInt8) (hs:s.length≤1000000000):PCall Tryz.prog E0 183 [.str s] (·=.bool (nameB s)):=by
 refine pcallF mixed Tryz.func183 ck_thread_isName ?_
 simp only [a0,l0,OS.ao,List.map_cons,List.map_nil,List.length_cons,List.length_nil,List.cons_append,List.nil_append,Nat.reduceSub,Nat.reduceAdd,List.replicate_succ,List.replicate_zero,ir_thread_isName,rs_thread_isName,ZZ,WW,Ze,reduceCtorEq,Nat.reduceAdd,Nat.reduceMul,Nat.reduceLeDiff,Nat.reduceLT,Nat.reduceEqDiff]
 refine useG (fun _=>Plain_ok s (by omega)) rfl (.inl rfl) ?_
 simp only [ZZ,WW,Ze,reduceCtorEq,Nat.reduceAdd,Nat.reduceMul,Nat.reduceLeDiff,Nat.reduceLT,Nat.reduceEqDiff]
 refine useG (fun _=>ContainsAny_ok s nameS hs (by decide) (by decide)) rfl (.inl rfl) ?_
 simp only [ZZ,WW,Ze,reduceCtorEq,Nat.reduceAdd,Nat.reduceMul,Nat.reduceLeDiff,Nat.reduceLT,Nat.reduceEqDiff]
 ((repeat' (with_reducible apply And.intro))<;>try ((exact sc_)))
theorem right_ok (n m:List UInt8) (hn:n.length≤1000000000) (hm:m.length≤1000000000):PCall Tryz.prog E0 107 [.agg [.str n,.str m]] (·=.bool (nameB n && mailF m)):=by
 refine pcallF mixed Tryz.func107 ck_thread_right ?_
 simp only [a0,l0,OS.ao,List.map_cons,List.map_nil,List.length_cons,List.length_nil,List.cons_append,List.nil_append,Nat.reduceSub,Nat.reduceAdd,List.replicate_succ,List.replicate_zero,ir_thread_right,rs_thread_right,ZZ,WW,Ze,reduceCtorEq,Nat.reduceAdd,Nat.reduceMul,Nat.reduceLeDiff,Nat.reduceLT,Nat.reduceEqDiff]
 refine use1 (isName_ok n hn) rfl (.inl rfl) ?_
 simp only [ZZ,WW,Ze,reduceCtorEq,Nat.reduceAdd,Nat.reduceMul,Nat.reduceLeDiff,Nat.reduceLT,Nat.reduceEqDiff]
 refine useG (fun _=>IsMail_ok m (by omega)) rfl (.inl rfl) ?_
 simp only [ZZ,WW,Ze,reduceCtorEq,Nat.reduceAdd,Nat.reduceMul,Nat.reduceLeDiff,Nat.reduceLT,Nat.reduceEqDiff]
def annS:List UInt8:=[65,110,110,32,60,97,64,98,46,100,101,62]
theorem address_ann:PCall Tryz.prog E0 193 [.str annS] (·=.tup [.agg [.str [65,110,110],.str [97,64,98,46,100,101]],.bool true]):=by
 refine pcallF mixed Tryz.func193 ck_thread_address ?_
 simp only [a0,l0,OS.ao,List.map_cons,List.map_nil,List.length_cons,List.length_nil,List.cons_append,List.nil_append,Nat.reduceSub,Nat.reduceAdd,List.replicate_succ,List.replicate_zero,ir_thread_address,rs_thread_address,ZZ,WW,Ze,reduceCtorEq,Nat.reduceAdd,Nat.reduceMul,Nat.reduceLeDiff,Nat.reduceLT,Nat.reduceEqDiff]
 refine use1 (TrimSet_ok annS [32] (by decide) (by decide) (by decide)) rfl (.inl rfl) ?_
 rw [show Lib.trimS annS [32]=annS from by decide +kernel]
 simp only [ZZ,WW,Ze,reduceCtorEq,Nat.reduceAdd,Nat.reduceMul,Nat.reduceLeDiff,Nat.reduceLT,Nat.reduceEqDiff]
 refine use1 (Cut_ok annS [60] (by decide)) rfl (.inl rfl) ?_
 rw [show cutF annS [60]=([65,110,110,32],[97,64,98,46,100,101,62],true) from by decide +kernel]
 simp only [ZZ,WW,Ze,reduceCtorEq,Nat.reduceAdd,Nat.reduceMul,Nat.reduceLeDiff,Nat.reduceLT,Nat.reduceEqDiff]
 refine use1 (CutSuffix_ok [97,64,98,46,100,101,62] [62] (by decide) (by decide)) rfl (.inl rfl) ?_
 rw [show cutSufF [97,64,98,46,100,101,62] [62]=([97,64,98,46,100,101],true) from by decide +kernel]
 simp only [ZZ,WW,Ze,reduceCtorEq,Nat.reduceAdd,Nat.reduceMul,Nat.reduceLeDiff,Nat.reduceLT,Nat.reduceEqDiff]
 refine use1 (Lower_ok [97,64,98,46,100,101] (by decide)) rfl (.inl rfl) ?_
 rw [show lowF [97,64,98,46,100,101]=[97,64,98,46,100,101] from by decide +kernel]
 simp only [ZZ,WW,Ze,reduceCtorEq,Nat.reduceAdd,Nat.reduceMul,Nat.reduceLeDiff,Nat.reduceLT,Nat.reduceEqDiff]
 refine br (fun h=>by simp at h) ?_
 intro _
 simp only [ZZ,WW,Ze,reduceCtorEq,Nat.reduceAdd,Nat.reduceMul,Nat.reduceLeDiff,Nat.reduceLT,Nat.reduceEqDiff]
 refine use1 (TrimRightSet_ok [65,110,110,32] [32] (by decide) (by decide) (by decide)) rfl (.inl rfl) ?_
 rw [show Lib.trimRightS [65,110,110,32] [32]=[65,110,110] from by decide +kernel]
 simp only [ZZ,WW,Ze,reduceCtorEq,Nat.reduceAdd,Nat.reduceMul,Nat.reduceLeDiff,Nat.reduceLT,Nat.reduceEqDiff]
 refine br (fun h=>by simp at h) ?_
 intro _
 simp only [ZZ,WW,Ze,reduceCtorEq,Nat.reduceAdd,Nat.reduceMul,Nat.reduceLeDiff,Nat.reduceLT,Nat.reduceEqDiff]
 refine use1 (CutPrefix_ok [65,110,110] [34] (by decide) (by decide)) rfl (.inl rfl) ?_
 rw [show cutPreF [65,110,110] [34]=([65,110,110],false) from by decide +kernel]
 simp only [ZZ,WW,Ze,reduceCtorEq,Nat.reduceAdd,Nat.reduceMul,Nat.reduceLeDiff,Nat.reduceLT,Nat.reduceEqDiff]
 refine cut_same zE_ ?_
 simp only [ZZ,WW,Ze,reduceCtorEq,Nat.reduceAdd,Nat.reduceMul,Nat.reduceLeDiff,Nat.reduceLT,Nat.reduceEqDiff]
 refine drg1 (x1:=.bool true) ?_
 have hr:=right_ok [65,110,110] [97,64,98,46,100,101] (by decide) (by decide)
 rw [show (nameB [65,110,110] && mailF [97,64,98,46,100,101])=true from by decide +kernel] at hr
 simp only [ZZ,WW,Ze,reduceCtorEq,Nat.reduceAdd,Nat.reduceMul,Nat.reduceLeDiff,Nat.reduceLT,Nat.reduceEqDiff]
 ((repeat' (with_reducible apply And.intro))<;>try (first|exact fun h=>⟨h,usep hr rfl (.inl rfl)⟩|(exact sc_)))
theorem Address_ann:PCall Tryz.prog E0 117 [.str annS] (·=.tup [.agg [.str [65,110,110],.str [97,64,98,46,100,101]],int 0]):=by
 refine pcallF mixed Tryz.func117 ck_thread_Address ?_
 simp only [a0,l0,OS.ao,List.map_cons,List.map_nil,List.length_cons,List.length_nil,List.cons_append,List.nil_append,Nat.reduceSub,Nat.reduceAdd,List.replicate_succ,List.replicate_zero,ir_thread_Address,rs_thread_Address,ZZ,WW,Ze,reduceCtorEq,Nat.reduceAdd,Nat.reduceMul,Nat.reduceLeDiff,Nat.reduceLT,Nat.reduceEqDiff]
 refine br (fun h=>by simp [annS] at h) ?_
 intro _
 simp only [ZZ,WW,Ze,reduceCtorEq,Nat.reduceAdd,Nat.reduceMul,Nat.reduceLeDiff,Nat.reduceLT,Nat.reduceEqDiff]
 refine use1 address_ann rfl (.inl rfl) ?_
 simp only [ZZ,WW,Ze,reduceCtorEq,Nat.reduceAdd,Nat.reduceMul,Nat.reduceLeDiff,Nat.reduceLT,Nat.reduceEqDiff]
theorem threads_ok:PCall Tryz.prog E0 33 [] (·=.bool true):=by
 refine pcallF mixed Tryz.func33 ck_chaselaw1_threads ?_
 simp only [a0,l0,OS.ao,List.map_cons,List.map_nil,List.length_cons,List.length_nil,List.cons_append,List.nil_append,Nat.reduceSub,Nat.reduceAdd,List.replicate_succ,List.replicate_zero,ir_chaselaw1_threads,rs_chaselaw1_threads,ZZ,WW,Ze,reduceCtorEq,Nat.reduceAdd,Nat.reduceMul,Nat.reduceLeDiff,Nat.reduceLT,Nat.reduceEqDiff]
 refine use1 Address_ann rfl (.inl rfl) ?_
 simp only [ZZ,WW,Ze,reduceCtorEq,Nat.reduceAdd,Nat.reduceMul,Nat.reduceLeDiff,Nat.reduceLT,Nat.reduceEqDiff]
 simp
theorem first_eq {c:UInt8} {a b a' b':List UInt8} (h:a++c :: b=a'++c :: b') (h1:c∉a) (h2:c∉a'):a=a'∧b=b':=by
 induction a generalizing a' with
 |nil=>
  cases a' with
  |nil=>simpa using h
  |cons x a'=>simp only [List.nil_append,List.cons_append,List.cons.injEq] at h;exact absurd (by rw [h.1];simp) h2
 |cons y a ih=>
  cases a' with
  |nil=>simp only [List.nil_append,List.cons_append,List.cons.injEq] at h;exact absurd (by rw [← h.1];simp) h1
  |cons x a'=>
   simp only [List.cons_append,List.cons.injEq] at h
   obtain ⟨e1,e2⟩:=ih h.2 (fun hm=>h1 (by simp [hm])) (fun hm=>h2 (by simp [hm]))
   exact ⟨by rw [h.1,e1],e2⟩
theorem hp1 (c:UInt8) (r:List UInt8):Lib.hasPrefix r [c]=true↔∃ t,r=c :: t:=by
 unfold Lib.hasPrefix
 rw [List.isPrefixOf_iff_prefix]
 constructor
 ·rintro ⟨t,rfl⟩;exact ⟨t,rfl⟩
 ·rintro ⟨t,rfl⟩;exact ⟨t,rfl⟩
theorem b_info:(Tryz.prog.info? 5).map (fun i=>(i.zero,i.size,i.bytes))=some (some (.int .u8 0),1,1):=by kernel_rfl
theorem b_sizeB:(Tryz.prog.info? 165).map (·.size)=some 2:=by kernel_rfl
theorem b_liesB:liesAt Tryz.prog Tryz.prog.depth 165 (2 / Tryz.prog.cellsOf 165) 0 165 1=true:=by kernel_rfl
theorem b_usNone (W:World) (q:Option Addr):(Builtin.unsafeString_ #[218,3] 9 #[.pointer q,.int .i64 0]).run Tryz.prog W=.ok (.string .empty) W:=Lib.run_unsafeString_none W _ _ _ q
theorem b_mixed:Tryz.prog.follows .mixedOrders=true:=by kernel_rfl
theorem b_cells:Tryz.prog.cellsOf 5=1:=by kernel_rfl
theorem b_size:(Tryz.prog.info? 5).map (·.size)=some 1:=by kernel_rfl
abbrev tSb:TypeId:=165
abbrev tU8:TypeId:=5
set_option maxHeartbeats 1000000 in
set_option maxRecDepth 100000 in
theorem b_ccUsed (b:Nat) (w:World) (h0:w.cell? ⟨b,0,none⟩=some (.pointer (some ⟨b,0,none⟩))) :
  Calls Tryz.prog 206 #[.pointer (some ⟨b,0,none⟩)] w fun e w'=>e=.returned (.tuple #[])∧w'=w:=by
 obtain ⟨j,hj,_⟩:=Option.map_eq_some_iff.1 b_sizeB
 go_enter Tryz.func206,Tryz.ntmps206
 go_wp2
 rw [Lib.run_neq_ptr_same w _ Tryz.underlying162 hj]
 go_wp2
 go_end0
 exact ⟨rfl,rfl⟩
set_option maxHeartbeats 1000000 in
set_option maxRecDepth 100000 in
theorem b_ccFresh (b:Nat) (w:World) (h0:w.cell? ⟨b,0,none⟩=some (.pointer none)) (hsh:w.shape? b=some (165,2)) (hfz:w.frozen? ⟨b,0,none⟩=false) :
  Calls Tryz.prog 206 #[.pointer (some ⟨b,0,none⟩)] w fun e w'=>e=.returned (.tuple #[])∧w'=w.setCell ⟨b,0,none⟩ (.pointer (some ⟨b,0,none⟩)):=by
 obtain ⟨j,hj,hjs⟩:=Option.map_eq_some_iff.1 b_sizeB
 go_enter Tryz.func206,Tryz.ntmps206
 go_wp2
 rw [Lib.run_to_unsafe w ⟨b,0,none⟩ Tryz.underlying162 Tryz.underlying264 hj (by rw [hjs];decide) hsh (Nat.zero_lt_succ 1)]
 simp only [Result.andThen]
 rw [Oper.upon_value]
 go_wp2
 rw [run_callFunc_extern Tryz.func267 (by kernel_rfl) (by kernel_rfl) (by kernel_rfl) (e:=Extern.AbiNoEscape.same) (by kernel_rfl)]
 rw [Lib.run_noEscape]
 simp only [Result.andThen]
 rw [Oper.upon_value]
 go_wp2
 rw [Lib.run_from_unsafe w ⟨b,0,none⟩ Tryz.underlying264 Tryz.underlying162 hj hsh b_liesB]
 simp only [Result.andThen]
 rw [Oper.upon_value]
 go_wp2
 go_end0
 exact ⟨rfl,rfl⟩
theorem b_cc (b:Nat) (bs:List Value) (w:World) (h:Lib.IsBuilder 165 5 0 b bs w) :
  Calls Tryz.prog 206 #[.pointer (some ⟨b,0,none⟩)] w fun e w'=>e=.returned (.tuple #[])∧CcPost 165 5 b bs w w':=by
 rcases h with h|h
 ·refine (b_ccFresh b w h.cell0 h.shape h.frozen0).mono ?_
  rintro e w' ⟨rfl,rfl⟩
  exact ⟨rfl,ccpost_fresh h⟩
 ·refine (b_ccUsed b w h.cell0).mono ?_
  rintro e w' ⟨rfl,rfl⟩
  exact ⟨rfl,ccpost_used h⟩
set_option maxHeartbeats 2000000 in
set_option maxRecDepth 100000 in
theorem sb_WriteString (b:Nat) (s t:List UInt8) (w:World) (h:Lib.IsBuilder 165 5 0 b (Lib.byteCells s) w) (hlen:s.length+t.length≤140737488355328) :
  Calls Tryz.prog 134 #[.pointer (some ⟨b,0,none⟩),.string ⟨t.toArray⟩] w fun e w'=>e=.returned (.tuple #[.int .i64 t.length,.nilIface])∧SbPost 165 5 b (s++t) w w':=by
 obtain ⟨i0,hi,hz0,hz1,hz2⟩:=info_parts b_info
 have hsz:(⟨t.toArray⟩:ByteArray).size=t.length:=by simp [ByteArray.size]
 have hcl:Lib.strCells ⟨t.toArray⟩=Lib.byteCells t:=by simp [Lib.strCells,Lib.byteCells]
 generalize hst:(⟨t.toArray⟩:ByteArray)=st at hsz hcl ⊢
 rw [← hsz] at hlen ⊢
 go_enter Tryz.func134,Tryz.ntmps134
 go_wp2_with (go_at_call 206;refine (b_cc b _ _ h).mono ?_)
 rintro e w1 ⟨rfl,v,hbk,hown,hne,hG1,hbf⟩
 rw [Lib.byteCells_length] at hown
 have c0:w1.cell? ⟨b,0,none⟩=some (.pointer (some ⟨b,0,none⟩)):=by rw [Lib.cell_of_heap hbk];rfl
 have c1:w1.cell? ⟨b,1,none⟩=some v:=by rw [Lib.cell_of_heap hbk];rfl
 go_wp2_with (at_builtin;refine wpList_app_str rfl _ _ 163 9 rfl 0 5 i0 Tryz.underlying163 Tryz.underlying9 hi hz0 hz1 hz2 _ _ _ rfl hown st rfl (by unfold maxLen;omega) (by omega) (Nat.zero_le _) ?_)
 intro v' w2 hown' hgrow hat
 have hlt:=lt_of_heap hbk
 have hb2:w2.heap[b]?=some (.cells #[.pointer (some ⟨b,0,none⟩),v] 165 (0,0)):=by
  rw [hgrow.block b hlt (fun e=>hne e.symm)]
  exact hbk
 have d0:w2.cell? ⟨b,0,none⟩=some (.pointer (some ⟨b,0,none⟩)):=by rw [Lib.cell_of_heap hb2];rfl
 have d1:w2.cell? ⟨b,1,none⟩=some v:=by rw [Lib.cell_of_heap hb2];rfl
 have f1:w2.frozen? ⟨b,1,none⟩=false:=Lib.frozen_of_heap hb2 1
 have hP:SbPost 165 5 b (s++t) w (w2.setCell ⟨b,1,none⟩ v'):=
  sbpost_mk (by decide) hG1 hbf hbk hgrow hne hat (by first|(rw [hcl,hsz] at hown';simpa [Lib.byteCells] using hown')|simpa [Lib.byteCells] using hown')
 obtain ⟨ao,n',cap,rfl⟩:∃ ao n' cap,v'=.slice ao n' cap:=by
  rcases hown'.2 with ⟨hv,_⟩|⟨g,cap,cur,hv,_⟩
  ·exact ⟨_,_,_,hv⟩
  ·exact ⟨_,_,_,hv⟩
 go_wp2
 go_ret2
 exact ⟨by first|rfl|(rw [hsz];rfl),hP⟩
set_option maxHeartbeats 1000000 in
set_option maxRecDepth 100000 in
theorem b_String (B b:Nat) (l:List UInt8) (w:World) (h:Lib.IsBuilder 165 5 B b (Lib.byteCells l) w) (h0:l≠[]) :
  Calls Tryz.prog 136 #[.pointer (some ⟨b,0,none⟩)] w fun e w'=>e=.returned (.string ⟨l.toArray⟩)∧Grow w w' (fun x=>x=b∨bufOf w 165 b x):=by
 obtain ⟨p,hB,v,hbk,hown,hne⟩:∃ p,Lib.BuilderAt 165 5 B b p (Lib.byteCells l) w:=by
  rcases h with h|h
  ·exact ⟨_,h⟩
  ·exact ⟨_,h⟩
 have hl0:l.length≠0:=by simpa using h0
 rw [Lib.byteCells_length] at hown
 obtain ⟨g,cap,cur,rfl,hbg,hg,hnc,hcm,hcs,htake⟩:∃ g cap cur,v=.slice (some ⟨g,0,none⟩) l.length cap∧B≤g∧w.heap[g]?=some (.cells cur 5 (0,0))∧l.length≤cap∧cap≤maxLen∧cur.size=cap * 1∧cur.toList.take (l.length * 1)=Lib.byteCells l:=by
  rcases hown.2 with ⟨_,hz⟩|⟨g,cap,cur,hv,r⟩
  ·exact absurd hz hl0
  ·exact ⟨g,cap,cur,hv,r⟩
 have c1:w.drew.cell? ⟨b,1,none⟩=some (.slice (some ⟨g,0,none⟩) l.length cap):=by
  have:w.drew.heap[b]?=some (.cells #[p,.slice (some ⟨g,0,none⟩) l.length cap] 165 (0,0)):=hbk
  rw [Lib.cell_of_heap this];rfl
 have hSD:(Builtin.unsafeSliceData_ #[163] 218 #[.slice (some ⟨g,0,none⟩) l.length cap]).run Tryz.prog w.drew=.ok (.pointer (some ⟨g,0,none⟩)) w.drew:=
  Lib.run_unsafeSliceData_row _ _ _ _ _ _ (by omega)
 have hUS:(Builtin.unsafeString_ #[218,3] 9 #[.pointer (some ⟨g,0,none⟩),.int .i64 l.length]).run Tryz.prog w.drew=.ok (.string ⟨l.toArray⟩) (w.drew.freeze ⟨g,0,none⟩ l.length):=by
  refine Lib.run_unsafeString_row w.drew 218 3 9 5 Tryz.underlying218 b_cells g cur.size (by have hg':w.drew.heap[g]?=some (.cells cur 5 (0,0)):=hg;simp [World.shape?,hg']) l h0 (by omega) (by unfold maxLen at hcm;omega) ?_
  intro j x hx
  have:=hown.cells (g:=g) rfl j (.int .u8 x.toNat) (by simp [Lib.byteCells,hx])
  exact this
 have mixed:=b_mixed
 go_enter Tryz.func136,Tryz.ntmps136
 go_wp2
 go_region_o
 all_goals (go_wp2;go_ret;exact ⟨rfl,grow_freeze (.inr ⟨_,_,hbk,rfl⟩)⟩)
set_option maxHeartbeats 2000000 in
set_option maxRecDepth 100000 in
theorem b_String_nil (B b:Nat) (p:Value) (w:World) (hbk:w.heap[b]?=some (.cells #[p,.slice none 0 0] 165 (0,0))) :
  Calls Tryz.prog 136 #[.pointer (some ⟨b,0,none⟩)] w fun e w'=>e=.returned (.string ⟨#[]⟩)∧Grow w w' (fun x=>x=b∨bufOf w 165 b x):=by
 have hUS:=b_usNone
 have c1:w.drew.cell? ⟨b,1,none⟩=some (.slice none 0 0):=by
  have:w.drew.heap[b]?=some (.cells #[p,.slice none 0 0] 165 (0,0)):=hbk
  rw [Lib.cell_of_heap this];rfl
 have hSD:(Builtin.unsafeSliceData_ #[163] 218 #[.slice none 0 0]).run Tryz.prog w.drew=.ok (.pointer none) w.drew:=rfl
 have mixed:=b_mixed
 go_enter Tryz.func136,Tryz.ntmps136
 go_wp2
 go_region_o
 all_goals (go_wp2;go_ret;exact ⟨rfl,(Grow.refl w _).drew⟩)
set_option maxHeartbeats 2000000 in
set_option maxRecDepth 100000 in
theorem b_String_noroom (B b g:Nat) (p:Value) (cur:Array Value) (w:World) (hBw:B≤w.heap.size) (hbk:w.heap[b]?=some (.cells #[p,.slice (some ⟨g,0,none⟩) 0 0] 165 (0,0))) (hg:w.heap[g]?=some (.cells cur 5 (0,0))) :
  Calls Tryz.prog 136 #[.pointer (some ⟨b,0,none⟩)] w fun e w'=>e=.returned (.string ⟨#[]⟩)∧Grow w w' (fun x=>x=b∨bufOf w 165 b x):=by
 have hUS:=b_usNone
 have hlt:b < w.heap.size:=by
  rcases Nat.lt_or_ge b w.heap.size with h'|h'
  ·exact h'
  ·simp [Array.getElem?_eq_none h'] at hbk
 have c1:w.drew.cell? ⟨b,1,none⟩=some (.slice (some ⟨g,0,none⟩) 0 0):=by
  have:w.drew.heap[b]?=some (.cells #[p,.slice (some ⟨g,0,none⟩) 0 0] 165 (0,0)):=hbk
  rw [Lib.cell_of_heap this];rfl
 have hSD:(Builtin.unsafeSliceData_ #[163] 218 #[.slice (some ⟨g,0,none⟩) 0 0]).run Tryz.prog w.drew=.ok (.pointer (some ⟨w.drew.heap.size,0,none⟩)) (w.drew.alloc (.view ⟨g,0,none⟩ 5)):=
  Lib.run_unsafeSliceData_zero w.drew _ _ 5 Tryz.underlying218 ⟨g,0,none⟩ 0 (5,cur.size) (by have hg':w.drew.heap[g]?=some (.cells cur 5 (0,0)):=hg;simp [World.shape?,hg'])
 have c2:(w.drew.alloc (.view ⟨g,0,none⟩ 5)).cell? ⟨b,1,none⟩=some (.slice (some ⟨g,0,none⟩) 0 0):=by
  have:(w.drew.alloc (.view ⟨g,0,none⟩ 5)).heap[b]?=_:=(Lib.alloc_old w.drew _ b hlt).trans hbk
  rw [Lib.cell_of_heap this];rfl
 have c3:(w.alloc (.view ⟨g,0,none⟩ 5)).drew.cell? ⟨b,1,none⟩=some (.slice (some ⟨g,0,none⟩) 0 0):=c2
 have c0:w.cell? ⟨b,1,none⟩=some (.slice (some ⟨g,0,none⟩) 0 0):=c1
 have mixed:=b_mixed
 go_enter Tryz.func136,Tryz.ntmps136
 go_wp2
 go_region_o
 all_goals (go_wp2;go_ret;exact ⟨rfl,grow_alloc'⟩)
set_option maxHeartbeats 2000000 in
set_option maxRecDepth 100000 in
theorem b_String_room (B b g cap:Nat) (p:Value) (w:World) (hc0:cap≠0) (hbk:w.heap[b]?=some (.cells #[p,.slice (some ⟨g,0,none⟩) 0 cap] 165 (0,0))) :
  Calls Tryz.prog 136 #[.pointer (some ⟨b,0,none⟩)] w fun e w'=>e=.returned (.string ⟨#[]⟩)∧Grow w w' (fun x=>x=b∨bufOf w 165 b x):=by
 have hUS:=b_usNone
 have c1:w.drew.cell? ⟨b,1,none⟩=some (.slice (some ⟨g,0,none⟩) 0 cap):=by
  have:w.drew.heap[b]?=some (.cells #[p,.slice (some ⟨g,0,none⟩) 0 cap] 165 (0,0)):=hbk
  rw [Lib.cell_of_heap this];rfl
 have hSD:(Builtin.unsafeSliceData_ #[163] 218 #[.slice (some ⟨g,0,none⟩) 0 cap]).run Tryz.prog w.drew=.ok (.pointer (some ⟨g,0,none⟩)) w.drew:=
  Lib.run_unsafeSliceData_row _ _ _ _ _ _ hc0
 clear hc0
 have mixed:=b_mixed
 go_enter Tryz.func136,Tryz.ntmps136
 go_wp2
 go_region_o
 all_goals (go_wp2;go_ret;exact ⟨rfl,(Grow.refl w _).drew⟩)
theorem b_String_empty (B b:Nat) (w:World) (h:Lib.IsBuilder 165 5 B b [] w) (hBw:B≤w.heap.size) :
  Calls Tryz.prog 136 #[.pointer (some ⟨b,0,none⟩)] w fun e w'=>e=.returned (.string ⟨#[]⟩)∧Grow w w' (fun x=>x=b∨bufOf w 165 b x):=by
 obtain ⟨p,hB,v,hbk,hown,hne⟩:∃ p,Lib.BuilderAt 165 5 B b p [] w:=by
  rcases h with h|h
  ·exact ⟨_,h⟩
  ·exact ⟨_,h⟩
 rcases hown.2 with ⟨rfl,_⟩|⟨g,cap,cur,rfl,hbg,hg,_,_,_,_⟩
 ·exact b_String_nil B b p w hbk
 ·by_cases hc0:cap=0
  ·subst hc0
   exact b_String_noroom B b g p cur w hBw hbk hg
  ·exact b_String_room B b g cap p w hc0 hbk
theorem b_String_any (B b:Nat) (l:List UInt8) (w:World) (h:Lib.IsBuilder 165 5 B b (Lib.byteCells l) w) (hBw:B≤w.heap.size) :
  Calls Tryz.prog 136 #[.pointer (some ⟨b,0,none⟩)] w fun e w'=>e=.returned (.string ⟨l.toArray⟩)∧Grow w w' (fun x=>x=b∨bufOf w 165 b x):=by
 cases l with
 |nil=>exact b_String_empty B b w h hBw
 |cons x r=>exact b_String B b (x :: r) w h (by simp)
set_option maxHeartbeats 2000000 in
set_option maxRecDepth 1000000 in
theorem b_grow_fresh (B b n:Nat) (w:World) (hB:B≤b) (hbk:w.heap[b]?=some (.cells #[.pointer (some ⟨b,0,none⟩),.slice none 0 0] 165 (0,0))) (hBw:B≤w.heap.size) (hn:n≤281474976710656) :
  Calls Tryz.prog 207 #[.pointer (some ⟨b,0,none⟩),.int .i64 n] w fun e w'=>e=.returned (.tuple #[])∧SbPost 165 5 b [] w w':=by
 obtain ⟨cs,hrun,hle,hmax⟩:=Lib.run_makeNoZero (P:=Tryz.prog) w.drew #[3] 163 5 Tryz.underlying163 n hn
 have hw:IntKind.i64.wrap (IntKind.i64.wrap 0+(n:Int))=n:=by
  rw [IntKind.wrap_i64,IntKind.wrap_i64]
  omega
 have hcall:(callFunc 268 #[.int .i64 (IntKind.i64.wrap (IntKind.i64.wrap 0+(n:Int)))]).run Tryz.prog w.drew=.ok (.value (.slice (some ⟨w.drew.heap.size,0,none⟩) n cs.size)) (w.drew.drew.drew.alloc (.cells cs 5)):=by
  rw [hw,run_callFunc_extern Tryz.func268 (by kernel_rfl) (by kernel_rfl) (by kernel_rfl) (e:=Extern.BytealgMakeNoZero.makeNoZero #[3] #[163]) (by kernel_rfl),hrun]
  rfl
 have c1:w.drew.cell? ⟨b,1,none⟩=some (.slice none 0 0):=by
  have:w.drew.heap[b]?=_:=hbk
  rw [Lib.cell_of_heap this];rfl
 have c2:(w.alloc (.cells cs 5)).cell? ⟨b,1,none⟩=some (.slice none 0 0):=by
  have hlt:b < w.heap.size:=by
   rcases Nat.lt_or_ge b w.heap.size with h'|h'
   ·exact h'
   ·simp [Array.getElem?_eq_none h'] at hbk
  have:(w.alloc (.cells cs 5)).heap[b]?=_:=(Lib.alloc_old w _ b hlt).trans hbk
  rw [Lib.cell_of_heap this];rfl
 have f2:(w.alloc (.cells cs 5)).frozen? ⟨b,1,none⟩=false:=by
  have hlt:b < w.heap.size:=by
   rcases Nat.lt_or_ge b w.heap.size with h'|h'
   ·exact h'
   ·simp [Array.getElem?_eq_none h'] at hbk
  exact Lib.frozen_of_heap ((Lib.alloc_old w _ b hlt).trans hbk) 1
 have hcopy:∀ W:World,(Builtin.copy_ #[163,163] 3 #[.slice (some ⟨w.heap.size,0,none⟩) 0 cs.size,.slice none 0 0]).run Tryz.prog W=.ok (goInt 0) W:=
  fun W=>run_copy_none W 163 163 3 5 _ _ 0 cs.size 0 0 Tryz.underlying163 b_size rfl
 clear hw
 have mixed:=b_mixed
 go_enter Tryz.func207,Tryz.ntmps207
 go_wp2
 have hfin:=SbPost.of_grown (T:=165) (e:=5) (cs:=cs) (by decide) hbk (hmax (by unfold maxLen;omega))
 go_region_o
 all_goals (go_wp2;go_end0;exact ⟨rfl,hfin⟩)
set_option maxHeartbeats 2000000 in
set_option maxRecDepth 1000000 in
theorem b_Grow_fresh (B b n:Nat) (w:World) (hB:B≤b) (hbk:w.heap[b]?=some (.cells #[.pointer none,.slice none 0 0] 165 (0,0))) (hBw:B≤w.heap.size) (hn:n≤281474976710656) :
  Calls Tryz.prog 133 #[.pointer (some ⟨b,0,none⟩),.int .i64 n] w fun e w'=>e=.returned (.tuple #[])∧SbPost 165 5 b [] w w':=by
 have hbk1:(w.setCell ⟨b,0,none⟩ (.pointer (some ⟨b,0,none⟩))).heap[b]?=some (.cells #[.pointer (some ⟨b,0,none⟩),.slice none 0 0] 165 (0,0)):=by
  simp [World.setCell,Array.getElem?_modify,hbk]
 have c1:(w.setCell ⟨b,0,none⟩ (.pointer (some ⟨b,0,none⟩))).cell? ⟨b,1,none⟩=some (.slice none 0 0):=by rw [Lib.cell_of_heap hbk1];rfl
 have mixed:=b_mixed
 go_enter Tryz.func133,Tryz.ntmps133
 have c1':(w.setCell ⟨b,0,none⟩ (.pointer (some ⟨b,0,none⟩))).drew.cell? ⟨b,1,none⟩=some (.slice none 0 0):=c1
 go_wp2_with (go_at_call 206;refine (b_ccFresh b w (by rw [Lib.cell_of_heap hbk];rfl) (by simp [World.shape?,hbk]) (Lib.frozen_of_heap hbk 0)).mono ?_;rintro e w' ⟨rfl,rfl⟩)
 go_region_o
 all_goals go_wp2_with (go_at_call 207;refine (b_grow_fresh B b n (w.setCell ⟨b,0,none⟩ (.pointer (some ⟨b,0,none⟩))).drew hB hbk1 (by simpa [World.setCell,World.drew,-World.drew_eq] using hBw) hn).mono ?_;rintro e w' ⟨rfl,h1⟩)
 all_goals first
  |(go_end0;exact ⟨rfl,SbPost.behind hbk h1⟩)
  |(go_end0;exact ⟨rfl,SbPost.of_used hbk⟩)
def ir_strings_Join_L1:IC:=(.seq (.reg [qO 66 (.bin .lss (.t 65) (.t 64))]) (.seq (.cond (.t 66) .skip (.exit 3)) (.seq (.block 4 (.seq (.reg [qO 67 (.ixa 1 (.t 63) (.t 65)),qO 68 (.ld 1 false (.t 67)),qM 10 68]) (.seq (.reg [qM 69 1,qO 70 (.call 134 [.t 8,.t 69])]) (.reg [qM 71 10,qO 72 (.call 134 [.t 8,.t 71])])))) (.reg [qO 73 (.bin .add (.t 65) (.c (.int .i64 1))),qM 65 73]))))
def ir_strings_Join_L0:IC:=(.seq (.reg [qO 42 (.bin .lss (.t 41) (.t 40))]) (.seq (.cond (.t 42) .skip (.exit 1)) (.seq (.block 2 (.seq (.reg [qO 43 (.ixa 1 (.t 39) (.t 41)),qO 44 (.ld 1 false (.t 43)),qM 7 44]) (.seq (.seq (.reg [qM 45 7,qO 46 (.sln (.t 45)),qM 47 5,qO 48 (.bin .sub (.c (.int .i64 9223372036854775807)) (.t 47)),qO 49 (.bin .gtr (.t 46) (.t 48))]) (.cond (.t 49) (.reg [qO 50 (.dead),⟨none,.dead,none⟩]) .skip)) (.cut (.reg [qM 51 5,qM 52 7,qO 53 (.sln (.t 52)),qO 54 (.bin .add (.t 51) (.t 53)),qM 5 54]))))) (.reg [qO 55 (.bin .add (.t 41) (.c (.int .i64 1))),qM 41 55]))))
def ir_strings_Join:IC:=(.seq (.reg [qO 4 (.mov (.c (.str [])))]) (.seq (.seq (.reg [qM 11 0,qO 12 (.len (.t 11))]) (.block 0 (.seq (.reg [qO 14 (.bin .eql (.t 12) (.c (.int .i64 0))),qM 13 14]) (.cond (.t 13) (.seq (.reg [qO 4 (.mov (.c (.str [])))]) .ret) (.seq (.reg [qO 16 (.bin .eql (.t 12) (.c (.int .i64 1))),qM 15 16]) (.cond (.t 15) (.seq (.reg [qM 17 0,qO 18 (.ixa 1 (.t 17) (.c (.int .i64 0))),qO 19 (.ld 1 false (.t 18)),qM 4 19]) .ret) .skip)))))) (.seq (.reg [qO 5 (.mov (.c (.int .i64 0)))]) (.seq (.seq (.reg [qM 20 1,qO 21 (.sln (.t 20)),qO 22 (.bin .gtr (.t 21) (.c (.int .i64 0)))]) (.cond (.t 22) (.seq (.seq (.reg [qM 23 1,qO 24 (.sln (.t 23)),qM 25 0,qO 26 (.len (.t 25)),qO 27 (.bin .sub (.t 26) (.c (.int .i64 1))),qO 28 (.bin .quo (.c (.int .i64 9223372036854775807)) (.t 27)),qO 29 (.bin .geq (.t 24) (.t 28))]) (.cond (.t 29) (.reg [qO 30 (.dead),⟨none,.dead,none⟩]) .skip)) (.cut (.reg [qM 31 5,qM 32 1,qO 33 (.sln (.t 32)),qM 34 0,qO 35 (.len (.t 34)),qO 36 (.bin .sub (.t 35) (.c (.int .i64 1))),qO 37 (.bin .mul (.t 33) (.t 36)),qO 38 (.bin .add (.t 31) (.t 37)),qM 5 38]))) .skip)) (.cut (.seq (.seq (.reg [qM 39 0,qO 40 (.len (.t 39)),qO 41 (.mov (.c (.int .i64 0)))]) (.block 1 (.loop ir_strings_Join_L0))) (.seq (.reg [qO 8 (.alc 165 [.raw (.pointer none),.nl 1])]) (.seq (.reg [qM 56 5,qO 57 (.call 133 [.t 8,.t 56])]) (.seq (.reg [qM 58 0,qO 59 (.ixa 1 (.t 58) (.c (.int .i64 0))),qO 60 (.ld 1 false (.t 59)),qO 61 (.call 134 [.t 8,.t 60])]) (.seq (.seq (.reg [qM 62 0,qO 63 (.vsl 1 (.t 62) (some (.c (.int .i64 1))) none),qO 64 (.len (.t 63)),qO 65 (.mov (.c (.int .i64 0)))]) (.block 3 (.loop ir_strings_Join_L1))) (.seq (.reg [qO 74 (.call 136 [.t 8]),qM 4 74]) .ret)))))))))))
def rs_strings_Join:List IRes:=[.t 4]
theorem ck_strings_Join:chkF Tryz.prog Tryz.f95 ir_strings_Join rs_strings_Join 75=true:=by kernel_rfl
section
variable {E:Envt} {L:Objs} {k:Key} {i:Nat} {fr:List AV} {d:Option Nat} {is:List IOper} {Y:List PV} {K:List AV→Objs→Prop}
theorem useBS (i:Nat) (s t:List UInt8) (hat:SbAt L k i tSb tU8 s) (hki:k≠.l i) (hlen:s.length+t.length≤140737488355328)
  (hk:awpOps Tryz.prog E Y is (Zg (fr.map (·.kill (.l i))) d (.p (.tup [int (t.length:Nat),.raw .nilIface]))) (putSb L k i tSb tU8 (s++t)) K):CallOp Tryz.prog E 134 [.adr k 0,.p (.str t)] L d fr (contO Tryz.prog E Y is K):=
 useW (vr:=[.string ⟨t.toArray⟩]) (x:=.tup [int (t.length:Nat),.raw .nilIface]) (v:=.tuple #[.int .i64 t.length,.nilIface]) i tSb tU8 s (s++t) hat hki (fun w U ι vs h=>by obtain ⟨v,r,rfl,h1,h2⟩:=h;simp only [ARep,PRep,ARepL] at h1 h2;rw [h1,h2]) (fun w U=>⟨[_,_],rfl,_,_,rfl,rfl,_,_,rfl,⟨rfl,rfl⟩,rfl⟩)
  (fun b w h _=>sb_WriteString b s t w h hlen) hk
theorem useBG (i:Nat) (n:Nat) (hat:SbAt L k i tSb tU8 []) (hf:Zas L k=some (.box [.p nilP,.p (.nl 1)] tSb)) (hki:k≠.l i) (hn:n≤281474976710656)
  (hk:awpOps Tryz.prog E Y is (Zg (fr.map (·.kill (.l i))) d (.p (.tup []))) (putSb L k i tSb tU8 []) K):CallOp Tryz.prog E 133 [.adr k 0,.p (int (n:Nat))] L d fr (contO Tryz.prog E Y is K):=
 useW (vr:=[.int .i64 n]) (x:=.tup []) (v:=.tuple #[]) i tSb tU8 [] [] hat hki (fun w U ι vs h=>by obtain ⟨v,r,rfl,h1,h2⟩:=h;simp only [ARep,PRep,ARepL] at h1 h2;rw [h1,h2]) (fun w U=>⟨[],rfl,rfl⟩)
  (fun b w _ h=>b_Grow_fresh 0 b n w (Nat.zero_le _) (h hf) (Nat.zero_le _) hn) hk
theorem useBT (i:Nat) (s:List UInt8) (hat:SbAt L k i tSb tU8 s) (hki:k≠.l i)
  (hk:awpOps Tryz.prog E Y is (Zg (fr.map (·.kill (.l i))) d (.p (.str s))) (delSb L k i) K):CallOp Tryz.prog E 136 [.adr k 0] L d fr (contO Tryz.prog E Y is K):=
 useWS i tSb tU8 s hat hki (fun b w h=>b_String_any 0 b s w h (Nat.zero_le _)) hk
theorem lens_take_le:∀ (l:List (List UInt8)) (k:Nat),Lib.lens (l.take k)≤Lib.lens l
 |[],k=>by simp
 |x :: r,0=>by simp [Lib.lens]
 |x :: r,k+1=>by have:=lens_take_le r k;simp only [List.take_succ_cons,Lib.lens,List.map_cons,List.sum_cons] at *;omega
theorem Join_ok (l:List (List UInt8)) (sep:List UInt8) (hl:l.length≤1000000000) (hlen:(Lib.join l sep).length≤1000000000):PCall Tryz.prog E 95 [strs l,.str sep] (·=.str (Lib.join l sep)):=by
 refine pcallF mixed Tryz.func95 ck_strings_Join ?_
 simp only [a0,l0,OS.ao,List.map_cons,List.map_nil,List.length_cons,List.length_nil,List.cons_append,List.nil_append,Nat.reduceSub,Nat.reduceAdd,List.replicate_succ,List.replicate_zero,ir_strings_Join,rs_strings_Join,ZZ,WW,Ze,reduceCtorEq,Nat.reduceAdd,Nat.reduceMul,Nat.reduceLeDiff,Nat.reduceLT,Nat.reduceEqDiff]
 simp only [strs,ZZ,WW,Ze,reduceCtorEq,Nat.reduceAdd,Nat.reduceMul,Nat.reduceLeDiff,Nat.reduceLT,Nat.reduceEqDiff]
 refine br ?_ ?_
 ·intro h
  have h0:l=[]:=by
   have:=of_decide_eq_true h
   simp at this
   exact this
  subst h0
  simp only [ZZ,WW,Ze,reduceCtorEq,Nat.reduceAdd,Nat.reduceMul,Nat.reduceLeDiff,Nat.reduceLT,Nat.reduceEqDiff]
  rfl
 intro h
 have h0:l.length≠0:=by have:=of_decide_eq_false h;simpa using this
 simp only [ZZ,WW,Ze,reduceCtorEq,Nat.reduceAdd,Nat.reduceMul,Nat.reduceLeDiff,Nat.reduceLT,Nat.reduceEqDiff]
 obtain ⟨x,r,rfl⟩:∃ x r,l=x :: r:=by cases l with|nil=>exact absurd rfl h0|cons x r=>exact ⟨x,r,rfl⟩
 refine br ?_ ?_
 ·intro h1
  have h1:r=[]:=List.eq_nil_of_length_eq_zero (by have:=of_decide_eq_true h1;simp at this;omega)
  subst h1
  simp only [ZZ,WW,Ze,reduceCtorEq,Nat.reduceAdd,Nat.reduceMul,Nat.reduceLeDiff,Nat.reduceLT,Nat.reduceEqDiff]
  refine ⟨by simp,by simp,?_⟩
  rw [Lib.join_one]
  rfl
 intro h1
 have h1:r.length≠0:=by have:=of_decide_eq_false h1;simp at this;omega
 have hJ:=Lib.join_length x r sep
 have hcl:(x :: r).length=r.length+1:=by simp
 have hmul:sep.length * r.length≤1000000000:=by omega
 have hll:Lib.lens (x :: r)≤1000000000:=by omega
 generalize hes:(x :: r).map (fun x=>[PV.str x])=es
 have hln:es.length=r.length+1:=by rw [← hes];simp
 have hget:∀ (k:Nat) (y:List UInt8),(x :: r)[k]?=some y→es.getD k []=[PV.str y]:=fun k y h=>by rw [← hes];exact getD_map h
 simp only [ZZ,WW,Ze,reduceCtorEq,Nat.reduceAdd,Nat.reduceMul,Nat.reduceLeDiff,Nat.reduceLT,Nat.reduceEqDiff]
 refine br_join (fun fr L=>fr=[.p (.sl 1 es),.p (.str sep),oo,oo,oo,.p (int (sep.length * r.length:Nat)),oo,oo,oo,oo,oo,oo,oo,oo,oo,oo,oo,oo,oo,oo,oo,oo,oo,oo,oo,oo,oo,oo,oo,oo,oo,oo,oo,oo,oo,oo,oo,oo,oo,oo,oo,oo,oo,oo,oo,oo,oo,oo,oo,oo,oo,oo,oo,oo,oo,oo,oo,oo,oo,oo,oo,oo,oo,oo,oo,oo,oo,oo,oo,oo,oo,oo,oo,oo,oo]∧L=[]) ?_ ?_ ?_
 ·intro hs
  have hs:0 < sep.length:=by have:=of_decide_eq_true hs;omega
  simp only [ZZ,WW,Ze,reduceCtorEq,Nat.reduceAdd,Nat.reduceMul,Nat.reduceLeDiff,Nat.reduceLT,Nat.reduceEqDiff]
  have hq:((9223372036854775807:Int)).tdiv ((es.length:Int) - 1)=((9223372036854775807 / r.length:Nat):Int):=by
   rw [hln,Int.tdiv_eq_ediv_of_nonneg (by omega)]
   have:((r.length+1:Nat):Int) - 1=(r.length:Int):=by omega
   rw [this]
   rfl
  have hq2:9223372036≤9223372036854775807 / r.length:=(Nat.le_div_iff_mul_le (by omega)).2 (by omega)
  have he:(es.length:Int) - 1=(r.length:Int):=by omega
  have hp:(sep.length:Int) * (r.length:Int)=((sep.length * r.length:Nat):Int):=by simp
  have hq3:9223372036854775807 / r.length≤9223372036854775807:=Nat.div_le_self _ _
  have hsl:sep.length≤sep.length * r.length:=Nat.le_mul_of_pos_right _ (by omega)
  rw [hq]
  generalize 9223372036854775807 / r.length=q at *
  simp only [he]
  refine ⟨i64_of (by omega) (by omega),⟨by omega,i64_of (by omega) (by omega)⟩,?_⟩
  refine br (fun h=>absurd (of_decide_eq_true h) (by omega)) ?_
  intro _
  simp only [ZZ,WW,Ze,reduceCtorEq,Nat.reduceAdd,Nat.reduceMul,Nat.reduceLeDiff,Nat.reduceLT,Nat.reduceEqDiff]
  refine cut_same zE_ ?_
  simp only [ZZ,WW,Ze,reduceCtorEq,Nat.reduceAdd,Nat.reduceMul,Nat.reduceLeDiff,Nat.reduceLT,Nat.reduceEqDiff]
  simp only [he,hp]
  refine ⟨i64_of (by omega) (by omega),i64_of (by omega) (by omega),i64_of (by omega) (by omega),to_mid [.p (.sl 1 es),.p (.str sep),oo,oo,oo,.p (int (sep.length * r.length:Nat)),oo,oo,oo,oo,oo,oo,oo,oo,oo,oo,oo,oo,oo,oo,oo,oo,oo,oo,oo,oo,oo,oo,oo,oo,oo,oo,oo,oo,oo,oo,oo,oo,oo,oo,oo,oo,oo,oo,oo,oo,oo,oo,oo,oo,oo,oo,oo,oo,oo,oo,oo,oo,oo,oo,oo,oo,oo,oo,oo,oo,oo,oo,oo,oo,oo,oo,oo,oo,oo] [] (by simp only [Int.zero_add];(simp only [ZZ,WW,Ze,reduceCtorEq,Nat.reduceAdd,Nat.reduceMul,Nat.reduceLeDiff,Nat.reduceLT,Nat.reduceEqDiff];try trivial)) zE_ ⟨rfl,rfl⟩⟩
 ·intro hs
  have hs:sep.length=0:=by have:=of_decide_eq_false hs;omega
  simp only [ZZ,WW,Ze,reduceCtorEq,Nat.reduceAdd,Nat.reduceMul,Nat.reduceLeDiff,Nat.reduceLT,Nat.reduceEqDiff]
  exact to_mid [.p (.sl 1 es),.p (.str sep),oo,oo,oo,.p (int (sep.length * r.length:Nat)),oo,oo,oo,oo,oo,oo,oo,oo,oo,oo,oo,oo,oo,oo,oo,oo,oo,oo,oo,oo,oo,oo,oo,oo,oo,oo,oo,oo,oo,oo,oo,oo,oo,oo,oo,oo,oo,oo,oo,oo,oo,oo,oo,oo,oo,oo,oo,oo,oo,oo,oo,oo,oo,oo,oo,oo,oo,oo,oo,oo,oo,oo,oo,oo,oo,oo,oo,oo,oo] [] (by rw [hs];simp only [Nat.zero_mul];(simp only [ZZ,WW,Ze,reduceCtorEq,Nat.reduceAdd,Nat.reduceMul,Nat.reduceLeDiff,Nat.reduceLT,Nat.reduceEqDiff];try trivial)) zE_ ⟨rfl,rfl⟩
 ·rintro fr L ⟨rfl,rfl⟩
  simp only [ZZ,WW,Ze,reduceCtorEq,Nat.reduceAdd,Nat.reduceMul,Nat.reduceLeDiff,Nat.reduceLT,Nat.reduceEqDiff]
  refine loop_intro (fun n fr L=>∃ (k:Nat) (m:Nat),k≤r.length+1∧n=r.length+1 - k∧(m=sep.length * r.length+Lib.lens ((x :: r).take k))∧fr=[.p (.sl 1 es),.p (.str sep),oo,oo,oo,.p (int (m:Nat)),oo,oo,oo,oo,oo,oo,oo,oo,oo,oo,oo,oo,oo,oo,oo,oo,oo,oo,oo,oo,oo,oo,oo,oo,oo,oo,oo,oo,oo,oo,oo,oo,oo,.p (.sl 1 es),.p (int (es.length:Nat)),.p (int (k:Nat)),oo,oo,oo,oo,oo,oo,oo,oo,oo,oo,oo,oo,oo,oo,oo,oo,oo,oo,oo,oo,oo,oo,oo,oo,oo,oo,oo,oo,oo,oo,oo,oo,oo]∧L=[]) (r.length+1) [.p (.sl 1 es),.p (.str sep),oo,oo,oo,.p (int ((sep.length * r.length):Nat)),oo,oo,oo,oo,oo,oo,oo,oo,oo,oo,oo,oo,oo,oo,oo,oo,oo,oo,oo,oo,oo,oo,oo,oo,oo,oo,oo,oo,oo,oo,oo,oo,oo,.p (.sl 1 es),.p (int (es.length:Nat)),.p (int (0:Nat)),oo,oo,oo,oo,oo,oo,oo,oo,oo,oo,oo,oo,oo,oo,oo,oo,oo,oo,oo,oo,oo,oo,oo,oo,oo,oo,oo,oo,oo,oo,oo,oo,oo] [] (by (simp only [ZZ,WW,Ze,reduceCtorEq,Nat.reduceAdd,Nat.reduceMul,Nat.reduceLeDiff,Nat.reduceLT,Nat.reduceEqDiff];try trivial)) (by (simp only [ZZ,WW,Ze,reduceCtorEq,Nat.reduceAdd,Nat.reduceMul,Nat.reduceLeDiff,Nat.reduceLT,Nat.reduceEqDiff];try trivial)) ⟨0,sep.length * r.length,by omega,by omega,by simp [Lib.lens],rfl,rfl⟩ ?_
  rintro n fr L ⟨k,m,hk,rfl,hm,rfl,rfl⟩
  simp only [ir_strings_Join_L0,ZZ,WW,Ze,reduceCtorEq,Nat.reduceAdd,Nat.reduceMul,Nat.reduceLeDiff,Nat.reduceLT,Nat.reduceEqDiff]
  refine br ?_ ?_
  ·intro h
   have hlt:k < r.length+1:=by have:=of_decide_eq_true h;omega
   obtain ⟨y,hy⟩:∃ y,(x :: r)[k]?=some y:=⟨_,List.getElem?_eq_getElem (by simpa using hlt)⟩
   have hg:=hget k y hy
   have hs1:=Lib.lens_take_succ (x :: r) k y hy
   have hs2:=lens_take_le (x :: r) (k+1)
   simp only [ZZ,WW,Ze,reduceCtorEq,Nat.reduceAdd,Nat.reduceMul,Nat.reduceLeDiff,Nat.reduceLT,Nat.reduceEqDiff,hg]
   refine ⟨⟨by omega,by omega⟩,by omega,i64_of (by omega) (by omega),?_⟩
   refine br (fun h=>absurd (of_decide_eq_true h) (by omega)) ?_
   intro _
   simp only [ZZ,WW,Ze,reduceCtorEq,Nat.reduceAdd,Nat.reduceMul,Nat.reduceLeDiff,Nat.reduceLT,Nat.reduceEqDiff]
   refine cut_same zE_ ?_
   simp only [ZZ,WW,Ze,reduceCtorEq,Nat.reduceAdd,Nat.reduceMul,Nat.reduceLeDiff,Nat.reduceLT,Nat.reduceEqDiff]
   refine ⟨i64_of (by omega) (by omega),i64_of (by omega) (by omega),?_⟩
   refine end_round (r.length+1 - (k+1)) [.p (.sl 1 es),.p (.str sep),oo,oo,oo,.p (int ((m+y.length):Nat)),oo,oo,oo,oo,oo,oo,oo,oo,oo,oo,oo,oo,oo,oo,oo,oo,oo,oo,oo,oo,oo,oo,oo,oo,oo,oo,oo,oo,oo,oo,oo,oo,oo,.p (.sl 1 es),.p (int (es.length:Nat)),.p (int ((k+1):Nat)),oo,oo,oo,oo,oo,oo,oo,oo,oo,oo,oo,oo,oo,oo,oo,oo,oo,oo,oo,oo,oo,oo,oo,oo,oo,oo,oo,oo,oo,oo,oo,oo,oo] [] (by omega) (by (simp only [ZZ,WW,Ze,reduceCtorEq,Nat.reduceAdd,Nat.reduceMul,Nat.reduceLeDiff,Nat.reduceLT,Nat.reduceEqDiff];try trivial)) (by (simp only [ZZ,WW,Ze,reduceCtorEq,Nat.reduceAdd,Nat.reduceMul,Nat.reduceLeDiff,Nat.reduceLT,Nat.reduceEqDiff];try trivial)) ⟨k+1,m+y.length,by omega,rfl,by omega,rfl,rfl⟩
  ·intro h
   have hge:k=r.length+1:=by have:=of_decide_eq_false h;omega
   subst hge
   have hm':m≤1000000000:=by rw [hm,List.take_of_length_le (by simp)];omega
   simp only [ZZ,WW,Ze,reduceCtorEq,Nat.reduceAdd,Nat.reduceMul,Nat.reduceLeDiff,Nat.reduceLT,Nat.reduceEqDiff]
   refine useBG 1000 m (.inl ⟨rfl,rfl⟩) rfl (by simp) (by omega) ?_
   have hg0:=hget 0 x rfl
   have hlx:Lib.lens (x :: r)=x.length+Lib.lens r:=by simp [Lib.lens]
   simp only [ZZ,WW,Ze,reduceCtorEq,Nat.reduceAdd,Nat.reduceMul,Nat.reduceLeDiff,Nat.reduceLT,Nat.reduceEqDiff,putSb,Int.toNat_zero,hg0]
   refine ⟨⟨by omega,by omega⟩,by omega,?_⟩
   refine useBS 1000 [] x (.inr ⟨rfl,rfl⟩) (by simp) (by simp;omega) ?_
   simp only [ZZ,WW,Ze,reduceCtorEq,Nat.reduceAdd,Nat.reduceMul,Nat.reduceLeDiff,Nat.reduceLT,Nat.reduceEqDiff,putSb]
   refine ⟨⟨by omega,by omega⟩,?_⟩
   have hd:(es.take es.length).drop 1=strE r:=by rw [List.take_length,← hes];simp [strE]
   simp only [Int.toNat_one,hd,strE_len]
   refine loop_intro (fun n fr L=>∃ (k:Nat) (s:List UInt8),k≤r.length∧n=r.length - k∧(s=x++Lib.joinTail sep (r.take k))∧fr=[oo,.p (.str sep),oo,oo,oo,oo,oo,oo,.adr (.l 8) 0,oo,oo,oo,oo,oo,oo,oo,oo,oo,oo,oo,oo,oo,oo,oo,oo,oo,oo,oo,oo,oo,oo,oo,oo,oo,oo,oo,oo,oo,oo,oo,oo,oo,oo,oo,oo,oo,oo,oo,oo,oo,oo,oo,oo,oo,oo,oo,oo,oo,oo,oo,oo,oo,oo,.p (.sl 1 (strE r)),.p (int (r.length:Nat)),.p (int (k:Nat)),oo,oo,oo,oo,oo,oo,oo,oo,oo]∧L=[(.l 8,.box [.adr (.l 8) 0,.row (.l 1000)] tSb),(.l 1000,.row (bytC s) tU8 1 true)]) (r.length) [oo,.p (.str sep),oo,oo,oo,oo,oo,oo,.adr (.l 8) 0,oo,oo,oo,oo,oo,oo,oo,oo,oo,oo,oo,oo,oo,oo,oo,oo,oo,oo,oo,oo,oo,oo,oo,oo,oo,oo,oo,oo,oo,oo,oo,oo,oo,oo,oo,oo,oo,oo,oo,oo,oo,oo,oo,oo,oo,oo,oo,oo,oo,oo,oo,oo,oo,oo,.p (.sl 1 (strE r)),.p (int (r.length:Nat)),.p (int (0:Nat)),oo,oo,oo,oo,oo,oo,oo,oo,oo] [(.l 8,.box [.adr (.l 8) 0,.row (.l 1000)] tSb),(.l 1000,.row (bytC x) tU8 1 true)] (by (simp only [ZZ,WW,Ze,reduceCtorEq,Nat.reduceAdd,Nat.reduceMul,Nat.reduceLeDiff,Nat.reduceLT,Nat.reduceEqDiff];try trivial)) (by (simp only [ZZ,WW,Ze,reduceCtorEq,Nat.reduceAdd,Nat.reduceMul,Nat.reduceLeDiff,Nat.reduceLT,Nat.reduceEqDiff];try trivial)) ⟨0,x,by omega,by omega,by simp [Lib.joinTail],rfl,rfl⟩ ?_
   rintro n fr L ⟨k,s,hk,rfl,hs,rfl,rfl⟩
   simp only [ir_strings_Join_L1,ZZ,WW,Ze,reduceCtorEq,Nat.reduceAdd,Nat.reduceMul,Nat.reduceLeDiff,Nat.reduceLT,Nat.reduceEqDiff]
   refine br ?_ ?_
   ·intro h
    have hlt:k < r.length:=by have:=of_decide_eq_true h;omega
    obtain ⟨y,hy⟩:∃ y,r[k]?=some y:=⟨_,List.getElem?_eq_getElem hlt⟩
    have hg:=strE_get hy
    have hj1:=Lib.joinTail_take_succ sep r k y hy
    have hj2:=Lib.joinTail_take_le sep r (k+1)
    have hj3:=Lib.joinTail_length sep r
    have hj4:(Lib.joinTail sep (r.take (k+1))).length=(Lib.joinTail sep (r.take k)).length+sep.length+y.length:=by rw [hj1];simp;omega
    have hsl:s.length=x.length+(Lib.joinTail sep (r.take k)).length:=by rw [hs];simp
    simp only [ZZ,WW,Ze,reduceCtorEq,Nat.reduceAdd,Nat.reduceMul,Nat.reduceLeDiff,Nat.reduceLT,Nat.reduceEqDiff,strE_len,hg]
    refine ⟨⟨by omega,by omega⟩,by omega,?_⟩
    refine useBS 1000 s sep (.inr ⟨rfl,rfl⟩) (by simp) (by omega) ?_
    simp only [ZZ,WW,Ze,reduceCtorEq,Nat.reduceAdd,Nat.reduceMul,Nat.reduceLeDiff,Nat.reduceLT,Nat.reduceEqDiff,putSb]
    refine useBS 1000 (s++sep) y (.inr ⟨rfl,rfl⟩) (by simp) (by simp;omega) ?_
    simp only [ZZ,WW,Ze,reduceCtorEq,Nat.reduceAdd,Nat.reduceMul,Nat.reduceLeDiff,Nat.reduceLT,Nat.reduceEqDiff,putSb]
    refine ⟨i64_of (by omega) (by omega),?_⟩
    refine end_round (r.length - (k+1)) [oo,.p (.str sep),oo,oo,oo,oo,oo,oo,.adr (.l 8) 0,oo,oo,oo,oo,oo,oo,oo,oo,oo,oo,oo,oo,oo,oo,oo,oo,oo,oo,oo,oo,oo,oo,oo,oo,oo,oo,oo,oo,oo,oo,oo,oo,oo,oo,oo,oo,oo,oo,oo,oo,oo,oo,oo,oo,oo,oo,oo,oo,oo,oo,oo,oo,oo,oo,.p (.sl 1 (strE r)),.p (int (r.length:Nat)),.p (int ((k+1):Nat)),oo,oo,oo,oo,oo,oo,oo,oo,oo] [(.l 8,.box [.adr (.l 8) 0,.row (.l 1000)] tSb),(.l 1000,.row (bytC (s++sep++y)) tU8 1 true)] (by omega) (by (simp only [ZZ,WW,Ze,reduceCtorEq,Nat.reduceAdd,Nat.reduceMul,Nat.reduceLeDiff,Nat.reduceLT,Nat.reduceEqDiff];try trivial)) (by (simp only [ZZ,WW,Ze,reduceCtorEq,Nat.reduceAdd,Nat.reduceMul,Nat.reduceLeDiff,Nat.reduceLT,Nat.reduceEqDiff];try trivial)) ⟨k+1,s++sep++y,by omega,rfl,by rw [hj1,hs];simp,rfl,rfl⟩
   ·intro h
    have hge:k=r.length:=by have:=of_decide_eq_false h;omega
    subst hge
    simp only [ZZ,WW,Ze,reduceCtorEq,Nat.reduceAdd,Nat.reduceMul,Nat.reduceLeDiff,Nat.reduceLT,Nat.reduceEqDiff]
    refine useBT 1000 s (.inr ⟨rfl,rfl⟩) (by simp) ?_
    simp only [ZZ,WW,Ze,reduceCtorEq,Nat.reduceAdd,Nat.reduceMul,Nat.reduceLeDiff,Nat.reduceLT,Nat.reduceEqDiff]
    rw [hs,List.take_length,Lib.join_cons]
end
section
variable {E:Envt}
end
end Go.Proofs.YtehfjlpenlffmaaGreatDoor
namespace Go.Proofs.YtehfjlpenlffmaaGreatDoor
theorem mpF_mpS:∀ (kv:List (List UInt8×PV)) (s t:List UInt8) (v:PV),mpF (mpS kv s v) t=if s=t then some v else mpF kv t
 |[],s,t,v=>by simp [mpS,mpF]
 |p :: r,s,t,v=>by
  simp only [mpS]
  split
  ·rename_i h
   by_cases hs:s=t
   ·simp [mpF,hs]
   ·simp [mpF,hs,h]
  ·rename_i h
   simp only [mpF,mpF_mpS r s t v]
   by_cases hp:p.1=t
   ·have:¬ s=t:=fun e=>h (hp.trans e.symm)
    simp [hp,this]
   ·simp [hp]
def setOf (kv:List (List UInt8×PV)) (W:List (List UInt8)):Prop:=∀ w,mpD kv w (.bool false)=.bool (decide (w∈W))
theorem setOf_nil:setOf [] []:=fun w=>by simp [mpD,mpF]
theorem setOf_put {kv:List (List UInt8×PV)} {W:List (List UInt8)} (h:setOf kv W) (s:List UInt8):setOf (mpS kv s (.bool true)) (W++[s]):=fun w=>by
 have h:=h w
 unfold mpD at h ⊢
 rw [mpF_mpS]
 by_cases hs:s=w
 ·simp [hs]
 ·have hw:¬ w=s:=fun e=>hs e.symm
  rw [if_neg hs,h]
  simp [hw]
end Go.Proofs.YtehfjlpenlffmaaGreatDoor
namespace Go.Proofs.YtehfjlpenlffmaaGreatDoor
open Go.RowKit
section
variable {P:Program} {E:Envt} {w:World} {U:Nat→Prop}
end
section
variable {E:Envt}
end
end Go.Proofs.YtehfjlpenlffmaaGreatDoor
namespace Go.Proofs.YtehfjlpenlffmaaGreatDoor
def ir_slices_Equal_string_string_L0:IC:=(.seq (.reg [qO 14 (.bin .lss (.t 13) (.t 12))]) (.seq (.cond (.t 14) .skip (.exit 0)) (.seq (.block 1 (.seq (.reg [qM 15 13,qM 5 15]) (.seq (.drg [qM 16 0,qM 17 5,qO 18 (.ixa 1 (.t 16) (.t 17)),qO 19 (.ld 1 false (.t 18)),qM 20 1,qM 21 5,qO 22 (.ixa 1 (.t 20) (.t 21)),qO 23 (.ld 1 false (.t 22)),qO 24 (.bin .neq (.t 19) (.t 23))]) (.cond (.t 24) (.seq (.reg [qO 4 (.mov (.c (.bool false)))]) .ret) .skip)))) (.reg [qO 25 (.bin .add (.t 13) (.c (.int .i64 1))),qM 13 25]))))
def ir_slices_Equal_string_string:IC:=(.seq (.reg [qO 4 (.mov (.c (.bool false)))]) (.seq (.seq (.reg [qM 6 0,qO 7 (.len (.t 6)),qM 8 1,qO 9 (.len (.t 8)),qO 10 (.bin .neq (.t 7) (.t 9))]) (.cond (.t 10) (.seq (.reg [qO 4 (.mov (.c (.bool false)))]) .ret) .skip)) (.seq (.seq (.reg [qM 11 0,qO 12 (.len (.t 11)),qO 13 (.mov (.c (.int .i64 0)))]) (.block 0 (.loop ir_slices_Equal_string_string_L0))) (.seq (.reg [qO 4 (.mov (.c (.bool true)))]) .ret))))
def rs_slices_Equal_string_string:List IRes:=[.t 4]
theorem ck_slices_Equal_string_string:chkF Tryz.prog Tryz.f35 ir_slices_Equal_string_string rs_slices_Equal_string_string 26=true:=by kernel_rfl
section
variable {E:Envt}
theorem EqualT_ok (l m:List (List UInt8)) (hl:l.length≤1000000000):PCall Tryz.prog E 35 [strs l,strs m] (·=.bool (decide (l=m))):=by
 refine pcallF mixed Tryz.func35 ck_slices_Equal_string_string ?_
 simp only [a0,l0,OS.ao,List.map_cons,List.map_nil,List.length_cons,List.length_nil,List.cons_append,List.nil_append,Nat.reduceSub,Nat.reduceAdd,List.replicate_succ,List.replicate_zero,ir_slices_Equal_string_string,rs_slices_Equal_string_string,ZZ,WW,Ze,reduceCtorEq,Nat.reduceAdd,Nat.reduceMul,Nat.reduceLeDiff,Nat.reduceLT,Nat.reduceEqDiff]
 simp only [strs,ZZ,WW,Ze,reduceCtorEq,Nat.reduceAdd,Nat.reduceMul,Nat.reduceLeDiff,Nat.reduceLT,Nat.reduceEqDiff]
 have hln:(l.map fun x=>[PV.str x]).length=l.length:=by simp
 have hlm:(m.map fun x=>[PV.str x]).length=m.length:=by simp
 have hget:∀ k x,l[k]?=some x→(l.map fun x=>[PV.str x]).getD k []=[.str x]:=fun k p hp=>getD_map hp
 have hgem:∀ k x,m[k]?=some x→(m.map fun x=>[PV.str x]).getD k []=[.str x]:=fun k p hp=>getD_map hp
 generalize (l.map fun x=>[PV.str x])=es at *
 generalize (m.map fun x=>[PV.str x])=fs at *
 simp only [ZZ,WW,Ze,reduceCtorEq,Nat.reduceAdd,Nat.reduceMul,Nat.reduceLeDiff,Nat.reduceLT,Nat.reduceEqDiff,hln,hlm]
 refine br ?_ ?_
 ·intro h
  have:¬ l=m:=by rintro rfl;simp at h
  simp only [ZZ,WW,Ze,reduceCtorEq,Nat.reduceAdd,Nat.reduceMul,Nat.reduceLeDiff,Nat.reduceLT,Nat.reduceEqDiff]
  simp [this]
 intro h
 have hlen:l.length=m.length:=by have:(l.length:Int)=m.length:=by simpa using h
                                 omega
 simp only [ZZ,WW,Ze,reduceCtorEq,Nat.reduceAdd,Nat.reduceMul,Nat.reduceLeDiff,Nat.reduceLT,Nat.reduceEqDiff]
 refine loop_intro (fun n fr L=>∃ (k:Nat),k≤l.length∧n=l.length - k∧(l.take k=m.take k)∧fr=[.p (.sl 1 es),.p (.sl 1 fs),oo,oo,oo,oo,oo,oo,oo,oo,oo,oo,.p (int (l.length:Nat)),.p (int (k:Nat)),oo,oo,oo,oo,oo,oo,oo,oo,oo,oo,oo,oo]∧L=[]) (l.length) [.p (.sl 1 es),.p (.sl 1 fs),oo,oo,oo,oo,oo,oo,oo,oo,oo,oo,.p (int (l.length:Nat)),.p (int (0:Nat)),oo,oo,oo,oo,oo,oo,oo,oo,oo,oo,oo,oo] [] (by simp only [hln,ZZ,WW,Ze,reduceCtorEq,Nat.reduceAdd,Nat.reduceMul,Nat.reduceLeDiff,Nat.reduceLT,Nat.reduceEqDiff];try trivial) (by (simp only [ZZ,WW,Ze,reduceCtorEq,Nat.reduceAdd,Nat.reduceMul,Nat.reduceLeDiff,Nat.reduceLT,Nat.reduceEqDiff];try trivial)) ⟨0,by omega,by omega,by simp,rfl,rfl⟩ ?_
 rintro n fr L ⟨k,hk,rfl,hf,rfl,rfl⟩
 simp only [ir_slices_Equal_string_string_L0,ZZ,WW,Ze,reduceCtorEq,Nat.reduceAdd,Nat.reduceMul,Nat.reduceLeDiff,Nat.reduceLT,Nat.reduceEqDiff]
 refine br ?_ ?_
 ·intro h
  have hlt:k < l.length:=by have:=of_decide_eq_true h;omega
  obtain ⟨x,hx⟩:∃ x,l[k]?=some x:=⟨_,List.getElem?_eq_getElem hlt⟩
  obtain ⟨y,hy⟩:∃ y,m[k]?=some y:=⟨_,List.getElem?_eq_getElem (by omega)⟩
  have hg:=hget k x hx
  have hg2:=hgem k y hy
  simp only [ZZ,WW,Ze,reduceCtorEq,Nat.reduceAdd,Nat.reduceMul,Nat.reduceLeDiff,Nat.reduceLT,Nat.reduceEqDiff]
  refine drg0 ?_
  simp only [ZZ,WW,Ze,reduceCtorEq,Nat.reduceAdd,Nat.reduceMul,Nat.reduceLeDiff,Nat.reduceLT,Nat.reduceEqDiff,hg,hg2,hln,hlm]
  ((repeat' (with_reducible apply And.intro))<;>try ((exact sc_)))
  refine br ?_ ?_
  ·intro h2
   have:¬ l=m:=by
    rintro rfl
    rw [hx] at hy
    cases hy
    simp at h2
   simp only [ZZ,WW,Ze,reduceCtorEq,Nat.reduceAdd,Nat.reduceMul,Nat.reduceLeDiff,Nat.reduceLT,Nat.reduceEqDiff]
   simp [this]
  ·intro h2
   have hxy:x=y:=by simpa using h2
   simp only [ZZ,WW,Ze,reduceCtorEq,Nat.reduceAdd,Nat.reduceMul,Nat.reduceLeDiff,Nat.reduceLT,Nat.reduceEqDiff]
   ((repeat' (with_reducible apply And.intro))<;>try ((exact sc_)))
   refine end_round (l.length - (k+1)) [.p (.sl 1 es),.p (.sl 1 fs),oo,oo,oo,oo,oo,oo,oo,oo,oo,oo,.p (int (l.length:Nat)),.p (int ((k+1):Nat)),oo,oo,oo,oo,oo,oo,oo,oo,oo,oo,oo,oo] [] (by omega) (by (simp only [ZZ,WW,Ze,reduceCtorEq,Nat.reduceAdd,Nat.reduceMul,Nat.reduceLeDiff,Nat.reduceLT,Nat.reduceEqDiff];try trivial)) (by (simp only [ZZ,WW,Ze,reduceCtorEq,Nat.reduceAdd,Nat.reduceMul,Nat.reduceLeDiff,Nat.reduceLT,Nat.reduceEqDiff];try trivial)) ⟨k+1,by omega,rfl,by rw [List.take_add_one,List.take_add_one,hf,hx,hy,hxy],rfl,rfl⟩
 ·intro h
  have hge:l.length≤k:=by have:=of_decide_eq_false h;omega
  simp only [ZZ,WW,Ze,reduceCtorEq,Nat.reduceAdd,Nat.reduceMul,Nat.reduceLeDiff,Nat.reduceLT,Nat.reduceEqDiff]
  rw [List.take_of_length_le hge,List.take_of_length_le (by omega)] at hf
  simp [hf]
end
end Go.Proofs.YtehfjlpenlffmaaGreatDoor
namespace Go.Proofs.YtehfjlpenlffmaaGreatDoor
open Go.RowKit
theorem lens_bd (m:Nat):∀ l:List (List UInt8),(∀ x∈l,x.length≤m)→Lib.lens l≤l.length * m
 |[],_=>by simp [Lib.lens]
 |x :: r,h=>by
  have:=lens_bd m r (fun y hy=>h y (by simp [hy]))
  have:=h x (by simp)
  simp only [Lib.lens,List.map_cons,List.sum_cons,List.length_cons,Nat.succ_mul] at *
  omega
section
end
end Go.Proofs.YtehfjlpenlffmaaGreatDoor
