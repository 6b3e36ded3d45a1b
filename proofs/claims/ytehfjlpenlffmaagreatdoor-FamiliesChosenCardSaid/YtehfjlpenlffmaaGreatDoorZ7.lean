import Derived.Test.YtehfjlpenlffmaaGreatDoorZ6
import Derived.Test.YtehfjlpenlffmaaGreatDoorZ5
import Derived.Test.YtehfjlpenlffmaaGreatDoorZ4
import Derived.Test.YtehfjlpenlffmaaGreatDoorRep
import Derived.Test.YtehfjlpenlffmaaGreatDoorLayTrimRight
import Derived.WalkKit
import Derived.OwnWalk
import Derived.Lib.Builder
import Derived.Laws.Externs
import Derived.Maps.AppendAt
import Derived.Shelf.RegionOpenPlain
import Derived.Lib.Strings
import Derived.Lib.Slices
import Derived.Lib.Walk
import Derived.Lib.MakeNoZero
import Derived.Laws.IdiomCopy
import Derived.Laws.BitsLemmas
import Derived.KernelRfl
import Derived.Lib.Join
set_option linter.unusedVariables false
set_option linter.unusedSimpArgs false
set_option linter.defProp false
namespace Go.Proofs.YtehfjlpenlffmaaGreatDoor
open Go.RowKit
section
variable {E:Envt}
end
section
variable {E:Envt}
theorem RepeatG_ok (s:List UInt8) (n:Nat) (hn:n≤1000000) (hs:s.length≤1000000):PCall Tryz.prog E 44 [.str s,int n] (·=.str (Lib.repeatL s n)):=
 pcall_flat rfl rfl fun w _=>(r_Repeat ⟨s.toArray⟩ n w (by omega) (by rw [show (⟨s.toArray⟩:ByteArray).size=s.length from by simp [ByteArray.size]];exact Nat.le_trans (Nat.mul_le_mul hs hn) (by decide))).mono fun e w' h=>⟨h.1,grow_below h.2⟩
end
end Go.Proofs.YtehfjlpenlffmaaGreatDoor
namespace Go.Proofs.YtehfjlpenlffmaaGreatDoor
section
variable {E:Envt}
abbrev Par:=List UInt8×Int×Int
def t1:List UInt8:=[108,101,103,97,108,32,97,100,118,105,99,101]
def t2:List UInt8:=[112,114,105,118,105,108,101,103,101,100,32,97,110,100,32,99,111,110,102,105,100,101,110,116,105,97,108]
def p0:List Par:=[([97,105,100,64,111,117,114,115,46,100,101],1,3),([97,110,110,64,102,105,114,109,46,100,101],1,2),([108,97,119,64,111,117,114,115,46,100,101],1,1)]
def d0 (y:Int):List Par:=[([102,105,114,109,46,100,101],1,4),([120,46,102,105,114,109,46,100,101],y,2),([111,117,114,115,46,100,101],1,4)]
end
section
variable {E:Envt}
end
section
variable {E:Envt}
end
section
variable {E:Envt}
end
def ir_strings_Contains:IC:=(.seq (.reg [qO 4 (.mov (.c (.bool false)))]) (.seq (.reg [qM 5 0,qM 6 1,qO 7 (.call 222 [.t 5,.t 6]),qO 8 (.bin .geq (.t 7) (.c (.int .i64 0))),qM 4 8]) .ret))
def rs_strings_Contains:List IRes:=[.t 4]
theorem ck_strings_Contains:chkF Tryz.prog Tryz.f156 ir_strings_Contains rs_strings_Contains 9=true:=by kernel_rfl
section
theorem Contains_ok (s t:List UInt8) (hs:s.length≤1000000000):PCall Tryz.prog E0 156 [.str s,.str t] (·=.bool (decide (0≤Lib.index s t))):=by
 refine pcallF mixed Tryz.func156 ck_strings_Contains ?_
 simp only [a0,l0,OS.ao,List.map_cons,List.map_nil,List.length_cons,List.length_nil,List.cons_append,List.nil_append,Nat.reduceSub,Nat.reduceAdd,List.replicate_succ,List.replicate_zero,ir_strings_Contains,rs_strings_Contains,ZZ,WW,Ze,reduceCtorEq,Nat.reduceAdd,Nat.reduceMul,Nat.reduceLeDiff,Nat.reduceLT,Nat.reduceEqDiff]
 refine use1 (Index_ok s t hs) rfl (.inl rfl) ?_
 simp only [ZZ,WW,Ze,reduceCtorEq,Nat.reduceAdd,Nat.reduceMul,Nat.reduceLeDiff,Nat.reduceLT,Nat.reduceEqDiff]
end
end Go.Proofs.YtehfjlpenlffmaaGreatDoor
namespace Go.Proofs.YtehfjlpenlffmaaGreatDoor
open Go.RowKit
def ir_base_Plain:IC:=(.seq (.reg [qO 2 (.mov (.c (.bool false)))]) (.seq (.reg [qM 3 0,qO 4 (.call 141 [.t 3,.c (.bool false)]),qM 5 4,⟨some 6,.mov (.t 0),(some (5,true))⟩,⟨some 7,.call 132 [.t 6,.c (.str [32])],(some (5,true))⟩,⟨some 8,.not (.t 7),(some (5,true))⟩,qO 9 (.pick (.t 5) (.t 8) (.c (.bool false))),qM 10 9,⟨some 11,.mov (.t 0),(some (10,true))⟩,⟨some 12,.call 185 [.t 11,.c (.str [32])],(some (10,true))⟩,⟨some 13,.not (.t 12),(some (10,true))⟩,qO 14 (.pick (.t 10) (.t 13) (.c (.bool false))),qM 15 14,⟨some 16,.mov (.t 0),(some (15,true))⟩,⟨some 17,.call 156 [.t 16,.c (.str [32,32])],(some (15,true))⟩,⟨some 18,.not (.t 17),(some (15,true))⟩,qO 19 (.pick (.t 15) (.t 18) (.c (.bool false))),qM 2 19]) .ret))
def rs_base_Plain:List IRes:=[.t 2]
theorem ck_base_Plain:chkF Tryz.prog Tryz.f108 ir_base_Plain rs_base_Plain 20=true:=by kernel_rfl
section
variable {E:Envt}
end
def plainB (s:List UInt8):Bool:=((visE s false && !Lib.hasPrefix s [32]) && !sufE s [32]) && !decide (0≤Lib.index s [32,32])
theorem Plain_ok (s:List UInt8) (hs:s.length≤1000000000):PCall Tryz.prog E0 108 [.str s] (·=.bool (plainB s)):=by
 refine pcallF mixed Tryz.func108 ck_base_Plain ?_
 simp only [a0,l0,OS.ao,List.map_cons,List.map_nil,List.length_cons,List.length_nil,List.cons_append,List.nil_append,Nat.reduceSub,Nat.reduceAdd,List.replicate_succ,List.replicate_zero,ir_base_Plain,rs_base_Plain,ZZ,WW,Ze,reduceCtorEq,Nat.reduceAdd,Nat.reduceMul,Nat.reduceLeDiff,Nat.reduceLT,Nat.reduceEqDiff]
 refine use1 (Visible_ok s false hs) rfl (.inl rfl) ?_
 simp only [ZZ,WW,Ze,reduceCtorEq,Nat.reduceAdd,Nat.reduceMul,Nat.reduceLeDiff,Nat.reduceLT,Nat.reduceEqDiff]
 refine useG (fun _=>HasPrefix_ok s [32]) rfl (.inl rfl) ?_
 simp only [ZZ,WW,Ze,reduceCtorEq,Nat.reduceAdd,Nat.reduceMul,Nat.reduceLeDiff,Nat.reduceLT,Nat.reduceEqDiff]
 refine useG (fun _=>HasSuffix_ok s [32] (by omega)) rfl (.inl rfl) ?_
 simp only [ZZ,WW,Ze,reduceCtorEq,Nat.reduceAdd,Nat.reduceMul,Nat.reduceLeDiff,Nat.reduceLT,Nat.reduceEqDiff]
 refine useG (fun _=>Contains_ok s [32,32] hs) rfl (.inl rfl) ?_
 simp only [ZZ,WW,Ze,reduceCtorEq,Nat.reduceAdd,Nat.reduceMul,Nat.reduceLeDiff,Nat.reduceLT,Nat.reduceEqDiff]
 ((repeat' (with_reducible apply And.intro))<;>try ((exact sc_)))
theorem first_eq {c:UInt8} {a b a' b':List UInt8} (h:a++c :: b=a'++c :: b') (h1:c∉a) (h2:c∉a'):a=a'∧b=b':=by
 induction a generalizing a' with
 |nil=>
  cases a' with
  |nil=>simpa using h
  |cons x a'=>simp only [List.nil_append,List.cons_append,List.cons.injEq] at h;exact absurd (by rw [h.1];simp) h2
 |cons y a ih=>
  cases a' with
  |nil=>simp only [List.nil_append,List.cons_append,List.cons.injEq] at h;exact absurd (by rw [← h.1];simp) h1
  |cons x a'=>
   simp only [List.cons_append,List.cons.injEq] at h
   obtain ⟨e1,e2⟩:=ih h.2 (fun hm=>h1 (by simp [hm])) (fun hm=>h2 (by simp [hm]))
   exact ⟨by rw [h.1,e1],e2⟩
theorem hp1 (c:UInt8) (r:List UInt8):Lib.hasPrefix r [c]=true↔∃ t,r=c :: t:=by
 unfold Lib.hasPrefix
 rw [List.isPrefixOf_iff_prefix]
 constructor
 ·rintro ⟨t,rfl⟩;exact ⟨t,rfl⟩
 ·rintro ⟨t,rfl⟩;exact ⟨t,rfl⟩
section
variable {E:Envt} {L:Objs} {k:Key} {i:Nat} {fr:List AV} {d:Option Nat} {is:List IOper} {Y:List PV} {K:List AV→Objs→Prop}
end
end Go.Proofs.YtehfjlpenlffmaaGreatDoor
