import Derived.Test.YtehfjlpenlffmaaGreatDoorZ6
import Derived.Lib.IndexMore
import Derived.Lib.ValidLaws
import Derived.Test.YtehfjlpenlffmaaGreatDoorLayDecode
import Derived.Test.YtehfjlpenlffmaaGreatDoorZ7
import Derived.Lib.LastIndexByte
import Derived.Test.YtehfjlpenlffmaaGreatDoorLayLastIndex
set_option linter.unusedVariables false
set_option linter.unusedSimpArgs false
set_option linter.defProp false
namespace Go.Proofs.YtehfjlpenlffmaaGreatDoor
end Go.Proofs.YtehfjlpenlffmaaGreatDoor
namespace Go.Proofs.YtehfjlpenlffmaaGreatDoor
open Go.RowKit
def ir_slices_IndexFunc_string_string_L0:IC:=(.seq (.reg [qO 9 (.bin .lss (.t 8) (.t 7))]) (.seq (.cond (.t 9) .skip (.exit 0)) (.seq (.block 1 (.seq (.reg [qM 10 8,qM 5 10]) (.seq (.reg [qM 11 1,qM 12 0,qM 13 5,qO 14 (.ixa 1 (.t 12) (.t 13)),qO 15 (.ld 1 false (.t 14)),qO 16 (.callv (.t 11) [.t 15])]) (.cond (.t 16) (.seq (.reg [qM 17 5,qM 4 17]) .ret) .skip)))) (.reg [qO 18 (.bin .add (.t 8) (.c (.int .i64 1))),qM 8 18]))))
def ir_slices_IndexFunc_string_string:IC:=(.seq (.reg [qO 4 (.mov (.c (.int .i64 0)))]) (.seq (.seq (.reg [qM 6 0,qO 7 (.len (.t 6)),qO 8 (.mov (.c (.int .i64 0)))]) (.block 0 (.loop ir_slices_IndexFunc_string_string_L0))) (.seq (.reg [qO 4 (.mov (.c (.int .i64 (-1))))]) .ret)))
def rs_slices_IndexFunc_string_string:List IRes:=[.t 4]
theorem ck_slices_IndexFunc_string_string:chkF Tryz.prog Tryz.f169 ir_slices_IndexFunc_string_string rs_slices_IndexFunc_string_string 19=true:=by kernel_rfl
def ir_slices_ContainsFunc_string_string:IC:=(.seq (.reg [qO 4 (.mov (.c (.bool false)))]) (.seq (.reg [qM 5 0,qM 6 1,qO 7 (.call 169 [.t 5,.t 6]),qO 8 (.bin .geq (.t 7) (.c (.int .i64 0))),qM 4 8]) .ret))
def rs_slices_ContainsFunc_string_string:List IRes:=[.t 4]
theorem ck_slices_ContainsFunc_string_string:chkF Tryz.prog Tryz.f84 ir_slices_ContainsFunc_string_string rs_slices_ContainsFunc_string_string 9=true:=by kernel_rfl
section
variable {E:Envt}
def idxF {α:Type} (q:α→Bool) (l:List α):Int:=match l.findIdx? q with|some i=>(i:Int)|none=>-1
theorem idxF_hit {α:Type} {q:α→Bool} {l:List α} {k:Nat} {x:α} (h:l[k]?=some x) (hx:q x=true) (hno:∀ y∈l.take k,q y=false):idxF q l=k:=by
 obtain ⟨hk,hxk⟩:=List.getElem?_eq_some_iff.1 h
 have:l.findIdx? q=some k:=by
  rw [List.findIdx?_eq_some_iff_getElem]
  refine ⟨hk,by rw [hxk];exact hx,fun j hj=>?_⟩
  have:=hno l[j] (by rw [List.mem_take_iff_getElem];exact ⟨j,by omega,rfl⟩)
  simp [this]
 simp [idxF,this]
theorem idxF_none {α:Type} {q:α→Bool} {l:List α} (hno:∀ y∈l,q y=false):idxF q l=-1:=by
 have:l.findIdx? q=none:=by rw [List.findIdx?_eq_none_iff];exact hno
 simp [idxF,this]
theorem idxF_any {α:Type} (q:α→Bool) (l:List α):decide ((0:Int)≤idxF q l)=l.any q:=by
 rw [← List.findIdx?_isSome]
 unfold idxF
 cases l.findIdx? q<;>simp
end
section
variable {E:Envt}
end
end Go.Proofs.YtehfjlpenlffmaaGreatDoor
namespace Go.Proofs.YtehfjlpenlffmaaGreatDoor
theorem mpF_mpS:∀ (kv:List (List UInt8×PV)) (s t:List UInt8) (v:PV),mpF (mpS kv s v) t=if s=t then some v else mpF kv t
 |[],s,t,v=>by simp [mpS,mpF]
 |p :: r,s,t,v=>by
  simp only [mpS]
  split
  ·rename_i h
   by_cases hs:s=t
   ·simp [mpF,hs]
   ·simp [mpF,hs,h]
  ·rename_i h
   simp only [mpF,mpF_mpS r s t v]
   by_cases hp:p.1=t
   ·have:¬ s=t:=fun e=>h (hp.trans e.symm)
    simp [hp,this]
   ·simp [hp]
end Go.Proofs.YtehfjlpenlffmaaGreatDoor
namespace Go.Proofs.YtehfjlpenlffmaaGreatDoor
open Go.RowKit
section
variable {P:Program} {E:Envt} {w:World} {U:Nat→Prop}
end
section
variable {E:Envt}
end
end Go.Proofs.YtehfjlpenlffmaaGreatDoor
namespace Go.Proofs.YtehfjlpenlffmaaGreatDoor
def ir_slices_Equal_string_string_L0:IC:=(.seq (.reg [qO 14 (.bin .lss (.t 13) (.t 12))]) (.seq (.cond (.t 14) .skip (.exit 0)) (.seq (.block 1 (.seq (.reg [qM 15 13,qM 5 15]) (.seq (.drg [qM 16 0,qM 17 5,qO 18 (.ixa 1 (.t 16) (.t 17)),qO 19 (.ld 1 false (.t 18)),qM 20 1,qM 21 5,qO 22 (.ixa 1 (.t 20) (.t 21)),qO 23 (.ld 1 false (.t 22)),qO 24 (.bin .neq (.t 19) (.t 23))]) (.cond (.t 24) (.seq (.reg [qO 4 (.mov (.c (.bool false)))]) .ret) .skip)))) (.reg [qO 25 (.bin .add (.t 13) (.c (.int .i64 1))),qM 13 25]))))
def ir_slices_Equal_string_string:IC:=(.seq (.reg [qO 4 (.mov (.c (.bool false)))]) (.seq (.seq (.reg [qM 6 0,qO 7 (.len (.t 6)),qM 8 1,qO 9 (.len (.t 8)),qO 10 (.bin .neq (.t 7) (.t 9))]) (.cond (.t 10) (.seq (.reg [qO 4 (.mov (.c (.bool false)))]) .ret) .skip)) (.seq (.seq (.reg [qM 11 0,qO 12 (.len (.t 11)),qO 13 (.mov (.c (.int .i64 0)))]) (.block 0 (.loop ir_slices_Equal_string_string_L0))) (.seq (.reg [qO 4 (.mov (.c (.bool true)))]) .ret))))
def rs_slices_Equal_string_string:List IRes:=[.t 4]
theorem ck_slices_Equal_string_string:chkF Tryz.prog Tryz.f35 ir_slices_Equal_string_string rs_slices_Equal_string_string 26=true:=by kernel_rfl
section
variable {E:Envt}
theorem EqualT_ok (l m:List (List UInt8)) (hl:l.length≤1000000000):PCall Tryz.prog E 35 [strs l,strs m] (·=.bool (decide (l=m))):=by
 refine pcallF mixed Tryz.func35 ck_slices_Equal_string_string ?_
 simp only [a0,l0,OS.ao,List.map_cons,List.map_nil,List.length_cons,List.length_nil,List.cons_append,List.nil_append,Nat.reduceSub,Nat.reduceAdd,List.replicate_succ,List.replicate_zero,ir_slices_Equal_string_string,rs_slices_Equal_string_string,ZZ,WW,Ze,reduceCtorEq,Nat.reduceAdd,Nat.reduceMul,Nat.reduceLeDiff,Nat.reduceLT,Nat.reduceEqDiff]
 simp only [strs,ZZ,WW,Ze,reduceCtorEq,Nat.reduceAdd,Nat.reduceMul,Nat.reduceLeDiff,Nat.reduceLT,Nat.reduceEqDiff]
 have hln:(l.map fun x=>[PV.str x]).length=l.length:=by simp
 have hlm:(m.map fun x=>[PV.str x]).length=m.length:=by simp
 have hget:∀ k x,l[k]?=some x→(l.map fun x=>[PV.str x]).getD k []=[.str x]:=fun k p hp=>getD_map hp
 have hgem:∀ k x,m[k]?=some x→(m.map fun x=>[PV.str x]).getD k []=[.str x]:=fun k p hp=>getD_map hp
 generalize (l.map fun x=>[PV.str x])=es at *
 generalize (m.map fun x=>[PV.str x])=fs at *
 simp only [ZZ,WW,Ze,reduceCtorEq,Nat.reduceAdd,Nat.reduceMul,Nat.reduceLeDiff,Nat.reduceLT,Nat.reduceEqDiff,hln,hlm]
 refine br ?_ ?_
 ·intro h
  have:¬ l=m:=by rintro rfl;simp at h
  simp only [ZZ,WW,Ze,reduceCtorEq,Nat.reduceAdd,Nat.reduceMul,Nat.reduceLeDiff,Nat.reduceLT,Nat.reduceEqDiff]
  simp [this]
 intro h
 have hlen:l.length=m.length:=by have:(l.length:Int)=m.length:=by simpa using h
                                 omega
 simp only [ZZ,WW,Ze,reduceCtorEq,Nat.reduceAdd,Nat.reduceMul,Nat.reduceLeDiff,Nat.reduceLT,Nat.reduceEqDiff]
 refine loop_intro (fun n fr L=>∃ (k:Nat),k≤l.length∧n=l.length - k∧(l.take k=m.take k)∧fr=[.p (.sl 1 es),.p (.sl 1 fs),oo,oo,oo,oo,oo,oo,oo,oo,oo,oo,.p (int (l.length:Nat)),.p (int (k:Nat)),oo,oo,oo,oo,oo,oo,oo,oo,oo,oo,oo,oo]∧L=[]) (l.length) [.p (.sl 1 es),.p (.sl 1 fs),oo,oo,oo,oo,oo,oo,oo,oo,oo,oo,.p (int (l.length:Nat)),.p (int (0:Nat)),oo,oo,oo,oo,oo,oo,oo,oo,oo,oo,oo,oo] [] (by simp only [hln,ZZ,WW,Ze,reduceCtorEq,Nat.reduceAdd,Nat.reduceMul,Nat.reduceLeDiff,Nat.reduceLT,Nat.reduceEqDiff];try trivial) (by (simp only [ZZ,WW,Ze,reduceCtorEq,Nat.reduceAdd,Nat.reduceMul,Nat.reduceLeDiff,Nat.reduceLT,Nat.reduceEqDiff];try trivial)) ⟨0,by omega,by omega,by simp,rfl,rfl⟩ ?_
 rintro n fr L ⟨k,hk,rfl,hf,rfl,rfl⟩
 simp only [ir_slices_Equal_string_string_L0,ZZ,WW,Ze,reduceCtorEq,Nat.reduceAdd,Nat.reduceMul,Nat.reduceLeDiff,Nat.reduceLT,Nat.reduceEqDiff]
 refine br ?_ ?_
 ·intro h
  have hlt:k < l.length:=by have:=of_decide_eq_true h;omega
  obtain ⟨x,hx⟩:∃ x,l[k]?=some x:=⟨_,List.getElem?_eq_getElem hlt⟩
  obtain ⟨y,hy⟩:∃ y,m[k]?=some y:=⟨_,List.getElem?_eq_getElem (by omega)⟩
  have hg:=hget k x hx
  have hg2:=hgem k y hy
  simp only [ZZ,WW,Ze,reduceCtorEq,Nat.reduceAdd,Nat.reduceMul,Nat.reduceLeDiff,Nat.reduceLT,Nat.reduceEqDiff]
  refine drg0 ?_
  simp only [ZZ,WW,Ze,reduceCtorEq,Nat.reduceAdd,Nat.reduceMul,Nat.reduceLeDiff,Nat.reduceLT,Nat.reduceEqDiff,hg,hg2,hln,hlm]
  ((repeat' (with_reducible apply And.intro))<;>try ((exact sc_)))
  refine br ?_ ?_
  ·intro h2
   have:¬ l=m:=by
    rintro rfl
    rw [hx] at hy
    cases hy
    simp at h2
   simp only [ZZ,WW,Ze,reduceCtorEq,Nat.reduceAdd,Nat.reduceMul,Nat.reduceLeDiff,Nat.reduceLT,Nat.reduceEqDiff]
   simp [this]
  ·intro h2
   have hxy:x=y:=by simpa using h2
   simp only [ZZ,WW,Ze,reduceCtorEq,Nat.reduceAdd,Nat.reduceMul,Nat.reduceLeDiff,Nat.reduceLT,Nat.reduceEqDiff]
   ((repeat' (with_reducible apply And.intro))<;>try ((exact sc_)))
   refine end_round (l.length - (k+1)) [.p (.sl 1 es),.p (.sl 1 fs),oo,oo,oo,oo,oo,oo,oo,oo,oo,oo,.p (int (l.length:Nat)),.p (int ((k+1):Nat)),oo,oo,oo,oo,oo,oo,oo,oo,oo,oo,oo,oo] [] (by omega) (by (simp only [ZZ,WW,Ze,reduceCtorEq,Nat.reduceAdd,Nat.reduceMul,Nat.reduceLeDiff,Nat.reduceLT,Nat.reduceEqDiff];try trivial)) (by (simp only [ZZ,WW,Ze,reduceCtorEq,Nat.reduceAdd,Nat.reduceMul,Nat.reduceLeDiff,Nat.reduceLT,Nat.reduceEqDiff];try trivial)) ⟨k+1,by omega,rfl,by rw [List.take_add_one,List.take_add_one,hf,hx,hy,hxy],rfl,rfl⟩
 ·intro h
  have hge:l.length≤k:=by have:=of_decide_eq_false h;omega
  simp only [ZZ,WW,Ze,reduceCtorEq,Nat.reduceAdd,Nat.reduceMul,Nat.reduceLeDiff,Nat.reduceLT,Nat.reduceEqDiff]
  rw [List.take_of_length_le hge,List.take_of_length_le (by omega)] at hf
  simp [hf]
end
end Go.Proofs.YtehfjlpenlffmaaGreatDoor
namespace Go.Proofs.YtehfjlpenlffmaaGreatDoor
open Go.RowKit
section
end
def sp (c:UInt8):List UInt8→List (List UInt8)
 |[]=>[[]]
 |x :: s=>if x=c then [] :: sp c s else (x :: (sp c s).headD []) :: (sp c s).tail
theorem suf1 (s:List UInt8) (c:UInt8):sufE s [c]=true↔∃ t,s=t++[c]:=by
 unfold sufE
 simp only [Bool.and_eq_true,decide_eq_true_eq,List.length_cons,List.length_nil,Nat.zero_add]
 constructor
 ·rintro ⟨_,h⟩
  exact ⟨s.take (s.length - 1),by rw [← h,List.take_append_drop]⟩
 ·rintro ⟨t,rfl⟩
  simp
  omega
theorem trimR_len (s:List UInt8) (cs:List UInt8):(Lib.trimRightS s cs).length≤s.length:=by
 unfold Lib.trimRightS
 have:=(List.dropWhile_suffix (l:=s.reverse) (fun x=>cs.contains x)).length_le
 simpa using this
theorem trimS_len (s:List UInt8) (cs:List UInt8):(Lib.trimS s cs).length≤s.length:=by
 unfold Lib.trimS Lib.trimLeftS
 exact Nat.le_trans (List.dropWhile_suffix _).length_le (trimR_len s cs)
theorem trimR_pre (s:List UInt8) (cs:List UInt8):Lib.trimRightS s cs <+: s:=by
 unfold Lib.trimRightS
 have:=List.reverse_prefix.2 (List.dropWhile_suffix (l:=s.reverse) (fun x=>cs.contains x))
 rwa [List.reverse_reverse] at this
theorem trim_id (s:List UInt8):decide (Lib.trimS s [32]=s)=(!Lib.hasPrefix s [32] && !sufE s [32]):=by
 by_cases h1:Lib.hasPrefix s [32]=true
 ·obtain ⟨t,rfl⟩:=(hp1 _ _).1 h1
  rw [h1,decide_eq_false]
  ·rfl
  ·intro h
   have hl:=congrArg List.length h
   have hp:=trimR_pre (32 :: t) [32]
   unfold Lib.trimS Lib.trimLeftS at hl
   cases hu:Lib.trimRightS (32 :: t) [32] with
   |nil=>rw [hu] at hl;simp at hl
   |cons y u=>
    rw [hu] at hl hp
    have hy:y=32:=by obtain ⟨r,hr⟩:=hp;simp at hr;exact hr.1
    subst hy
    have h2:=hp.length_le
    have h3:=(List.dropWhile_suffix (l:=u) (fun x=>[(32:UInt8)].contains x)).length_le
    simp [List.dropWhile_cons] at hl h2 h3
    omega
 ·have h1':Lib.hasPrefix s [32]=false:=Bool.eq_false_iff.2 h1
  rw [h1']
  by_cases h2:sufE s [32]=true
  ·rw [h2,decide_eq_false]
   ·rfl
   ·intro h
    obtain ⟨t,rfl⟩:=(suf1 _ _).1 h2
    have hl:=congrArg List.length h
    have h3:=trimS_len t [32]
    have e:Lib.trimS (t++[32]) [32]=Lib.trimS t [32]:=by
     unfold Lib.trimS Lib.trimRightS
     simp [List.dropWhile_cons]
    rw [e] at hl
    simp at hl
    omega
  ·have h2':sufE s [32]=false:=Bool.eq_false_iff.2 h2
   rw [h2',decide_eq_true]
   ·rfl
   ·have hr:Lib.trimRightS s [32]=s:=by
     unfold Lib.trimRightS
     cases hs:s.reverse with
     |nil=>simp at hs;subst hs;rfl
     |cons y r=>
      have hy:y≠32:=by
       rintro rfl
       apply h2
       refine (suf1 _ _).2 ⟨r.reverse,?_⟩
       have:=congrArg List.reverse hs
       simpa using this
      rw [List.dropWhile_cons,if_neg (by simp [hy]),← hs,List.reverse_reverse]
    unfold Lib.trimS
    rw [hr]
    unfold Lib.trimLeftS
    cases s with
    |nil=>rfl
    |cons y r=>
     have hy:y≠32:=by
      rintro rfl
      exact h1 ((hp1 _ _).2 ⟨r,rfl⟩)
     rw [List.dropWhile_cons,if_neg (by simp [hy])]
def ir_chaseref1_PlainOf:IC:=(.seq (.reg [qO 2 (.mov (.c (.bool false)))]) (.seq (.reg [qM 3 0,qO 4 (.call 147 [.t 3,.c (.bool false)]),qM 5 4,⟨some 6,.mov (.t 0),(some (5,true))⟩,⟨some 7,.call 155 [.t 6,.c (.str [32])],(some (5,true))⟩,⟨some 8,.mov (.t 0),(some (5,true))⟩,⟨some 9,.bin .eql (.t 7) (.t 8),(some (5,true))⟩,qO 10 (.pick (.t 5) (.t 9) (.c (.bool false))),qM 11 10,⟨some 12,.mov (.t 0),(some (11,true))⟩,⟨some 13,.call 156 [.t 12,.c (.str [32,32])],(some (11,true))⟩,⟨some 14,.not (.t 13),(some (11,true))⟩,qO 15 (.pick (.t 11) (.t 14) (.c (.bool false))),qM 2 15]) .ret))
def rs_chaseref1_PlainOf:List IRes:=[.t 2]
theorem ck_chaseref1_PlainOf:chkF Tryz.prog Tryz.f76 ir_chaseref1_PlainOf rs_chaseref1_PlainOf 16=true:=by kernel_rfl
theorem PlainOf_ok (s:List UInt8) (hs:s.length≤1000000000):PCall Tryz.prog E0 76 [.str s] (·=.bool (plainB s)):=by
 refine pcallF mixed Tryz.func76 ck_chaseref1_PlainOf ?_
 simp only [a0,l0,OS.ao,List.map_cons,List.map_nil,List.length_cons,List.length_nil,List.cons_append,List.nil_append,Nat.reduceSub,Nat.reduceAdd,List.replicate_succ,List.replicate_zero,ir_chaseref1_PlainOf,rs_chaseref1_PlainOf,ZZ,WW,Ze,reduceCtorEq,Nat.reduceAdd,Nat.reduceMul,Nat.reduceLeDiff,Nat.reduceLT,Nat.reduceEqDiff]
 refine use1 (wellFormed_ok s false hs) rfl (.inl rfl) ?_
 simp only [ZZ,WW,Ze,reduceCtorEq,Nat.reduceAdd,Nat.reduceMul,Nat.reduceLeDiff,Nat.reduceLT,Nat.reduceEqDiff]
 refine useG (fun _=>TrimSet_ok s [32] hs (by decide) (by decide)) rfl (.inl rfl) ?_
 simp only [ZZ,WW,Ze,reduceCtorEq,Nat.reduceAdd,Nat.reduceMul,Nat.reduceLeDiff,Nat.reduceLT,Nat.reduceEqDiff]
 refine useG (fun _=>Contains_ok s [32,32] hs) rfl (.inl rfl) ?_
 simp only [ZZ,WW,Ze,reduceCtorEq,Nat.reduceAdd,Nat.reduceMul,Nat.reduceLeDiff,Nat.reduceLT,Nat.reduceEqDiff]
 rw [plainB,trim_id]
 cases visE s false<;>cases Lib.hasPrefix s [32]<;>cases sufE s [32]<;>rfl
end Go.Proofs.YtehfjlpenlffmaaGreatDoor
