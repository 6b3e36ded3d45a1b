import Derived.Test.YtehfjlpenlffmaaGreatDoorZ12
import Derived.Test.YtehfjlpenlffmaaGreatDoorZ13
import Derived.Test.YtehfjlpenlffmaaGreatDoorZ4
import Derived.Test.YtehfjlpenlffmaaGreatDoorLayBitsLen
import Derived.Test.YtehfjlpenlffmaaGreatDoorZ10
set_option linter.unusedVariables false
set_option linter.unusedSimpArgs false
set_option linter.defProp false
namespace Go.Proofs.YtehfjlpenlffmaaGreatDoor
open Go.RowKit
def ir_produce_rulings_L1:IC:=(.seq (.reg [qO 27 (.bin .lss (.t 26) (.t 25))]) (.seq (.cond (.t 27) .skip (.exit 2)) (.seq (.block 3 (.seq (.reg [qO 28 (.ixa 3 (.t 24) (.t 26)),qO 29 (.ld 3 true (.t 28)),qO 9 (.alc 76 [.str [],.int .i64 0,.nl 2]),⟨none,.st 3 (.t 9) (.t 29),none⟩]) (.reg [qM 30 5,qO 31 (.fla 0 (.t 9)),qO 32 (.ld 1 false (.t 31)),qO 33 (.ld 3 true (.t 9)),⟨none,.mpu (.t 30) (.t 32) (.t 33),none⟩]))) (.reg [qO 34 (.bin .add (.t 26) (.c (.int .i64 1))),qM 26 34]))))
def ir_produce_rulings_L0:IC:=(.seq (.reg [qO 14 (.bin .lss (.t 13) (.t 12))]) (.seq (.cond (.t 14) .skip (.exit 0)) (.seq (.block 1 (.seq (.reg [qO 15 (.ixa 7 (.t 11) (.t 13)),qO 16 (.ld 7 true (.t 15)),qO 7 (.alc 80 [.str [],.str [],.int .i64 0,.str [],.int .i64 0,.str [],.str []]),⟨none,.st 7 (.t 7) (.t 16),none⟩]) (.reg [qM 17 5,qO 18 (.fla 0 (.t 7)),qO 19 (.ld 1 false (.t 18)),qO 20 (.fla 0 (.t 7)),qO 21 (.ld 1 false (.t 20)),qO 22 (.bld [.str [],.int .i64 0,.nl 2] [(0,1,.t 21),(1,1,.c (.int .i64 3))]),⟨none,.mpu (.t 17) (.t 19) (.t 22),none⟩]))) (.reg [qO 23 (.bin .add (.t 13) (.c (.int .i64 1))),qM 13 23]))))
def ir_produce_rulings:IC:=(.seq (.reg [qO 4 (.mov (.c (.raw (.map none))))]) (.seq (.reg [qO 10 (.mkm 9 76),qM 5 10]) (.seq (.seq (.reg [qM 11 0,qO 12 (.len (.t 11)),qO 13 (.mov (.c (.int .i64 0)))]) (.block 0 (.loop ir_produce_rulings_L0))) (.seq (.seq (.reg [qM 24 1,qO 25 (.len (.t 24)),qO 26 (.mov (.c (.int .i64 0)))]) (.block 2 (.loop ir_produce_rulings_L1))) (.seq (.reg [qM 35 5,qM 4 35]) .ret)))))
def rs_produce_rulings:List IRes:=[.t 4]
theorem ck_produce_rulings:chkF Tryz.prog Tryz.f122 ir_produce_rulings rs_produce_rulings 36=true:=by kernel_rfl
def ir_produce_chosen_L0:IC:=(.seq (.reg [qO 27 (.bin .lss (.t 26) (.t 25))]) (.seq (.cond (.t 27) .skip (.exit 0)) (.seq (.block 1 (.seq (.reg [qO 28 (.ixa 2 (.t 24) (.t 26)),qO 29 (.ld 2 true (.t 28)),qO 13 (.alc 119 [.str [],.nl 1]),⟨none,.st 2 (.t 13) (.t 29),none⟩]) (.seq (.reg [qO 30 (.fla 1 (.t 13)),qO 31 (.ld 1 false (.t 30)),qO 32 (.mkf 162 [.t 8]),qO 33 (.call 84 [.t 31,.t 32])]) (.cond (.t 33) (.reg [qM 34 11,qO 35 (.ld 2 true (.t 13)),qO 36 (.bsl 2 [.t 35]),qO 37 (.app 119 2 40 (.t 34) (.t 36)),qM 11 37]) .skip)))) (.cut (.reg [qO 38 (.bin .add (.t 26) (.c (.int .i64 1))),qM 26 38])))))
def ir_produce_chosen:IC:=(.seq (.reg [qO 5 (.box 3 (.t 2)),qO 6 (.mov (.c (.nl 2)))]) (.seq (.reg [qM 14 0,qO 15 (.call 78 [.t 14]),qM 16 0,qM 17 1,qO 18 (.call 122 [.t 16,.t 17]),qO 7 (.alc 115 [.raw (.map none)]),qO 8 (.alc 149 [.raw (.map none)]),⟨none,.st 1 (.t 7) (.t 15),none⟩,⟨none,.st 1 (.t 8) (.t 18),none⟩]) (.seq (.reg [qM 20 0,⟨none,.re,none⟩,qO 21 (.call 161 [.t 20]),qM 19 21,qO 22 (.ext 0 (.t 19)),qO 23 (.ext 1 (.t 19)),qM 9 22,qM 10 23]) (.seq (.reg [qO 11 (.nilr 119 2)]) (.seq (.seq (.reg [qM 24 9,qO 25 (.len (.t 24)),qO 26 (.mov (.c (.int .i64 0)))]) (.block 0 (.loop ir_produce_chosen_L0))) (.seq (.reg [qM 39 11,qO 40 (.mkf 163 [.t 7,.t 5]),qO 41 (.call 87 [.t 39,.t 40])]) (.seq (.reg [qM 42 11,qM 6 42]) .ret)))))))
def rs_produce_chosen:List IRes:=[.t 6]
theorem ck_produce_chosen:chkF Tryz.prog Tryz.f80 ir_produce_chosen rs_produce_chosen 43=true:=by kernel_rfl
def ir_produce_chosen_1:IC:=(.seq (.reg [qO 3 (.mov (.c (.bool false)))]) (.seq (.reg [qO 4 (.ld 1 false (.t 1)),qM 5 0,qO 6 (.mpl false (.agg [.str [],.int .i64 0,.nl 2]) (.t 4) (.t 5)),qO 7 (.fld 1 1 false (.t 6)),qO 8 (.bin .eql (.t 7) (.c (.int .i64 1))),qM 3 8]) .ret))
def rs_produce_chosen_1:List IRes:=[.t 3]
theorem ck_produce_chosen_1:chkF Tryz.prog Tryz.f162 ir_produce_chosen_1 rs_produce_chosen_1 9=true:=by kernel_rfl
def ir_produce_chosen_2:IC:=(.seq (.reg [qO 4 (.box 119 (.t 0)),qO 5 (.box 119 (.t 1)),qO 6 (.mov (.c (.int .i64 0)))]) (.seq (.drg [⟨none,.hole 7,none⟩,⟨none,.hole 8,none⟩,qO 11 (.ld 1 false (.t 2)),qO 12 (.fla 0 (.t 4)),qO 13 (.ld 1 false (.t 12)),qO 14 (.mpl false (.agg [.str [],.str [],.int .i64 0,.str [],.int .i64 0,.str [],.str []]) (.t 11) (.t 13)),qO 15 (.ld 1 false (.t 2)),qO 16 (.fla 0 (.t 5)),qO 17 (.ld 1 false (.t 16)),qO 18 (.mpl false (.agg [.str [],.str [],.int .i64 0,.str [],.int .i64 0,.str [],.str []]) (.t 15) (.t 17)),qO 7 (.alcd 80 [.str [],.str [],.int .i64 0,.str [],.int .i64 0,.str [],.str []]),qO 8 (.alcd 80 [.str [],.str [],.int .i64 0,.str [],.int .i64 0,.str [],.str []]),⟨none,.st 7 (.t 7) (.t 14),none⟩,⟨none,.st 7 (.t 8) (.t 18),none⟩]) (.seq (.reg [qO 9 (.mov (.c (.int .i64 0))),qO 10 (.mov (.c (.int .i64 0)))]) (.seq (.seq (.reg [qO 19 (.ld 1 false (.t 3)),qO 20 (.bin .eql (.t 19) (.c (.int .i64 3)))]) (.cond (.t 20) (.reg [qO 21 (.fla 1 (.t 7)),qO 22 (.ld 1 false (.t 21)),qO 23 (.fla 1 (.t 8)),qO 24 (.ld 1 false (.t 23)),qO 25 (.call 89 [.t 22,.t 24]),qM 9 25]) .skip)) (.cut (.seq (.seq (.reg [qO 26 (.ld 1 false (.t 3)),qO 27 (.bin .neq (.t 26) (.c (.int .i64 1)))]) (.cond (.t 27) (.reg [qO 28 (.fla 4 (.t 7)),qO 29 (.ld 1 false (.t 28)),qO 30 (.fla 4 (.t 8)),qO 31 (.ld 1 false (.t 30)),qO 32 (.bin .sub (.t 29) (.t 31)),qM 10 32]) .skip)) (.cut (.seq (.reg [qM 33 9,qM 34 10,qO 35 (.fla 0 (.t 4)),qO 36 (.ld 1 false (.t 35)),qO 37 (.fla 0 (.t 5)),qO 38 (.ld 1 false (.t 37)),qO 39 (.call 89 [.t 36,.t 38]),qO 40 (.bsl 1 [.t 33,.t 34,.t 39]),qO 41 (.call 91 [.t 40]),qM 6 41]) .ret))))))))
def rs_produce_chosen_2:List IRes:=[.t 6]
theorem ck_produce_chosen_2:chkF Tryz.prog Tryz.f163 ir_produce_chosen_2 rs_produce_chosen_2 42=true:=by kernel_rfl
def ir_produce_Chosen:IC:=(.seq (.reg [qO 6 (.mov (.c (.nl 2))),qO 7 (.mov (.c (.int .i64 0)))]) (.seq (.seq (.reg [qM 9 0,qM 10 1,qO 11 (.call 23 [.t 9,.t 10]),qM 12 2,qO 13 (.call 74 [.t 12]),qO 14 (.bsl 1 [.t 11,.t 13]),qO 15 (.call 49 [.t 14]),qM 8 15]) (.seq (.reg [qM 16 8,qO 17 (.bin .neq (.t 16) (.c (.int .i64 0)))]) (.cond (.t 17) (.seq (.reg [qM 18 8,qO 6 (.mov (.c (.nl 2))),qM 7 18]) .ret) .skip))) (.seq (.reg [qM 19 0,qM 20 1,qM 21 2,qO 22 (.call 80 [.t 19,.t 20,.t 21]),qM 6 22,qO 7 (.mov (.c (.int .i64 0)))]) .ret)))
def rs_produce_Chosen:List IRes:=[.t 6,.t 7]
theorem ck_produce_Chosen:chkF Tryz.prog Tryz.f24 ir_produce_Chosen rs_produce_Chosen 23=true:=by kernel_rfl
def RulIs (kv:List (List UInt8×PV)) (l:List Rul):Prop:=∀ s,(∃ r,l.reverse.find? (fun r=>decide (r.id=s))=some r∧mpF kv s=some (.agg (rlV r)))∨(l.reverse.find? (fun r=>decide (r.id=s))=none∧(mpF kv s=none∨mpF kv s=some (.agg [.str s,int 3,.nl 2])))
theorem RulIs.nil:RulIs [] []:=fun s=>.inr ⟨rfl,.inl rfl⟩
theorem RulIs.leave {kv:List (List UInt8×PV)} (h:RulIs kv []) (s:List UInt8):RulIs (mpS kv s (.agg [.str s,int 3,.nl 2])) []:=fun t=>by
 refine .inr ⟨rfl,?_⟩
 rw [mpF_mpS]
 by_cases hs:s=t
 ·rw [if_pos hs,hs]
  exact .inr rfl
 ·rw [if_neg hs]
  rcases h t with ⟨r,h1,_⟩|⟨_,h2⟩
  ·cases h1
  ·exact h2
theorem RulIs.put {kv:List (List UInt8×PV)} {l:List Rul} (h:RulIs kv l) (r:Rul):RulIs (mpS kv r.id (.agg (rlV r))) (l++[r]):=fun s=>by
 rw [mpF_mpS,List.reverse_append,List.reverse_singleton,List.singleton_append,List.find?_cons]
 by_cases hs:r.id=s
 ·rw [if_pos hs]
  exact .inl ⟨r,by simp [hs],rfl⟩
 ·rw [if_neg hs]
  simp only [hs,decide_false]
  exact h s
theorem find_rev:∀ {l:List Rul} (s:List UInt8),(l.map (·.id)).Nodup→l.reverse.find? (fun r=>decide (r.id=s))=l.find? fun r=>decide (r.id=s)
 |[],s,_=>rfl
 |r :: t,s,h=>by
  rw [List.map_cons,List.nodup_cons] at h
  rw [List.reverse_cons,List.find?_append,find_rev s h.2]
  simp only [List.find?_cons,List.find?_nil]
  by_cases hs:r.id=s
  ·have:t.find? (fun r=>decide (r.id=s))=none:=by
    rw [List.find?_eq_none]
    intro x hx e
    rw [decide_eq_true_eq] at e
    exact h.1 (List.mem_map.2 ⟨x,hx,by rw [e,hs]⟩)
   rw [this]
   simp [hs]
  ·simp only [hs,decide_false]
   generalize t.find? (fun r=>decide (r.id=s))=q
   cases q<;>simp [hs]
theorem RulIs.what {kv:List (List UInt8×PV)} {l:List Rul} (h:RulIs kv l) (hn:(l.map (·.id)).Nodup) (s:List UInt8):∃ i w v,(mpF kv s).getD (.agg [.str [],int 0,.nl 2])=.agg [i,int w,v]∧decide (w=1)=showB l s:=by
 unfold showB rlOf
 rcases h s with ⟨r,h1,h2⟩|⟨h1,h2|h2⟩
 ·rw [find_rev s hn] at h1
  exact ⟨_,_,_,by rw [h2];rfl,by rw [h1];rfl⟩
 ·rw [find_rev s hn] at h1
  exact ⟨_,_,_,by rw [h2];rfl,by rw [h1];rfl⟩
 ·rw [find_rev s hn] at h1
  exact ⟨_,_,_,by rw [h2];rfl,by rw [h1];rfl⟩
theorem cb_lt_tr {a b c:List UInt8} (h1:Lib.compareBytes a b < 0) (h2:Lib.compareBytes b c < 0):Lib.compareBytes a c < 0:=by
 have t1:=cb_tr a b c (by omega) (by omega)
 by_cases h:Lib.compareBytes a c=0
 ·have:=cb_zero h
  subst this
  have:=cb_anti a b
  omega
 ·omega
theorem rul_nodup {il:List Itm} {l:List Rul} (h:rulF il l=0):(l.map (·.id)).Nodup:=by
 have h2:firstE ((List.range l.length).map (ruE il l))=0:=by
  unfold rulF at h
  split at h
  ·cases h
  ·exact h
 have hst:∀ k,k+1 < l.length→Lib.compareBytes (l.getD k rl0).id (l.getD (k+1) rl0).id < 0:=by
  intro k hk
  have h3:=firstE_mem h2 (ruE il l (k+1)) (List.mem_map.2 ⟨k+1,by simpa using hk,rfl⟩)
  have h4:=firstE_mem h3 _ (List.mem_cons_of_mem _ (List.mem_cons_self ..))
  have e1:decide (0 < k+1)=true:=by simp
  rw [e1,Bool.true_and,show k+1 - 1=k by omega] at h4
  unfold whenE at h4
  split at h4
  ·cases h4
  ·rename_i h5
   have h6:=cb_less (l.getD (k+1) rl0).id (l.getD k rl0).id
   have h7:=cb_anti (l.getD (k+1) rl0).id (l.getD k rl0).id
   simp only [Bool.or_eq_true,not_or] at h5
   rw [if_neg h5.1,if_pos (by simp only [Bool.not_eq_true] at h5;simp only [h5.1,h5.2];rfl)] at h6
   omega
 have hlt:∀ d k,k+d+1 < l.length→Lib.compareBytes (l.getD k rl0).id (l.getD (k+d+1) rl0).id < 0:=by
  intro d
  induction d with
  |zero=>intro k hk;exact hst k hk
  |succ d ih=>intro k hk;exact cb_lt_tr (ih k (by omega)) (hst (k+d+1) hk)
 rw [List.nodup_iff_pairwise_ne,List.pairwise_map,List.pairwise_iff_getElem]
 intro i j hi hj hij e
 have:=hlt (j - i - 1) i (by omega)
 rw [show i+(j - i - 1)+1=j by omega] at this
 simp only [List.getD,List.getElem?_eq_getElem hi,List.getElem?_eq_getElem hj,Option.getD_some] at this
 rw [e,cb_self] at this
 omega
theorem itOf_time {il:List Itm} (hP:PapOk il) (s:List UInt8):0≤(itOf il s).2.2.2.2.1∧(itOf il s).2.2.2.2.1≤1440:=by
 unfold itOf
 cases hg:getI il s with
 |none=>simp [it0]
 |some y=>
  obtain ⟨j,hj,_⟩:=getI_some hP hg
  exact (hP.2 j y hj).b5
theorem cf3 {α:Type} (a b c:α→α→Int) (x y:α):orC a (orC b c) x y=firstE [a x y,b x y,c x y]:=by
 unfold orC firstE firstE firstE firstE
 split
 ·split
  ·split
   ·assumption
   ·rfl
  ·rfl
 ·rfl
section
variable {E:Envt}
theorem rulings_ok (il:List Itm) (l:List Rul) (hil:il.length≤2000) (hl:l.length≤1000000):PCall Tryz.prog E 122 [.sl 7 (itE il),.sl 3 (rlE l)] (fun x=>∃ kv:List (List UInt8×PV),x=.mpv (kv.map (·.1)) (kv.map (·.2))∧RulIs kv l∧kv.length≤il.length+l.length):=by
 refine pcallF mixed Tryz.func122 ck_produce_rulings ?_
 simp only [a0,l0,OS.ao,List.map_cons,List.map_nil,List.length_cons,List.length_nil,List.cons_append,List.nil_append,Nat.reduceSub,Nat.reduceAdd,List.replicate_succ,List.replicate_zero,ir_produce_rulings,rs_produce_rulings,ZZ,WW,Ze,reduceCtorEq,Nat.reduceAdd,Nat.reduceMul,Nat.reduceLeDiff,Nat.reduceLT,Nat.reduceEqDiff]
 simp only [ZZ,WW,Ze,reduceCtorEq,Nat.reduceAdd,Nat.reduceMul,Nat.reduceLeDiff,Nat.reduceLT,Nat.reduceEqDiff,itE_len]
 refine loop_intro (fun n fr L=>∃ (k:Nat) (kv:List (List UInt8×PV)),k≤il.length∧n=il.length - k∧(RulIs kv [])∧(kv.length≤k)∧fr=[.p (.sl 7 (itE il)),.p (.sl 3 (rlE l)),oo,oo,oo,.mp (.l 10),oo,oo,oo,oo,oo,.p (.sl 7 (itE il)),.p (int (il.length:Nat)),.p (int (k:Nat)),oo,oo,oo,oo,oo,oo,oo,oo,oo,oo,oo,oo,oo,oo,oo,oo,oo,oo,oo,oo,oo,oo]∧L=[(.l 10,.map kv 9 76)]) (il.length) [.p (.sl 7 (itE il)),.p (.sl 3 (rlE l)),oo,oo,oo,.mp (.l 10),oo,oo,oo,oo,oo,.p (.sl 7 (itE il)),.p (int (il.length:Nat)),.p (int (0:Nat)),oo,oo,oo,oo,oo,oo,oo,oo,oo,oo,oo,oo,oo,oo,oo,oo,oo,oo,oo,oo,oo,oo] [(.l 10,.map [] 9 76)] (by simp only [ZZ,WW,Ze,reduceCtorEq,Nat.reduceAdd,Nat.reduceMul,Nat.reduceLeDiff,Nat.reduceLT,Nat.reduceEqDiff,itE_len];try trivial) (by (simp only [ZZ,WW,Ze,reduceCtorEq,Nat.reduceAdd,Nat.reduceMul,Nat.reduceLeDiff,Nat.reduceLT,Nat.reduceEqDiff];try trivial)) ⟨0,[],by omega,by omega,RulIs.nil,by simp,rfl,rfl⟩ ?_
 rintro n fr L ⟨k,kv,hk,rfl,hkv,hkn,rfl,rfl⟩
 simp only [ir_produce_rulings_L0,ZZ,WW,Ze,reduceCtorEq,Nat.reduceAdd,Nat.reduceMul,Nat.reduceLeDiff,Nat.reduceLT,Nat.reduceEqDiff]
 refine br ?_ ?_
 ·intro h
  have hlt:k < il.length:=by have:=of_decide_eq_true h;omega
  obtain ⟨x,hx⟩:∃ x,il[k]?=some x:=⟨_,List.getElem?_eq_getElem hlt⟩
  have hg:=itE_get hx
  simp only [itC] at hg
  simp only [ZZ,WW,Ze,reduceCtorEq,Nat.reduceAdd,Nat.reduceMul,Nat.reduceLeDiff,Nat.reduceLT,Nat.reduceEqDiff,hg,itE_len]
  ((repeat' (with_reducible apply And.intro))<;>try ((exact sc_)))
  refine end_round (il.length - (k+1)) [.p (.sl 7 (itE il)),.p (.sl 3 (rlE l)),oo,oo,oo,.mp (.l 10),oo,oo,oo,oo,oo,.p (.sl 7 (itE il)),.p (int (il.length:Nat)),.p (int ((k+1):Nat)),oo,oo,oo,oo,oo,oo,oo,oo,oo,oo,oo,oo,oo,oo,oo,oo,oo,oo,oo,oo,oo,oo] [(.l 10,.map (mpS kv x.1 (.agg [.str x.1,int 3,.nl 2])) 9 76)] (by omega) (by (simp only [ZZ,WW,Ze,reduceCtorEq,Nat.reduceAdd,Nat.reduceMul,Nat.reduceLeDiff,Nat.reduceLT,Nat.reduceEqDiff];try trivial)) (by (simp only [ZZ,WW,Ze,reduceCtorEq,Nat.reduceAdd,Nat.reduceMul,Nat.reduceLeDiff,Nat.reduceLT,Nat.reduceEqDiff];try trivial)) ⟨k+1,mpS kv x.1 (.agg [.str x.1,int 3,.nl 2]),by omega,rfl,hkv.leave _,Nat.le_trans (mpS_le _ _ _) (by omega),rfl,rfl⟩
 intro h
 have hge:il.length≤k:=by have:=of_decide_eq_false h;omega
 simp only [ZZ,WW,Ze,reduceCtorEq,Nat.reduceAdd,Nat.reduceMul,Nat.reduceLeDiff,Nat.reduceLT,Nat.reduceEqDiff,rlE_len]
 refine loop_intro (fun n fr L=>∃ (k:Nat) (kw:List (List UInt8×PV)),k≤l.length∧n=l.length - k∧(RulIs kw (l.take k))∧(kw.length≤il.length+k)∧fr=[oo,oo,oo,oo,oo,.mp (.l 10),oo,oo,oo,oo,oo,oo,oo,oo,oo,oo,oo,oo,oo,oo,oo,oo,oo,oo,.p (.sl 3 (rlE l)),.p (int (l.length:Nat)),.p (int (k:Nat)),oo,oo,oo,oo,oo,oo,oo,oo,oo]∧L=[(.l 10,.map kw 9 76)]) (l.length) [oo,oo,oo,oo,oo,.mp (.l 10),oo,oo,oo,oo,oo,oo,oo,oo,oo,oo,oo,oo,oo,oo,oo,oo,oo,oo,.p (.sl 3 (rlE l)),.p (int (l.length:Nat)),.p (int (0:Nat)),oo,oo,oo,oo,oo,oo,oo,oo,oo] [(.l 10,.map kv 9 76)] (by simp only [ZZ,WW,Ze,reduceCtorEq,Nat.reduceAdd,Nat.reduceMul,Nat.reduceLeDiff,Nat.reduceLT,Nat.reduceEqDiff,rlE_len];try trivial) (by (simp only [ZZ,WW,Ze,reduceCtorEq,Nat.reduceAdd,Nat.reduceMul,Nat.reduceLeDiff,Nat.reduceLT,Nat.reduceEqDiff];try trivial)) ⟨0,kv,by omega,by omega,hkv,by omega,rfl,rfl⟩ ?_
 rintro n fr L ⟨k,kw,hk,rfl,hkw,hwn,rfl,rfl⟩
 simp only [ir_produce_rulings_L1,ZZ,WW,Ze,reduceCtorEq,Nat.reduceAdd,Nat.reduceMul,Nat.reduceLeDiff,Nat.reduceLT,Nat.reduceEqDiff]
 refine br ?_ ?_
 ·intro h
  have hlt:k < l.length:=by have:=of_decide_eq_true h;omega
  obtain ⟨r,hr⟩:∃ r,l[k]?=some r:=⟨_,List.getElem?_eq_getElem hlt⟩
  have hg:=rlE_get hr
  have hnx:l.take (k+1)=l.take k++[r]:=by rw [List.take_succ_eq_append_getElem hlt,(List.getElem?_eq_some_iff.1 hr).2]
  have hpt:=hkw.put r
  rw [← hnx] at hpt
  simp only [rlV] at hpt
  simp only [ZZ,WW,Ze,reduceCtorEq,Nat.reduceAdd,Nat.reduceMul,Nat.reduceLeDiff,Nat.reduceLT,Nat.reduceEqDiff,hg,rlE_len]
  ((repeat' (with_reducible apply And.intro))<;>try ((exact sc_)))
  refine end_round (l.length - (k+1)) [oo,oo,oo,oo,oo,.mp (.l 10),oo,oo,oo,oo,oo,oo,oo,oo,oo,oo,oo,oo,oo,oo,oo,oo,oo,oo,.p (.sl 3 (rlE l)),.p (int (l.length:Nat)),.p (int ((k+1):Nat)),oo,oo,oo,oo,oo,oo,oo,oo,oo] [(.l 10,.map (mpS kw r.id (.agg [.str r.id,int r.what,.sl 2 (r.spans.map spn)])) 9 76)] (by omega) (by (simp only [ZZ,WW,Ze,reduceCtorEq,Nat.reduceAdd,Nat.reduceMul,Nat.reduceLeDiff,Nat.reduceLT,Nat.reduceEqDiff];try trivial)) (by (simp only [ZZ,WW,Ze,reduceCtorEq,Nat.reduceAdd,Nat.reduceMul,Nat.reduceLeDiff,Nat.reduceLT,Nat.reduceEqDiff];try trivial)) ⟨k+1,mpS kw r.id (.agg [.str r.id,int r.what,.sl 2 (r.spans.map spn)]),by omega,rfl,hpt,Nat.le_trans (mpS_le _ _ _) (by omega),rfl,rfl⟩
 intro h
 have hge:l.length≤k:=by have:=of_decide_eq_false h;omega
 rw [List.take_of_length_le hge] at hkw
 simp only [ZZ,WW,Ze,reduceCtorEq,Nat.reduceAdd,Nat.reduceMul,Nat.reduceLeDiff,Nat.reduceLT,Nat.reduceEqDiff]
 exact ⟨kw,rfl,hkw,by omega⟩
theorem show1_ok {kv:List (List UInt8×PV)} {l:List Rul} (hR:RulIs kv l) (hn:(l.map (·.id)).Nodup) (s:List UInt8):PCall Tryz.prog E 162 [.str s,.ptr [.mpv (kv.map (·.1)) (kv.map (·.2))]] (·=.bool (showB l s)):=by
 obtain ⟨i,w,v,h1,h2⟩:=hR.what hn s
 rw [← h2]
 refine pcallF mixed Tryz.func162 ck_produce_chosen_1 ?_
 simp only [a0,l0,OS.ao,List.map_cons,List.map_nil,List.length_cons,List.length_nil,List.cons_append,List.nil_append,Nat.reduceSub,Nat.reduceAdd,List.replicate_succ,List.replicate_zero,ir_produce_chosen_1,rs_produce_chosen_1,ZZ,WW,Ze,reduceCtorEq,Nat.reduceAdd,Nat.reduceMul,Nat.reduceLeDiff,Nat.reduceLT,Nat.reduceEqDiff]
 simp only [ZZ,WW,Ze,reduceCtorEq,Nat.reduceAdd,Nat.reduceMul,Nat.reduceLeDiff,Nat.reduceLT,Nat.reduceEqDiff,zip_kvY,mpD,h1]
theorem cmpP_ok {il:List Itm} (hP:PapOk il) {kv:List (List UInt8×PV)} (hkv:MapIs kv il) {order:Int} (ho:order=1∨order=2∨order=3) (s t:List UInt8) (a b:List (List PV)):PCall Tryz.prog E 163 [.agg [.str s,.sl 1 a],.agg [.str t,.sl 1 b],.ptr [.mpv (kv.map (·.1)) (kv.map (·.2))],.ptr [int order]] (·=int (cfP il order s t)):=by
 have hsu:∀ q r:Int,0≤q→q≤1440→0≤r→r≤1440→I64 (q - r):=fun q r _ _ _ _=>i64_of (by omega) (by omega)
 rw [cfP,cf3]
 have m1:=(map_get hP hkv s).1
 have m2:=(map_get hP hkv t).1
 have t1:=itOf_time hP s
 have t2:=itOf_time hP t
 unfold whoC whenP
 simp only [itC] at m1 m2
 generalize itOf il s=x at *
 generalize itOf il t=y at *
 have e13:decide ((1:Int)=3)=false:=rfl
 have e23:decide ((2:Int)=3)=false:=rfl
 have e21:decide ((2:Int)=1)=false:=rfl
 have e31:decide ((3:Int)=1)=false:=rfl
 rcases ho with rfl|rfl|rfl
 ·skip
  refine pcallF mixed Tryz.func163 ck_produce_chosen_2 ?_
  simp only [a0,l0,OS.ao,List.map_cons,List.map_nil,List.length_cons,List.length_nil,List.cons_append,List.nil_append,Nat.reduceSub,Nat.reduceAdd,List.replicate_succ,List.replicate_zero,ir_produce_chosen_2,rs_produce_chosen_2,ZZ,WW,Ze,reduceCtorEq,Nat.reduceAdd,Nat.reduceMul,Nat.reduceLeDiff,Nat.reduceLT,Nat.reduceEqDiff]
  refine ⟨[],?_⟩
  simp only [ZZ,WW,Ze,reduceCtorEq,Nat.reduceAdd,Nat.reduceMul,Nat.reduceLeDiff,Nat.reduceLT,Nat.reduceEqDiff,zip_kvY,mpD,m1,m2,e13,e23,e21,e31,decide_true,decide_false,Bool.not_true,Bool.not_false]
  refine cut_re _ _ ReOk.refl ?_
  simp only [ZZ,WW,Ze,reduceCtorEq,Nat.reduceAdd,Nat.reduceMul,Nat.reduceLeDiff,Nat.reduceLT,Nat.reduceEqDiff,e13,e23,e21,e31,decide_true,decide_false,Bool.not_true,Bool.not_false]
  refine cut_re _ _ ReOk.refl ?_
  simp only [ZZ,WW,Ze,reduceCtorEq,Nat.reduceAdd,Nat.reduceMul,Nat.reduceLeDiff,Nat.reduceLT,Nat.reduceEqDiff]
  refine use1 (StrCompare_ok s t) rfl (.inl rfl) ?_
  simp only [ZZ,WW,Ze,reduceCtorEq,Nat.reduceAdd,Nat.reduceMul,Nat.reduceLeDiff,Nat.reduceLT,Nat.reduceEqDiff]
  refine use1 (OrI_ok [0,0,Lib.compareBytes s t] (by simp)) rfl (.inl rfl) ?_
  simp only [ZZ,WW,Ze,reduceCtorEq,Nat.reduceAdd,Nat.reduceMul,Nat.reduceLeDiff,Nat.reduceLT,Nat.reduceEqDiff]
  rfl
 ·skip
  refine pcallF mixed Tryz.func163 ck_produce_chosen_2 ?_
  simp only [a0,l0,OS.ao,List.map_cons,List.map_nil,List.length_cons,List.length_nil,List.cons_append,List.nil_append,Nat.reduceSub,Nat.reduceAdd,List.replicate_succ,List.replicate_zero,ir_produce_chosen_2,rs_produce_chosen_2,ZZ,WW,Ze,reduceCtorEq,Nat.reduceAdd,Nat.reduceMul,Nat.reduceLeDiff,Nat.reduceLT,Nat.reduceEqDiff]
  refine ⟨[],?_⟩
  simp only [ZZ,WW,Ze,reduceCtorEq,Nat.reduceAdd,Nat.reduceMul,Nat.reduceLeDiff,Nat.reduceLT,Nat.reduceEqDiff,zip_kvY,mpD,m1,m2,e13,e23,e21,e31,decide_true,decide_false,Bool.not_true,Bool.not_false]
  refine cut_re _ _ ReOk.refl ?_
  simp only [ZZ,WW,Ze,reduceCtorEq,Nat.reduceAdd,Nat.reduceMul,Nat.reduceLeDiff,Nat.reduceLT,Nat.reduceEqDiff,e13,e23,e21,e31,decide_true,decide_false,Bool.not_true,Bool.not_false]
  refine ⟨hsu _ _ t1.1 t1.2 t2.1 t2.2,?_⟩
  refine cut_re _ _ ReOk.refl ?_
  simp only [ZZ,WW,Ze,reduceCtorEq,Nat.reduceAdd,Nat.reduceMul,Nat.reduceLeDiff,Nat.reduceLT,Nat.reduceEqDiff]
  refine use1 (StrCompare_ok s t) rfl (.inl rfl) ?_
  simp only [ZZ,WW,Ze,reduceCtorEq,Nat.reduceAdd,Nat.reduceMul,Nat.reduceLeDiff,Nat.reduceLT,Nat.reduceEqDiff]
  refine use1 (OrI_ok [0,x.2.2.2.2.1 - y.2.2.2.2.1,Lib.compareBytes s t] (by simp)) rfl (.inl rfl) ?_
  simp only [ZZ,WW,Ze,reduceCtorEq,Nat.reduceAdd,Nat.reduceMul,Nat.reduceLeDiff,Nat.reduceLT,Nat.reduceEqDiff]
  rfl
 ·skip
  refine pcallF mixed Tryz.func163 ck_produce_chosen_2 ?_
  simp only [a0,l0,OS.ao,List.map_cons,List.map_nil,List.length_cons,List.length_nil,List.cons_append,List.nil_append,Nat.reduceSub,Nat.reduceAdd,List.replicate_succ,List.replicate_zero,ir_produce_chosen_2,rs_produce_chosen_2,ZZ,WW,Ze,reduceCtorEq,Nat.reduceAdd,Nat.reduceMul,Nat.reduceLeDiff,Nat.reduceLT,Nat.reduceEqDiff]
  refine ⟨[],?_⟩
  simp only [ZZ,WW,Ze,reduceCtorEq,Nat.reduceAdd,Nat.reduceMul,Nat.reduceLeDiff,Nat.reduceLT,Nat.reduceEqDiff,zip_kvY,mpD,m1,m2,e13,e23,e21,e31,decide_true,decide_false,Bool.not_true,Bool.not_false]
  refine use1 (StrCompare_ok x.2.1 y.2.1) rfl (.inl rfl) ?_
  simp only [ZZ,WW,Ze,reduceCtorEq,Nat.reduceAdd,Nat.reduceMul,Nat.reduceLeDiff,Nat.reduceLT,Nat.reduceEqDiff]
  refine cut_re _ _ ReOk.refl ?_
  simp only [ZZ,WW,Ze,reduceCtorEq,Nat.reduceAdd,Nat.reduceMul,Nat.reduceLeDiff,Nat.reduceLT,Nat.reduceEqDiff,e13,e23,e21,e31,decide_true,decide_false,Bool.not_true,Bool.not_false]
  refine ⟨hsu _ _ t1.1 t1.2 t2.1 t2.2,?_⟩
  refine cut_re _ _ ReOk.refl ?_
  simp only [ZZ,WW,Ze,reduceCtorEq,Nat.reduceAdd,Nat.reduceMul,Nat.reduceLeDiff,Nat.reduceLT,Nat.reduceEqDiff]
  refine use1 (StrCompare_ok s t) rfl (.inl rfl) ?_
  simp only [ZZ,WW,Ze,reduceCtorEq,Nat.reduceAdd,Nat.reduceMul,Nat.reduceLeDiff,Nat.reduceLT,Nat.reduceEqDiff]
  refine use1 (OrI_ok [Lib.compareBytes x.2.1 y.2.1,x.2.2.2.2.1 - y.2.2.2.2.1,Lib.compareBytes s t] (by simp)) rfl (.inl rfl) ?_
  simp only [ZZ,WW,Ze,reduceCtorEq,Nat.reduceAdd,Nat.reduceMul,Nat.reduceLeDiff,Nat.reduceLT,Nat.reduceEqDiff]
  rfl
end
def ir_slices_insertionSortCmpFunc_int_L1:IC:=(.seq (.seq (.drg [qM 18 9,qM 19 1,qO 20 (.bin .gtr (.t 18) (.t 19)),qM 21 20,⟨some 22,.mov (.t 3),(some (21,true))⟩,⟨some 23,.mov (.t 0),(some (21,true))⟩,⟨some 24,.mov (.t 9),(some (21,true))⟩,⟨some 25,.ixa 1 (.t 23) (.t 24),(some (21,true))⟩,⟨some 26,.ld 1 false (.t 25),(some (21,true))⟩,⟨some 27,.mov (.t 0),(some (21,true))⟩,⟨some 28,.mov (.t 9),(some (21,true))⟩,⟨some 29,.bin .sub (.t 28) (.c (.int .i64 1)),(some (21,true))⟩,⟨some 30,.ixa 1 (.t 27) (.t 29),(some (21,true))⟩,⟨some 31,.ld 1 false (.t 30),(some (21,true))⟩,⟨some 32,.callv (.t 22) [.t 26,.t 31],(some (21,true))⟩,⟨some 33,.bin .lss (.t 32) (.c (.int .i64 0)),(some (21,true))⟩,qO 34 (.pick (.t 21) (.t 33) (.c (.bool false)))]) (.cond (.t 34) .skip (.exit 2))) (.seq (.block 3 (.drg [qM 37 0,qM 38 9,qM 39 0,qM 40 9,qO 41 (.bin .sub (.t 40) (.c (.int .i64 1))),qM 42 0,qM 43 9,qO 44 (.bin .sub (.t 43) (.c (.int .i64 1))),qO 45 (.ixa 1 (.t 42) (.t 44)),qO 46 (.ld 1 false (.t 45)),qM 47 0,qM 48 9,qO 49 (.ixa 1 (.t 47) (.t 48)),qO 50 (.ld 1 false (.t 49)),qO 51 (.ixa 1 (.t 37) (.t 38)),⟨none,.st 1 (.t 51) (.t 46),none⟩,qO 52 (.ixa 1 (.t 39) (.t 41)),⟨none,.st 1 (.t 52) (.t 50),none⟩])) (.reg [qM 35 9,qO 36 (.bin .sub (.t 35) (.c (.int .i64 1))),qM 9 36])))
def ir_slices_insertionSortCmpFunc_int_L0:IC:=(.seq (.seq (.reg [qM 12 8,qM 13 2,qO 14 (.bin .lss (.t 12) (.t 13))]) (.cond (.t 14) .skip (.exit 0))) (.seq (.block 1 (.seq (.reg [qM 17 8,qM 9 17]) (.block 2 (.loop ir_slices_insertionSortCmpFunc_int_L1)))) (.reg [qM 15 8,qO 16 (.bin .add (.t 15) (.c (.int .i64 1))),qM 8 16])))
def ir_slices_insertionSortCmpFunc_int:IC:=(.seq (.reg [qM 10 1,qO 11 (.bin .add (.t 10) (.c (.int .i64 1))),qM 8 11]) (.block 0 (.loop ir_slices_insertionSortCmpFunc_int_L0)))
def rs_slices_insertionSortCmpFunc_int:List IRes:=[]
theorem ck_slices_insertionSortCmpFunc_int:chkF Tryz.prog Tryz.f276 ir_slices_insertionSortCmpFunc_int rs_slices_insertionSortCmpFunc_int 53=true:=by kernel_rfl
def ir_slices_pdqsortCmpFunc_int_L0:IC:=(.block 1 (.seq (.reg [qM 21 2,qM 22 1,qO 23 (.bin .sub (.t 21) (.t 22)),qM 12 23]) (.seq (.seq (.reg [qM 24 12,qO 25 (.bin .leq (.t 24) (.c (.int .i64 12)))]) (.cond (.t 25) (.seq (.reg [qM 26 0,qM 27 1,qM 28 2,qM 29 4,qO 30 (.call 276 [.t 26,.t 27,.t 28,.t 29])]) .ret) .skip)) (.seq (.seq (.reg [qM 31 3,qO 32 (.bin .eql (.t 31) (.c (.int .i64 0)))]) (.cond (.t 32) (.seq (.reg [qM 33 0,qM 34 1,qM 35 2,qM 36 4,qO 37 (.call 277 [.t 33,.t 34,.t 35,.t 36])]) .ret) .skip)) (.seq (.seq (.reg [qM 38 10,qO 39 (.not (.t 38))]) (.cond (.t 39) (.seq (.reg [qM 40 0,qM 41 1,qM 42 2,qM 43 4,qO 44 (.call 278 [.t 40,.t 41,.t 42,.t 43])]) (.reg [qM 45 3,qO 46 (.bin .sub (.t 45) (.c (.int .i64 1))),qM 3 46])) .skip)) (.cut (.seq (.reg [qM 48 0,qM 49 1,qM 50 2,qM 51 4,qO 52 (.call 279 [.t 48,.t 49,.t 50,.t 51]),qM 47 52,qO 53 (.ext 0 (.t 47)),qO 54 (.ext 1 (.t 47)),qM 13 53,qM 14 54]) (.seq (.seq (.reg [qM 55 14,qO 56 (.bin .eql (.t 55) (.c (.int .i64 2)))]) (.cond (.t 56) (.seq (.reg [qM 57 0,qM 58 1,qM 59 2,qM 60 4,qO 61 (.call 280 [.t 57,.t 58,.t 59,.t 60])]) (.seq (.reg [qM 62 2,qO 63 (.bin .sub (.t 62) (.c (.int .i64 1))),qM 64 13,qM 65 1,qO 66 (.bin .sub (.t 64) (.t 65)),qO 67 (.bin .sub (.t 63) (.t 66)),qM 13 67]) (.reg [qO 14 (.mov (.c (.int .i64 1)))]))) .skip)) (.cut (.seq (.seq (.reg [qM 68 10,qM 69 68,⟨some 70,.mov (.t 11),(some (69,true))⟩,qO 71 (.pick (.t 69) (.t 70) (.c (.bool false))),qM 72 71,⟨some 73,.mov (.t 14),(some (72,true))⟩,⟨some 74,.bin .eql (.t 73) (.c (.int .i64 1)),(some (72,true))⟩,qO 75 (.pick (.t 72) (.t 74) (.c (.bool false)))]) (.cond (.t 75) (.seq (.reg [qM 76 0,qM 77 1,qM 78 2,qM 79 4,qO 80 (.call 281 [.t 76,.t 77,.t 78,.t 79])]) (.cond (.t 80) .ret .skip)) .skip)) (.cut (.seq (.seq (.drg [qM 81 1,qO 82 (.bin .gtr (.t 81) (.c (.int .i64 0))),qM 83 82,⟨some 84,.mov (.t 4),(some (83,true))⟩,⟨some 85,.mov (.t 0),(some (83,true))⟩,⟨some 86,.mov (.t 1),(some (83,true))⟩,⟨some 87,.bin .sub (.t 86) (.c (.int .i64 1)),(some (83,true))⟩,⟨some 88,.ixa 1 (.t 85) (.t 87),(some (83,true))⟩,⟨some 89,.ld 1 false (.t 88),(some (83,true))⟩,⟨some 90,.mov (.t 0),(some (83,true))⟩,⟨some 91,.mov (.t 13),(some (83,true))⟩,⟨some 92,.ixa 1 (.t 90) (.t 91),(some (83,true))⟩,⟨some 93,.ld 1 false (.t 92),(some (83,true))⟩,⟨some 94,.callv (.t 84) [.t 89,.t 93],(some (83,true))⟩,⟨some 95,.bin .lss (.t 94) (.c (.int .i64 0)),(some (83,true))⟩,⟨some 96,.not (.t 95),(some (83,true))⟩,qO 97 (.pick (.t 83) (.t 96) (.c (.bool false)))]) (.cond (.t 97) (.seq (.reg [qM 98 0,qM 99 1,qM 100 2,qM 101 13,qM 102 4,qO 103 (.call 282 [.t 98,.t 99,.t 100,.t 101,.t 102]),qM 15 103]) (.seq (.reg [qM 104 15,qM 1 104]) (.exit 1))) .skip)) (.seq (.reg [qM 106 0,qM 107 1,qM 108 2,qM 109 13,qM 110 4,qO 111 (.call 283 [.t 106,.t 107,.t 108,.t 109,.t 110]),qM 105 111,qO 112 (.ext 0 (.t 105)),qO 113 (.ext 1 (.t 105)),qM 16 112,qM 17 113]) (.seq (.reg [qM 114 17,qM 11 114]) (.seq (.reg [qM 115 16,qM 116 1,qO 117 (.bin .sub (.t 115) (.t 116)),qM 118 2,qM 119 16,qO 120 (.bin .sub (.t 118) (.t 119)),qM 18 117,qM 19 120]) (.seq (.reg [qM 121 12,qO 122 (.bin .quo (.t 121) (.c (.int .i64 8))),qM 20 122]) (.seq (.reg [qM 123 18,qM 124 19,qO 125 (.bin .lss (.t 123) (.t 124))]) (.cond (.t 125) (.seq (.reg [qM 126 18,qM 127 20,qO 128 (.bin .geq (.t 126) (.t 127)),qM 10 128]) (.seq (.reg [qM 129 0,qM 130 1,qM 131 16,qM 132 3,qM 133 4,qO 134 (.call 226 [.t 129,.t 130,.t 131,.t 132,.t 133])]) (.reg [qM 135 16,qO 136 (.bin .add (.t 135) (.c (.int .i64 1))),qM 1 136]))) (.seq (.reg [qM 137 19,qM 138 20,qO 139 (.bin .geq (.t 137) (.t 138)),qM 10 139]) (.seq (.reg [qM 140 0,qM 141 16,qO 142 (.bin .add (.t 141) (.c (.int .i64 1))),qM 143 2,qM 144 3,qM 145 4,qO 146 (.call 226 [.t 140,.t 142,.t 143,.t 144,.t 145])]) (.reg [qM 147 16,qM 2 147])))))))))))))))))))))
def ir_slices_pdqsortCmpFunc_int:IC:=(.seq (.reg [qO 10 (.mov (.c (.bool true)))]) (.seq (.reg [qO 11 (.mov (.c (.bool true)))]) (.block 0 (.loop ir_slices_pdqsortCmpFunc_int_L0))))
def rs_slices_pdqsortCmpFunc_int:List IRes:=[]
theorem ck_slices_pdqsortCmpFunc_int:chkF Tryz.prog Tryz.f226 ir_slices_pdqsortCmpFunc_int rs_slices_pdqsortCmpFunc_int 148=true:=by kernel_rfl
def ir_slices_SortFunc_int_int:IC:=(.seq (.reg [qM 5 0,qO 6 (.len (.t 5)),qM 4 6]) (.reg [qM 7 0,qM 8 4,qM 9 4,qO 10 (.cvi .u64 (.t 9)),qO 11 (.call 171 [.t 10]),qM 12 1,qO 13 (.call 226 [.t 7,.c (.int .i64 0),.t 8,.t 11,.t 12])]))
def rs_slices_SortFunc_int_int:List IRes:=[]
theorem ck_slices_SortFunc_int_int:chkF Tryz.prog Tryz.f166 ir_slices_SortFunc_int_int rs_slices_SortFunc_int_int 14=true:=by kernel_rfl
abbrev tElInt:Nat:=3
theorem boxK_pInt:∀ (ps:List PV) (L:Objs),Zl L (ps.map .p)=true
 |[],_=>rfl
 |_ :: r,L=>boxK_pInt r L
section
variable {E:Envt}
theorem bitsLenInt_ok (x:Int) (h0:0≤x) (h1:x≤18446744073709551615):PCall Tryz.prog E 171 [.int .u64 x] (·=int (Lib.bitLen x.toNat:Nat)):=
 pcall_flat rfl rfl fun w _=>(Any.bits_Len Tryz.layBitsLen x w h0 h1).mono fun e w' h=>⟨h.1,by rw [h.2];exact Grow.refl _ _⟩
theorem insSortInt_ok {α:Type} (f0:α→Int) (cf:α→α→Int) (hO:OrdP (ltC cf)) (g:FuncId) (ps:List PV) (hg:Unit→fnB Tryz.prog g=true) (l:List α) (hl:l.length≤12) (hc:∀ x∈l,∀ y∈l,PCall Tryz.prog E g (int (f0 x) :: int (f0 y) :: ps) (·=int (cf x y)))
  (hn:∀ x y,Zbh [] (.p (int (f0 x)) :: .p (int (f0 y)) :: ps.map .p)=some (int (f0 x) :: int (f0 y) :: ps)) (hr:∀ x y,Zbj (.p (int (f0 x)) :: .p (int (f0 y)) :: ps.map .p)=true):RCall Tryz.prog E 276 tElInt 1 (l.map (fun x=>([int (f0 x)]:List PV))) [int 0,int (l.length:Nat),.clo g ps] (fun x es'=>x=.tup []∧∃ l':List α,es'=l'.map (fun x=>([int (f0 x)]:List PV))∧l'.Perm l∧SrtP (ltC cf) l'):=by
 unfold RCall
 refine gcallP mixed Tryz.func276 ck_slices_insertionSortCmpFunc_int ?_
 simp only [a0,l0,OS.ao,List.map_cons,List.map_nil,List.length_cons,List.length_nil,List.cons_append,List.nil_append,Nat.reduceSub,Nat.reduceAdd,List.replicate_succ,List.replicate_zero,List.length_map,ir_slices_insertionSortCmpFunc_int,rs_slices_insertionSortCmpFunc_int,ZZ,WW,Ze,reduceCtorEq,Nat.reduceAdd,Nat.reduceMul,Nat.reduceLeDiff,Nat.reduceLT,Nat.reduceEqDiff]
 ((repeat' (with_reducible apply And.intro))<;>try ((exact sc_)))
 rw [show l.map (fun x=>([int (f0 x)]:List PV))=(l.take 1++l.drop 1).map (fun x=>([int (f0 x)]:List PV)) from by rw [List.take_append_drop]]
 refine loop_intro (fun n fr L=>∃ (i:Nat) (P:List α) (C:List α),l.length - i=n∧(1≤i)∧(P.length=i∨l.length=0)∧((P++C).Perm l)∧(SrtP (ltC cf) P)∧fr=[.row (.b 0),.p (int 0),.p (int (l.length:Nat)),.p (.clo g ps),oo,oo,oo,oo,.p (int (i:Nat)),oo,oo,oo,oo,oo,oo,oo,oo,oo,oo,oo,oo,oo,oo,oo,oo,oo,oo,oo,oo,oo,oo,oo,oo,oo,oo,oo,oo,oo,oo,oo,oo,oo,oo,oo,oo,oo,oo,oo,oo,oo,oo,oo,oo]∧L=[(.b 0,.row ((P++C).map (fun x=>([int (f0 x)]:List PV))) tElInt 1 true)]) (l.length - 1) [.row (.b 0),.p (int 0),.p (int (l.length:Nat)),.p (.clo g ps),oo,oo,oo,oo,.p (int (1:Nat)),oo,oo,oo,oo,oo,oo,oo,oo,oo,oo,oo,oo,oo,oo,oo,oo,oo,oo,oo,oo,oo,oo,oo,oo,oo,oo,oo,oo,oo,oo,oo,oo,oo,oo,oo,oo,oo,oo,oo,oo,oo,oo,oo,oo] [(.b 0,.row (((l.take 1)++(l.drop 1)).map (fun x=>([int (f0 x)]:List PV))) tElInt 1 true)] (by (simp only [ZZ,WW,Ze,reduceCtorEq,Nat.reduceAdd,Nat.reduceMul,Nat.reduceLeDiff,Nat.reduceLT,Nat.reduceEqDiff];try trivial)) (by (simp only [ZZ,WW,Ze,reduceCtorEq,Nat.reduceAdd,Nat.reduceMul,Nat.reduceLeDiff,Nat.reduceLT,Nat.reduceEqDiff];try trivial)) ⟨1,l.take 1,l.drop 1,rfl,by omega,by rw [List.length_take];omega,by rw [List.take_append_drop],by cases l with|nil=>exact List.Pairwise.nil|cons x r=>simp [SrtP],rfl,rfl⟩ ?_
 rintro n fr L ⟨i,P,C,rfl,hi,hP,hp,hs,rfl,rfl⟩
 simp only [ir_slices_insertionSortCmpFunc_int_L0,ZZ,WW,Ze,reduceCtorEq,Nat.reduceAdd,Nat.reduceMul,Nat.reduceLeDiff,Nat.reduceLT,Nat.reduceEqDiff]
 have hpl:P.length+C.length=l.length:=by rw [← List.length_append,hp.length_eq]
 refine br ?_ ?_
 rotate_left
 ·intro h
  have hge:l.length≤i:=by have:=of_decide_eq_false h;omega
  have hC:C=[]:=List.eq_nil_of_length_eq_zero (by omega)
  subst hC
  rw [List.append_nil] at hp ⊢
  simp only [ZZ,WW,Ze,reduceCtorEq,Nat.reduceAdd,Nat.reduceMul,Nat.reduceLeDiff,Nat.reduceLT,Nat.reduceEqDiff]
  exact fin_R _ rfl ⟨rfl,P,rfl,hp,hs⟩
 intro h
 have hlt:i < l.length:=by have:=of_decide_eq_true h;omega
 have hP:P.length=i:=by omega
 obtain ⟨x,R,rfl⟩:∃ x R,C=x :: R:=by
  cases C with
  |nil=>simp at hpl;omega
  |cons x R=>exact ⟨x,R,rfl⟩
 have hxl:x∈l:=hp.mem_iff.1 (by simp)
 simp only [ZZ,WW,Ze,reduceCtorEq,Nat.reduceAdd,Nat.reduceMul,Nat.reduceLeDiff,Nat.reduceLT,Nat.reduceEqDiff]
 refine loop_intro (fun n fr L=>∃ (j:Nat) (A:List α) (B:List α),j=n∧(A.length=j)∧(j+B.length=i)∧(SrtP (ltC cf) (A++B))∧(∀ b∈B,ltC cf x b=true)∧((A++x :: (B++R)).Perm l)∧fr=[.row (.b 0),.p (int 0),.p (int (l.length:Nat)),.p (.clo g ps),oo,oo,oo,oo,.p (int (i:Nat)),.p (int (j:Nat)),oo,oo,oo,oo,oo,oo,oo,oo,oo,oo,oo,oo,oo,oo,oo,oo,oo,oo,oo,oo,oo,oo,oo,oo,oo,oo,oo,oo,oo,oo,oo,oo,oo,oo,oo,oo,oo,oo,oo,oo,oo,oo,oo]∧L=[(.b 0,.row ((A++x :: (B++R)).map (fun x=>([int (f0 x)]:List PV))) tElInt 1 true)]) (i) [.row (.b 0),.p (int 0),.p (int (l.length:Nat)),.p (.clo g ps),oo,oo,oo,oo,.p (int (i:Nat)),.p (int (i:Nat)),oo,oo,oo,oo,oo,oo,oo,oo,oo,oo,oo,oo,oo,oo,oo,oo,oo,oo,oo,oo,oo,oo,oo,oo,oo,oo,oo,oo,oo,oo,oo,oo,oo,oo,oo,oo,oo,oo,oo,oo,oo,oo,oo] [(.b 0,.row ((P++x :: ([]++R)).map (fun x=>([int (f0 x)]:List PV))) tElInt 1 true)] (by (simp only [ZZ,WW,Ze,reduceCtorEq,Nat.reduceAdd,Nat.reduceMul,Nat.reduceLeDiff,Nat.reduceLT,Nat.reduceEqDiff];try trivial)) (by (simp only [ZZ,WW,Ze,reduceCtorEq,Nat.reduceAdd,Nat.reduceMul,Nat.reduceLeDiff,Nat.reduceLT,Nat.reduceEqDiff];try trivial)) ⟨i,P,[],rfl,hP,by simp,by rw [List.append_nil];exact hs,(fun b hb=>by cases hb),hp,rfl,rfl⟩ ?_
 rintro n fr L ⟨j,A,B,rfl,hj,hji,hsb,hb,hpb,rfl,rfl⟩
 simp only [ir_slices_insertionSortCmpFunc_int_L1,ZZ,WW,Ze,reduceCtorEq,Nat.reduceAdd,Nat.reduceMul,Nat.reduceLeDiff,Nat.reduceLT,Nat.reduceEqDiff]
 have hWl:((A++x :: (B++R)).map (fun x=>([int (f0 x)]:List PV))).length=l.length:=by rw [List.length_map,hpb.length_eq]
 rcases List.eq_nil_or_concat A with rfl|⟨A',y,hAy⟩
 ·simp only [List.length_nil] at hj
  subst hj
  generalize hW:(([]:List α)++x :: (B++R)).map (fun x=>([int (f0 x)]:List PV))=W at *
  refine drg0 ?_
  have z00:decide ((0:Int) < ((0:Nat):Int))=false:=rfl
  simp only [ZZ,WW,Ze,reduceCtorEq,Nat.reduceAdd,Nat.reduceMul,Nat.reduceLeDiff,Nat.reduceLT,Nat.reduceEqDiff,hWl,z00,Bool.false_eq_true,false_implies,hg ()]
  refine ⟨boxK_pInt _ _,useGC (fun h=>by cases h) (fun _=>?_)⟩
  simp only [ZZ,WW,Ze,reduceCtorEq,Nat.reduceAdd,Nat.reduceMul,Nat.reduceLeDiff,Nat.reduceLT,Nat.reduceEqDiff]
  ((repeat' (with_reducible apply And.intro))<;>try ((exact sc_)))
  rw [← hW]
  have hfin:SrtP (ltC cf) (([]:List α)++x :: B):=ins_stop hO hsb hb (.inl rfl)
  refine end_round (l.length - (i+1)) [.row (.b 0),.p (int 0),.p (int (l.length:Nat)),.p (.clo g ps),oo,oo,oo,oo,.p (int ((i+1):Nat)),oo,oo,oo,oo,oo,oo,oo,oo,oo,oo,oo,oo,oo,oo,oo,oo,oo,oo,oo,oo,oo,oo,oo,oo,oo,oo,oo,oo,oo,oo,oo,oo,oo,oo,oo,oo,oo,oo,oo,oo,oo,oo,oo,oo] [(.b 0,.row (((x :: B)++(R)).map (fun x=>([int (f0 x)]:List PV))) tElInt 1 true)] (by omega) (by (simp only [ZZ,WW,Ze,reduceCtorEq,Nat.reduceAdd,Nat.reduceMul,Nat.reduceLeDiff,Nat.reduceLT,Nat.reduceEqDiff];try trivial)) (by (simp only [ZZ,WW,Ze,reduceCtorEq,Nat.reduceAdd,Nat.reduceMul,Nat.reduceLeDiff,Nat.reduceLT,Nat.reduceEqDiff];try trivial)) ⟨i+1,x :: B,R,rfl,by omega,.inl (by simp;omega),by simpa using hpb,hfin,rfl,rfl⟩
 ·obtain rfl:A=A'++[y]:=by rw [hAy];simp
  obtain ⟨q,rfl⟩:∃ q,j=q+1:=⟨A'.length,by rw [← hj];simp⟩
  have hq:A'.length=q:=by simpa using hj
  have hrow:(A'++[y])++x :: (B++R)=A'++y :: x :: (B++R):=by simp
  have hyl:y∈l:=hpb.mem_iff.1 (by simp)
  have e1:(((q+1:Nat):Int) - 1)=(q:Nat):=by omega
  have z0:decide ((0:Int) < ((q+1:Nat):Int))=true:=by rw [decide_eq_true_eq];omega
  rw [hrow] at hWl hpb ⊢
  obtain ⟨g1,g0⟩:=swap_get (fun x=>([int (f0 x)]:List PV)) A' (B++R) x y []
  have s1:=swap_set (fun x=>([int (f0 x)]:List PV)) A' (B++R) x y
  rw [hq] at g1 g0 s1
  try simp only at g1 g0 s1
  generalize hW:(A'++y :: x :: (B++R)).map (fun x=>([int (f0 x)]:List PV))=W at *
  refine drg0 ?_
  simp only [ZZ,WW,Ze,reduceCtorEq,Nat.reduceAdd,Nat.reduceMul,Nat.reduceLeDiff,Nat.reduceLT,Nat.reduceEqDiff,hWl,e1,z0,g1,g0,hg ()]
  refine ⟨⟨by omega,by omega⟩,by omega,i64_of (by omega) (by omega),⟨by omega,by omega⟩,by omega,boxK_pInt _ _,?_⟩
  refine useG (fun _=>hc x hxl y hyl) ((argPs_any (hr x y) (L':=[])).trans (hn x y)) (.inl (hr x y)) ?_
  simp only [ZZ,WW,Ze,reduceCtorEq,Nat.reduceAdd,Nat.reduceMul,Nat.reduceLeDiff,Nat.reduceLT,Nat.reduceEqDiff]
  refine br ?_ ?_
  ·intro hlt2
   have hxy:ltC cf x y=true:=hlt2
   obtain ⟨n1,n2⟩:=ins_step hsb hb hxy
   refine drg0 ?_
   have g2:(W.set (q+1) [int (f0 y)]).getD q []=[int (f0 y)]:=by
    rw [List.getD,List.getElem?_set_ne (by omega)]
    exact g0
   simp only [ZZ,WW,Ze,reduceCtorEq,Nat.reduceAdd,Nat.reduceMul,Nat.reduceLeDiff,Nat.reduceLT,Nat.reduceEqDiff,hWl,e1,g1,g0,g2,s1,List.length_set,thenQ]
   ((repeat' (with_reducible apply And.intro))<;>try ((exact sc_)))
   refine end_round ((q)) [.row (.b 0),.p (int 0),.p (int (l.length:Nat)),.p (.clo g ps),oo,oo,oo,oo,.p (int (i:Nat)),.p (int ((q):Nat)),oo,oo,oo,oo,oo,oo,oo,oo,oo,oo,oo,oo,oo,oo,oo,oo,oo,oo,oo,oo,oo,oo,oo,oo,oo,oo,oo,oo,oo,oo,oo,oo,oo,oo,oo,oo,oo,oo,oo,oo,oo,oo,oo] [(.b 0,.row (((A')++x :: ((y :: B)++R)).map (fun x=>([int (f0 x)]:List PV))) tElInt 1 true)] (by omega) (by (simp only [ZZ,WW,Ze,reduceCtorEq,Nat.reduceAdd,Nat.reduceMul,Nat.reduceLeDiff,Nat.reduceLT,Nat.reduceEqDiff];try trivial)) (by (simp only [ZZ,WW,Ze,reduceCtorEq,Nat.reduceAdd,Nat.reduceMul,Nat.reduceLeDiff,Nat.reduceLT,Nat.reduceEqDiff];try trivial)) ⟨q,A',y :: B,rfl,hq,by simp;omega,n1,n2,by simpa using (List.Perm.append_left A' (List.Perm.swap y x (B++R))).trans hpb,rfl,rfl⟩
  ·intro hlt2
   have hxy:ltC cf x y=false:=hlt2
   simp only [ZZ,WW,Ze,reduceCtorEq,Nat.reduceAdd,Nat.reduceMul,Nat.reduceLeDiff,Nat.reduceLT,Nat.reduceEqDiff]
   ((repeat' (with_reducible apply And.intro))<;>try ((exact sc_)))
   rw [← hW]
   have hfin:SrtP (ltC cf) ((A'++[y])++x :: B):=ins_stop hO hsb hb (.inr ⟨A',y,rfl,hxy⟩)
   have hrow2:A'++y :: x :: (B++R)=((A'++[y])++x :: B)++R:=by simp
   rw [hrow2] at hpb ⊢
   refine end_round (l.length - (i+1)) [.row (.b 0),.p (int 0),.p (int (l.length:Nat)),.p (.clo g ps),oo,oo,oo,oo,.p (int ((i+1):Nat)),oo,oo,oo,oo,oo,oo,oo,oo,oo,oo,oo,oo,oo,oo,oo,oo,oo,oo,oo,oo,oo,oo,oo,oo,oo,oo,oo,oo,oo,oo,oo,oo,oo,oo,oo,oo,oo,oo,oo,oo,oo,oo,oo,oo] [(.b 0,.row ((((A'++[y])++x :: B)++(R)).map (fun x=>([int (f0 x)]:List PV))) tElInt 1 true)] (by omega) (by (simp only [ZZ,WW,Ze,reduceCtorEq,Nat.reduceAdd,Nat.reduceMul,Nat.reduceLeDiff,Nat.reduceLT,Nat.reduceEqDiff];try trivial)) (by (simp only [ZZ,WW,Ze,reduceCtorEq,Nat.reduceAdd,Nat.reduceMul,Nat.reduceLeDiff,Nat.reduceLT,Nat.reduceEqDiff];try trivial)) ⟨i+1,(A'++[y])++x :: B,R,rfl,by omega,.inl (by simp;omega),hpb,hfin,rfl,rfl⟩
theorem pdqInt_ok {α:Type} (f0:α→Int) (cf:α→α→Int) (hO:OrdP (ltC cf)) (g:FuncId) (ps:List PV) (hg:Unit→fnB Tryz.prog g=true) (l:List α) (hl:l.length≤12) (hc:∀ x∈l,∀ y∈l,PCall Tryz.prog E g (int (f0 x) :: int (f0 y) :: ps) (·=int (cf x y)))
  (hn:∀ x y,Zbh [] (.p (int (f0 x)) :: .p (int (f0 y)) :: ps.map .p)=some (int (f0 x) :: int (f0 y) :: ps)) (hr:∀ x y,Zbj (.p (int (f0 x)) :: .p (int (f0 y)) :: ps.map .p)=true) (lim:Nat):RCall Tryz.prog E 226 tElInt 1 (l.map (fun x=>([int (f0 x)]:List PV))) [int 0,int (l.length:Nat),int (lim:Nat),.clo g ps] (fun x es'=>x=.tup []∧∃ l':List α,es'=l'.map (fun x=>([int (f0 x)]:List PV))∧l'.Perm l∧SrtP (ltC cf) l'):=by
 unfold RCall
 refine gcallP mixed Tryz.func226 ck_slices_pdqsortCmpFunc_int ?_
 simp only [a0,l0,OS.ao,List.map_cons,List.map_nil,List.length_cons,List.length_nil,List.cons_append,List.nil_append,Nat.reduceSub,Nat.reduceAdd,List.replicate_succ,List.replicate_zero,List.length_map,ir_slices_pdqsortCmpFunc_int,rs_slices_pdqsortCmpFunc_int,ZZ,WW,Ze,reduceCtorEq,Nat.reduceAdd,Nat.reduceMul,Nat.reduceLeDiff,Nat.reduceLT,Nat.reduceEqDiff]
 refine loop_intro (fun n fr L=>(0:Nat)=n∧fr=[.row (.b 0),.p (int 0),.p (int (l.length:Nat)),.p (int (lim:Nat)),.p (.clo g ps),oo,oo,oo,oo,oo,.p (.bool true),.p (.bool true),oo,oo,oo,oo,oo,oo,oo,oo,oo,oo,oo,oo,oo,oo,oo,oo,oo,oo,oo,oo,oo,oo,oo,oo,oo,oo,oo,oo,oo,oo,oo,oo,oo,oo,oo,oo,oo,oo,oo,oo,oo,oo,oo,oo,oo,oo,oo,oo,oo,oo,oo,oo,oo,oo,oo,oo,oo,oo,oo,oo,oo,oo,oo,oo,oo,oo,oo,oo,oo,oo,oo,oo,oo,oo,oo,oo,oo,oo,oo,oo,oo,oo,oo,oo,oo,oo,oo,oo,oo,oo,oo,oo,oo,oo,oo,oo,oo,oo,oo,oo,oo,oo,oo,oo,oo,oo,oo,oo,oo,oo,oo,oo,oo,oo,oo,oo,oo,oo,oo,oo,oo,oo,oo,oo,oo,oo,oo,oo,oo,oo,oo,oo,oo,oo,oo,oo]∧L=[(.b 0,.row (l.map (fun x=>([int (f0 x)]:List PV))) tElInt 1 true)]) ((0:Nat)) [.row (.b 0),.p (int 0),.p (int (l.length:Nat)),.p (int (lim:Nat)),.p (.clo g ps),oo,oo,oo,oo,oo,.p (.bool true),.p (.bool true),oo,oo,oo,oo,oo,oo,oo,oo,oo,oo,oo,oo,oo,oo,oo,oo,oo,oo,oo,oo,oo,oo,oo,oo,oo,oo,oo,oo,oo,oo,oo,oo,oo,oo,oo,oo,oo,oo,oo,oo,oo,oo,oo,oo,oo,oo,oo,oo,oo,oo,oo,oo,oo,oo,oo,oo,oo,oo,oo,oo,oo,oo,oo,oo,oo,oo,oo,oo,oo,oo,oo,oo,oo,oo,oo,oo,oo,oo,oo,oo,oo,oo,oo,oo,oo,oo,oo,oo,oo,oo,oo,oo,oo,oo,oo,oo,oo,oo,oo,oo,oo,oo,oo,oo,oo,oo,oo,oo,oo,oo,oo,oo,oo,oo,oo,oo,oo,oo,oo,oo,oo,oo,oo,oo,oo,oo,oo,oo,oo,oo,oo,oo,oo,oo,oo,oo] [(.b 0,.row (l.map (fun x=>([int (f0 x)]:List PV))) tElInt 1 true)] (by (simp only [ZZ,WW,Ze,reduceCtorEq,Nat.reduceAdd,Nat.reduceMul,Nat.reduceLeDiff,Nat.reduceLT,Nat.reduceEqDiff];try trivial)) (by (simp only [ZZ,WW,Ze,reduceCtorEq,Nat.reduceAdd,Nat.reduceMul,Nat.reduceLeDiff,Nat.reduceLT,Nat.reduceEqDiff];try trivial)) ⟨rfl,rfl,rfl⟩ ?_
 rintro n fr L ⟨rfl,rfl,rfl⟩
 simp only [ir_slices_pdqsortCmpFunc_int_L0,ZZ,WW,Ze,reduceCtorEq,Nat.reduceAdd,Nat.reduceMul,Nat.reduceLeDiff,Nat.reduceLT,Nat.reduceEqDiff]
 have h12:decide ((l.length:Int)≤12)=true:=by rw [decide_eq_true_eq];omega
 simp only [ZZ,WW,Ze,reduceCtorEq,Nat.reduceAdd,Nat.reduceMul,Nat.reduceLeDiff,Nat.reduceLT,Nat.reduceEqDiff,h12,Int.sub_zero]
 refine ⟨i64_of (by omega) (by omega),?_⟩
 refine useR (insSortInt_ok f0 cf hO g ps hg l hl hc hn hr) rfl rfl rfl zE_ ?_
 rintro x es ⟨rfl,l',rfl,hp,hs⟩
 simp only [ZZ,WW,Ze,reduceCtorEq,Nat.reduceAdd,Nat.reduceMul,Nat.reduceLeDiff,Nat.reduceLT,Nat.reduceEqDiff]
 exact fin_R _ rfl ⟨rfl,l',rfl,hp,hs⟩
theorem SortFInt_ok {α:Type} (f0:α→Int) (cf:α→α→Int) (hO:OrdP (ltC cf)) (g:FuncId) (ps:List PV) (hg:Unit→fnB Tryz.prog g=true) (l:List α) (hl:l.length≤12) (hc:∀ x∈l,∀ y∈l,PCall Tryz.prog E g (int (f0 x) :: int (f0 y) :: ps) (·=int (cf x y)))
  (hn:∀ x y,Zbh [] (.p (int (f0 x)) :: .p (int (f0 y)) :: ps.map .p)=some (int (f0 x) :: int (f0 y) :: ps)) (hr:∀ x y,Zbj (.p (int (f0 x)) :: .p (int (f0 y)) :: ps.map .p)=true):RCall Tryz.prog E 166 tElInt 1 (l.map (fun x=>([int (f0 x)]:List PV))) [.clo g ps] (fun x es'=>x=.tup []∧∃ l':List α,es'=l'.map (fun x=>([int (f0 x)]:List PV))∧l'.Perm l∧SrtP (ltC cf) l'):=by
 have wr:IntKind.u64.wrap (l.length:Int)=l.length:=by simp [IntKind.wrap,IntKind.bits,IntKind.signed];omega
 unfold RCall
 refine gcallP mixed Tryz.func166 ck_slices_SortFunc_int_int ?_
 simp only [a0,l0,OS.ao,List.map_cons,List.map_nil,List.length_cons,List.length_nil,List.cons_append,List.nil_append,Nat.reduceSub,Nat.reduceAdd,List.replicate_succ,List.replicate_zero,List.length_map,ir_slices_SortFunc_int_int,rs_slices_SortFunc_int_int,ZZ,WW,Ze,reduceCtorEq,Nat.reduceAdd,Nat.reduceMul,Nat.reduceLeDiff,Nat.reduceLT,Nat.reduceEqDiff]
 rw [wr]
 refine use1 (bitsLenInt_ok (l.length:Nat) (by omega) (by omega)) rfl (.inl rfl) ?_
 generalize Lib.bitLen _=lim
 simp only [ZZ,WW,Ze,reduceCtorEq,Nat.reduceAdd,Nat.reduceMul,Nat.reduceLeDiff,Nat.reduceLT,Nat.reduceEqDiff]
 refine useR (pdqInt_ok f0 cf hO g ps hg l hl hc hn hr lim) rfl rfl rfl zE_ ?_
 rintro x es ⟨rfl,l',rfl,hp,hs⟩
 simp only [ZZ,WW,Ze,reduceCtorEq,Nat.reduceAdd,Nat.reduceMul,Nat.reduceLeDiff,Nat.reduceLT,Nat.reduceEqDiff]
 exact fin_R _ rfl ⟨rfl,l',rfl,hp,hs⟩
end
def ir_chaseref2_FamiliesOf_L1:IC:=(.seq (.reg [qO 30 (.bin .lss (.t 29) (.t 28))]) (.seq (.cond (.t 30) .skip (.exit 2)) (.seq (.block 3 (.seq (.reg [qO 31 (.ixa 1 (.t 27) (.t 29)),qO 32 (.ld 1 false (.t 31)),qM 8 32]) (.seq (.seq (.reg [qO 33 (.ld 1 false (.t 1)),qM 34 8,qO 35 (.ixa 7 (.t 33) (.t 34)),qO 36 (.fla 5 (.t 35)),qO 37 (.ld 1 false (.t 36)),qO 38 (.bin .eql (.t 37) (.c (.str [])))]) (.cond (.t 38) (.reg [qM 39 6,qO 40 (.ld 1 false (.t 1)),qM 41 8,qO 42 (.ixa 7 (.t 40) (.t 41)),qO 43 (.fla 0 (.t 42)),qO 44 (.ld 1 false (.t 43)),qO 45 (.bldg [.str [],.nl 1] [(0,1,.t 44)]),qO 46 (.bsr 119 2 [.t 45]),qO 47 (.app 119 2 40 (.t 39) (.t 46)),qM 6 47]) .skip)) (.cut (.seq (.reg [qM 48 6,qM 49 6,qO 50 (.len (.t 49)),qO 51 (.bin .sub (.t 50) (.c (.int .i64 1))),qO 52 (.ixa 2 (.t 48) (.t 51)),qM 9 52]) (.drp [1,2,3,4,5,6,7,8,9,10,11,0,12,13,14] [qM 54 9,qO 55 (.nck (.t 54)),qO 56 (.fla 1 (.t 55)),qO 57 (.ld 1 false (.t 56)),qO 58 (.ld 1 false (.t 1)),qM 59 8,qO 60 (.ixa 7 (.t 58) (.t 59)),qO 61 (.fla 0 (.t 60)),qO 62 (.ld 1 false (.t 61)),qO 63 (.bsl 1 [.t 62]),qO 64 (.app 9 1 16 (.t 57) (.t 63)),qM 53 9,qO 65 (.nck (.t 53)),qO 66 (.fla 1 (.t 65)),⟨none,.st 1 (.t 66) (.t 64),none⟩])))))) (.reg [qO 67 (.bin .add (.t 29) (.c (.int .i64 1))),qM 29 67]))))
def ir_chaseref2_FamiliesOf_L0:IC:=(.seq (.reg [qO 17 (.bin .lss (.t 16) (.t 15))]) (.seq (.cond (.t 17) .skip (.exit 0)) (.seq (.block 1 (.seq (.reg [qM 18 16,qM 5 18]) (.reg [qM 19 4,qM 20 5,qM 21 5,qO 22 (.ixa 1 (.t 19) (.t 20)),⟨none,.st 1 (.t 22) (.t 21),none⟩]))) (.reg [qO 23 (.bin .add (.t 16) (.c (.int .i64 1))),qM 16 23]))))
def ir_chaseref2_FamiliesOf:IC:=(.seq (.reg [qO 1 (.box 30 (.t 0)),qO 2 (.mov (.c (.nl 2))),⟨none,.re,none⟩]) (.seq (.reg [qO 10 (.mkf 164 [.t 1]),qO 3 (.alc 190 [.raw .nilFunc]),⟨none,.st 1 (.t 3) (.t 10),none⟩]) (.seq (.reg [qO 11 (.ld 1 false (.t 1)),⟨none,.re,none⟩,qO 12 (.len (.t 11)),qO 13 (.mks 3 1 8 [.int .i64 0] (.t 12) (.t 12)),qM 4 13]) (.seq (.seq (.reg [qM 14 4,qO 15 (.len (.t 14)),qO 16 (.mov (.c (.int .i64 0)))]) (.block 0 (.loop ir_chaseref2_FamiliesOf_L0))) (.seq (.reg [qM 24 4,qO 25 (.mkf 167 [.t 3]),qO 26 (.call 166 [.t 24,.t 25])]) (.seq (.reg [qO 6 (.nilr 119 2)]) (.seq (.seq (.reg [qM 27 4,qO 28 (.len (.t 27)),qO 29 (.mov (.c (.int .i64 0)))]) (.block 2 (.loop ir_chaseref2_FamiliesOf_L1))) (.seq (.reg [qM 68 6,qM 2 68,⟨none,.re,none⟩]) .ret))))))))
def rs_chaseref2_FamiliesOf:List IRes:=[.t 2]
theorem ck_chaseref2_FamiliesOf:chkF Tryz.prog Tryz.f83 ir_chaseref2_FamiliesOf rs_chaseref2_FamiliesOf 69=true:=by kernel_rfl
def ir_chaseref2_FamiliesOf_1_L0:IC:=(.seq (.reg [qO 24 (.bin .lss (.t 23) (.t 22))]) (.seq (.cond (.t 24) .skip (.exit 0)) (.seq (.block 1 (.seq (.reg [qO 25 (.ixa 1 (.t 21) (.t 23)),qO 26 (.ld 1 false (.t 25)),qM 8 26]) (.reg [qO 27 (.ld 1 false (.t 1)),qM 28 8,qO 29 (.ixa 7 (.t 27) (.t 28)),qO 30 (.fla 0 (.t 29)),qO 31 (.ld 1 false (.t 30)),qO 32 (.bsr 9 1 [.t 31]),qM 33 6,qO 34 (.app 9 1 16 (.t 32) (.t 33)),⟨none,.re,none⟩,qM 6 34]))) (.reg [qO 35 (.bin .add (.t 23) (.c (.int .i64 1))),qM 23 35]))))
def ir_chaseref2_FamiliesOf_1:IC:=(.seq (.reg [qO 3 (.mov (.c (.nl 1)))]) (.seq (.reg [qO 10 (.ld 1 false (.t 1)),qM 11 0,qO 12 (.call 165 [.t 10,.t 11]),qM 9 12,qO 13 (.ext 0 (.t 9)),qO 14 (.ext 1 (.t 9)),qM 4 13,qM 5 14]) (.seq (.reg [qO 15 (.ld 1 false (.t 1)),qM 16 0,qO 17 (.ixa 7 (.t 15) (.t 16)),qO 18 (.fla 0 (.t 17)),qO 19 (.ld 1 false (.t 18)),qO 20 (.bsl 1 [.t 19]),qM 6 20]) (.seq (.seq (.reg [qM 21 4,qO 22 (.len (.t 21)),qO 23 (.mov (.c (.int .i64 0)))]) (.block 0 (.loop ir_chaseref2_FamiliesOf_1_L0))) (.seq (.reg [qM 36 6,qM 3 36]) .ret)))))
def rs_chaseref2_FamiliesOf_1:List IRes:=[.t 3]
theorem ck_chaseref2_FamiliesOf_1:chkF Tryz.prog Tryz.f164 ir_chaseref2_FamiliesOf_1 rs_chaseref2_FamiliesOf_1 37=true:=by kernel_rfl
def ir_chaseref2_FamiliesOf_2:IC:=(.seq (.reg [qO 5 (.mov (.c (.int .i64 0)))]) (.seq (.drg [qO 6 (.ld 1 false (.t 2)),qM 7 0,qO 8 (.pcv 0 (.t 6) [.t 7]),qO 9 (.ld 1 false (.t 2)),qM 10 1,qO 11 (.pcv 1 (.t 9) [.t 10]),qO 12 (.pcall 2 168 [.t 8,.t 11]),qM 5 12]) .ret))
def rs_chaseref2_FamiliesOf_2:List IRes:=[.t 5]
theorem ck_chaseref2_FamiliesOf_2:chkF Tryz.prog Tryz.f167 ir_chaseref2_FamiliesOf_2 rs_chaseref2_FamiliesOf_2 13=true:=by kernel_rfl
def wayF (il:List Itm) (i:Nat):List (List UInt8):=((upF il (atI il i)).map fun v=>(atI il v.toNat).1).reverse++[(atI il i).1]
theorem upF_in {il:List Itm} (hP:PapOk il) {i:Nat} (hi:i < il.length):∀ v∈upF il (atI il i),∃ j:Nat,v=(j:Nat)∧j < il.length:=by
 intro v hv
 obtain ⟨h20,h1|⟨j,hj,h1,h2⟩⟩:=up_cases hP hi
 ·unfold upOf at h1
  rw [upF,if_pos h1] at hv
  cases hv
 ·unfold upOf at h1
  rw [upF,if_neg (by rw [h1];exact pid_ne j),h1] at hv
  obtain ⟨y,hy⟩:∃ y,il[j]?=some y:=⟨_,List.getElem?_eq_getElem (by omega)⟩
  rw [plF_pid hP hy,List.mem_singleton] at hv
  exact ⟨j,hv,by omega⟩
theorem upF_len (il:List Itm) (x:Itm):(upF il x).length≤1:=by
 unfold upF
 split<;>simp
theorem way_form {il:List Itm} (hP:PapOk il) {i:Nat} (hi:i < il.length):i < 20∧((wayF il i=[pid i]∧kyF il i=100 * i)∨∃ j,j < i∧wayF il i=[pid j,pid i]∧kyF il i=100 * j+(i+1)):=by
 obtain ⟨h20,h1|⟨j,hj,h1,h2⟩⟩:=up_cases hP hi
 ·refine ⟨h20,.inl ⟨?_,by rw [kyF,if_pos h1]⟩⟩
  unfold upOf at h1
  rw [wayF,upF,if_pos h1,id_at hP hi]
  rfl
 ·refine ⟨h20,.inr ⟨j,hj,?_,?_⟩⟩
  ·have h1':=h1
   unfold upOf at h1'
   obtain ⟨y,hy⟩:∃ y,il[j]?=some y:=⟨_,List.getElem?_eq_getElem (by omega)⟩
   rw [wayF,upF,if_neg (by rw [h1'];exact pid_ne j),h1',plF_pid hP hy,id_at hP hi]
   simp only [List.map_cons,List.map_nil,Int.toNat_natCast]
   rw [id_at hP (by omega)]
   rfl
  ·have:=idN_pid ⟨j,by omega⟩
   simp only at this
   rw [kyF,if_neg (by rw [h1];exact pid_ne j),h1,this]
theorem cb_pid:∀ a b:Fin 20,Lib.compareBytes (pid a.val) (pid b.val)=if a.val < b.val then -1 else if a.val=b.val then 0 else 1:=by decide +kernel
theorem cb_pid2 {a b:Nat} (ha:a < 20) (hb:b < 20):Lib.compareBytes (pid a) (pid b)=if a < b then -1 else if a=b then 0 else 1:=cb_pid ⟨a,ha⟩ ⟨b,hb⟩
theorem way_ky {il:List Itm} (hP:PapOk il) {i j:Nat} (hi:i < il.length) (hj:j < il.length):lexC (wayF il i) (wayF il j) < 0↔kyF il i < kyF il j:=by
 obtain ⟨i20,hi2⟩:=way_form hP hi
 obtain ⟨j20,hj2⟩:=way_form hP hj
 rcases hi2 with ⟨w1,k1⟩|⟨a,ha,w1,k1⟩<;>rcases hj2 with ⟨w2,k2⟩|⟨b,hb,w2,k2⟩<;>rw [w1,w2,k1,k2]<;>simp only [lexC]<;>(repeat rw [cb_pid2 (by omega) (by omega)])<;>repeat' split
 all_goals omega
def cfW (il:List Itm) (i j:Nat):Int:=if i < il.length∧j < il.length then lexC (wayF il i) (wayF il j) else (kyF il i:Int) - kyF il j
theorem cfW_lt {il:List Itm} (hP:PapOk il):ltC (cfW il)=fun i j=>decide (kyF il i < kyF il j):=by
 funext i j
 unfold ltC cfW
 rw [decide_eq_decide]
 split
 ·rename_i h
  exact way_ky hP h.1 h.2
 ·omega
theorem cfW_ord {il:List Itm} (hP:PapOk il):OrdP (ltC (cfW il)):=by
 rw [cfW_lt hP]
 constructor
 ·intro x y h
  simp only [decide_eq_true_eq,decide_eq_false_iff_not] at *
  omega
 ·intro x y z h1 h2
  simp only [decide_eq_false_iff_not] at *
  omega
theorem cfW_srt {il:List Itm} (hP:PapOk il) {o:List Nat} (hp:o.Perm (List.range il.length)) (hs:SrtP (ltC (cfW il)) o):o=ordX il:=by
 refine ord_uniq hP hp ?_
 unfold SrtP at hs
 rw [cfW_lt hP] at hs
 refine hs.imp fun h=>?_
 simp only [decide_eq_false_iff_not] at h
 omega
section
variable {E:Envt}
theorem way_ok (il:List Itm) (hP:PapOk il) (i:Nat) (hi:i < il.length):PCall Tryz.prog E 164 [int (i:Nat),.ptr [.sl 7 (itE il)]] (·=.sl 1 (strE (wayF il i))):=by
 have h20:=hP.1
 obtain ⟨x,hx⟩:∃ x,il[i]?=some x:=⟨_,List.getElem?_eq_getElem hi⟩
 have hg:=itE_get hx
 have ha:=atI_eq hx
 have hu:=upF_in hP hi
 have hul:=upF_len il x
 have hw:wayF il i=((upF il x).map fun v=>(atI il v.toNat).1).reverse++[x.1]:=by rw [wayF,ha]
 rw [ha] at hu
 rw [hw]
 simp only [itC] at hg
 refine pcallF mixed Tryz.func164 ck_chaseref2_FamiliesOf_1 ?_
 simp only [a0,l0,OS.ao,List.map_cons,List.map_nil,List.length_cons,List.length_nil,List.cons_append,List.nil_append,Nat.reduceSub,Nat.reduceAdd,List.replicate_succ,List.replicate_zero,ir_chaseref2_FamiliesOf_1,rs_chaseref2_FamiliesOf_1,ZZ,WW,Ze,reduceCtorEq,Nat.reduceAdd,Nat.reduceMul,Nat.reduceLeDiff,Nat.reduceLT,Nat.reduceEqDiff]
 refine use1 (above2_ok il hP i x hx) rfl (.inl rfl) ?_
 generalize upF il x=u at *
 simp only [ZZ,WW,Ze,reduceCtorEq,Nat.reduceAdd,Nat.reduceMul,Nat.reduceLeDiff,Nat.reduceLT,Nat.reduceEqDiff,hg,itE_len,ixE_len]
 ((repeat' (with_reducible apply And.intro))<;>try ((exact sc_)))
 refine loop_intro (fun n fr L=>∃ (k:Nat) (w:List (List UInt8)),k≤u.length∧n=u.length - k∧(w=((u.take k).map fun v=>(atI il v.toNat).1).reverse++[x.1])∧fr=[.p (int (i:Nat)),.p (.ptr [.sl 7 (itE il)]),oo,oo,oo,oo,.p (.sl 1 (strE w)),oo,oo,oo,oo,oo,oo,oo,oo,oo,oo,oo,oo,oo,oo,.p (.sl 1 (ixE u)),.p (int (u.length:Nat)),.p (int (k:Nat)),oo,oo,oo,oo,oo,oo,oo,oo,oo,oo,oo,oo,oo]∧L=[]) (u.length) [.p (int (i:Nat)),.p (.ptr [.sl 7 (itE il)]),oo,oo,oo,oo,.p (.sl 1 (strE ([x.1]))),oo,oo,oo,oo,oo,oo,oo,oo,oo,oo,oo,oo,oo,oo,.p (.sl 1 (ixE u)),.p (int (u.length:Nat)),.p (int (0:Nat)),oo,oo,oo,oo,oo,oo,oo,oo,oo,oo,oo,oo,oo] [] (by simp only [ZZ,WW,Ze,reduceCtorEq,Nat.reduceAdd,Nat.reduceMul,Nat.reduceLeDiff,Nat.reduceLT,Nat.reduceEqDiff,ixE_len];try trivial) (by (simp only [ZZ,WW,Ze,reduceCtorEq,Nat.reduceAdd,Nat.reduceMul,Nat.reduceLeDiff,Nat.reduceLT,Nat.reduceEqDiff];try trivial)) ⟨0,[x.1],by omega,by omega,rfl,rfl,rfl⟩ ?_
 rintro n fr L ⟨k,w,hk,rfl,hwk,rfl,rfl⟩
 simp only [ir_chaseref2_FamiliesOf_1_L0,ZZ,WW,Ze,reduceCtorEq,Nat.reduceAdd,Nat.reduceMul,Nat.reduceLeDiff,Nat.reduceLT,Nat.reduceEqDiff]
 refine br ?_ ?_
 ·intro h
  have hlt:k < u.length:=by have:=of_decide_eq_true h;omega
  obtain ⟨v,hv⟩:∃ v,u[k]?=some v:=⟨_,List.getElem?_eq_getElem hlt⟩
  have hgu:=ixE_get hv
  obtain ⟨j,hvj,hjl⟩:=hu v (List.mem_of_getElem? hv)
  obtain ⟨y,hy⟩:∃ y,il[j]?=some y:=⟨_,List.getElem?_eq_getElem hjl⟩
  have hgy:=itE_get hy
  simp only [itC] at hgy
  have hwl:w.length≤3:=by rw [hwk];simp only [List.length_append,List.length_reverse,List.length_map,List.length_take,List.length_singleton];omega
  rw [hvj] at hgu
  simp only [ZZ,WW,Ze,reduceCtorEq,Nat.reduceAdd,Nat.reduceMul,Nat.reduceLeDiff,Nat.reduceLT,Nat.reduceEqDiff,hgu,hgy,itE_len,ixE_len,strE_len]
  ((repeat' (with_reducible apply And.intro))<;>try ((exact sc_)))
  rw [ops_re]
  refine ⟨_,_,re_row (k:=.l 32) rfl,?_⟩
  simp only [ZZ,WW,Ze,reduceCtorEq,Nat.reduceAdd,Nat.reduceMul,Nat.reduceLeDiff,Nat.reduceLT,Nat.reduceEqDiff]
  ((repeat' (with_reducible apply And.intro))<;>try ((exact sc_)))
  refine end_round (u.length - (k+1)) [.p (int (i:Nat)),.p (.ptr [.sl 7 (itE il)]),oo,oo,oo,oo,.p (.sl 1 (strE (y.1 :: w))),oo,oo,oo,oo,oo,oo,oo,oo,oo,oo,oo,oo,oo,oo,.p (.sl 1 (ixE u)),.p (int (u.length:Nat)),.p (int ((k+1):Nat)),oo,oo,oo,oo,oo,oo,oo,oo,oo,oo,oo,oo,oo] [] (by omega) (by (simp only [ZZ,WW,Ze,reduceCtorEq,Nat.reduceAdd,Nat.reduceMul,Nat.reduceLeDiff,Nat.reduceLT,Nat.reduceEqDiff];try trivial)) (by (simp only [ZZ,WW,Ze,reduceCtorEq,Nat.reduceAdd,Nat.reduceMul,Nat.reduceLeDiff,Nat.reduceLT,Nat.reduceEqDiff];try trivial)) ⟨k+1,y.1 :: w,by omega,rfl,by rw [hwk,List.take_succ_eq_append_getElem hlt,(List.getElem?_eq_some_iff.1 hv).2,hvj];simp [atI_eq hy],rfl,rfl⟩
 intro h
 have hge:u.length≤k:=by have:=of_decide_eq_false h;omega
 rw [List.take_of_length_le hge] at hwk
 simp only [ZZ,WW,Ze,reduceCtorEq,Nat.reduceAdd,Nat.reduceMul,Nat.reduceLeDiff,Nat.reduceLT,Nat.reduceEqDiff]
 rw [hwk]
theorem wcmp_ok (il:List Itm) (hP:PapOk il) (i j:Nat) (hi:i < il.length) (hj:j < il.length):PCall Tryz.prog E 167 [int (i:Nat),int (j:Nat),.ptr [.clo 164 [.ptr [.sl 7 (itE il)]]]] (·=int (cfW il i j)):=by
 have hc:cfW il i j=lexC (wayF il i) (wayF il j):=by rw [cfW,if_pos ⟨hi,hj⟩]
 rw [hc]
 refine pcallF mixed Tryz.func167 ck_chaseref2_FamiliesOf_2 ?_
 simp only [a0,l0,OS.ao,List.map_cons,List.map_nil,List.length_cons,List.length_nil,List.cons_append,List.nil_append,Nat.reduceSub,Nat.reduceAdd,List.replicate_succ,List.replicate_zero,ir_chaseref2_FamiliesOf_2,rs_chaseref2_FamiliesOf_2,ZZ,WW,Ze,reduceCtorEq,Nat.reduceAdd,Nat.reduceMul,Nat.reduceLeDiff,Nat.reduceLT,Nat.reduceEqDiff]
 refine ⟨[.sl 1 (strE (wayF il i)),.sl 1 (strE (wayF il j)),int (lexC (wayF il i) (wayF il j))],?_⟩
 simp only [ZZ,WW,Ze,reduceCtorEq,Nat.reduceAdd,Nat.reduceMul,Nat.reduceLeDiff,Nat.reduceLT,Nat.reduceEqDiff]
 have wl:∀ i,(wayF il i).length≤2:=fun i=>by
  have:=upF_len il (atI il i)
  simp only [wayF,List.length_append,List.length_reverse,List.length_map,List.length_singleton]
  omega
 have w1:=wl i
 have w2:=wl j
 exact ⟨⟨by kernel_rfl,usep (way_ok il hP i hi) rfl (.inl rfl)⟩,⟨by kernel_rfl,usep (way_ok il hP j hj) rfl (.inl rfl)⟩,usep (SlCompare_ok _ _ (by omega) (by omega)) rfl (.inl rfl)⟩
end
abbrev tFm:Nat:=119
abbrev fWay:Nat:=164
abbrev tStF:Nat:=9
def fmC (f:Fam):List PV:=[.str f.1,.sl 1 (strE f.2)]
def fmA (I:List Fam):List (List AV):=I.map fun f=>[.p (.str f.1),.p (.sl 1 (strE f.2))]
theorem fmP_plain:∀ I:List Fam,Zbb (fmA I)=some (I.map fmC)
 |[]=>rfl
 |f :: r=>by
  have ih:=fmP_plain r
  simp only [fmA,List.map_cons] at ih ⊢
  rw [Zbb,ih]
  rfl
theorem fmP_kill (I:List Fam) (k:Key):(fmA I).map (fun x=>x.map fun y=>AV.kill k y)=fmA I:=by
 unfold fmA
 rw [List.map_map]
 exact List.map_congr_left fun _ _=>rfl
theorem fmP_ren (I:List Fam) (s:List UInt8):(fmA I++[[.p (.str s),AV.row (.l 64)]]).map (fun x=>x.map fun y=>AV.ren (r1 64 1000) y)=fmA I++[[.p (.str s),AV.row (.l 1000)]]:=by
 rw [List.map_append]
 congr 1
 unfold fmA
 rw [List.map_map]
 exact List.map_congr_left fun _ _=>rfl
theorem fmP_len (I:List Fam):(fmA I).length=I.length:=by simp [fmA]
theorem fmP_len1 (I:List Fam) (x:List AV):(fmA I++[x]).length=I.length+1:=by rw [List.length_append,fmP_len];rfl
theorem fmP_last (I:List Fam) (x:List AV):(fmA I++[x]).getD I.length []=x:=by
 rw [List.getD,List.getElem?_append_right (by rw [fmP_len];exact Nat.le_refl _),fmP_len,Nat.sub_self]
 rfl
theorem fmP_setl (I:List Fam) (x y:List AV):(fmA I++[x]).set I.length y=fmA I++[y]:=by
 rw [List.set_append_right _ _ (by rw [fmP_len];exact Nat.le_refl _),fmP_len,Nat.sub_self]
 rfl
theorem fmP_k1 (I:List Fam) (k:Key) (s:List UInt8) (c:AV):(fmA I++[[.p (.str s),c]]).map (fun x=>x.map fun y=>AV.kill k y)=fmA I++[[.p (.str s),c.kill k]]:=by
 rw [List.map_append,fmP_kill];rfl
def FmJ (L:Objs) (k:Nat):Option (List Fam×Fam)→Prop
 |none=>Zas L (.l 6)=some (.rowv (fmA []) tFm 2)
 |some (I,c)=>I.length≤k∧c.2.length≤k∧Zas L (.l 6)=some (.rowv (fmA I++[[.p (.str c.1),.row (.l 1000)]]) tFm 2)∧Zas L (.l 1000)=some (.row (strE c.2) tStF 1 true)
theorem fm_close {E:Envt} {fr:List AV} {L:Objs} {I:List Fam} {c:Fam} {x:List (List AV)} (hfr:∀ y,fr.map (·.thaw (.l 1000) y)=fr) (hx:∀ y,x.map (fun c=>c.map (AV.thaw (.l 1000) y))=x) (h1:Zas L (.l 6)=some (.rowv (fmA I++[[.p (.str c.1),.row (.l 1000)]]++x) tFm 2)) (h2:Zas L (.l 1000)=some (.row (strE c.2) tStF 1 true)) {es:List (List PV)} {e z:Nat} {ap:Bool} (h3:Zas L (.l 13)=some (.row es e z ap)) :
  ∃ L',ReOk E fr L fr L'∧Zas L' (.l 6)=some (.rowv (fmA (I++[c])++x) tFm 2)∧Zas L' (.l 13)=some (.row es e z ap):=by
 have hr:=re_row (E:=E) (fr:=fr) h2
 rw [hfr] at hr
 refine ⟨_,hr,?_,?_⟩
 ·rw [look_thawO,if_neg (by simp),h1,Option.map_some,AO.thaw]
  congr 2
  rw [List.map_append,List.map_append,hx]
  simp [fmA,AV.thaw]
 ·rw [look_thawO,if_neg (by simp),h3];rfl
def ixK (n k:Nat):List (List PV):=(List.range n).map fun i=>[int ((if i < k then i else 0:Nat):Nat)]
theorem ixK_len (n k:Nat):(ixK n k).length=n:=by simp [ixK]
theorem ixK_set {n k:Nat} (h:k < n):(ixK n k).set k [int (k:Nat)]=ixK n (k+1):=by
 apply List.ext_getElem
 ·simp [ixK]
 ·intro i h1 h2
  simp only [ixK,List.length_map,List.length_range,List.length_set] at h1 h2
  rw [List.getElem_set]
  simp only [ixK,List.getElem_map,List.getElem_range]
  by_cases e:k=i
  ·subst e
   rw [if_pos rfl,if_pos (by omega)]
  ·rw [if_neg e]
   by_cases e2:i < k
   ·rw [if_pos e2,if_pos (by omega)]
   ·rw [if_neg e2,if_neg (by omega)]
theorem ixK_zero (n:Nat):List.replicate n [int 0]=ixK n 0:=by simp [ixK,List.map_const']
theorem ixK_all (n:Nat):ixK n n=(List.range n).map fun i=>[int ((i:Nat):Int)]:=by
 unfold ixK
 refine List.map_congr_left fun i hi=>?_
 rw [List.mem_range] at hi
 rw [if_pos hi]
section
variable {E:Envt}
set_option maxHeartbeats 4000000 in
theorem FamiliesOf_ok (il:List Itm) (hP:PapOk il) (h12:il.length≤12):PCall Tryz.prog E 83 [.sl 7 (itE il)] (·=.sl 2 ((famF il).map fmC)):=by
 refine pcallF mixed Tryz.func83 ck_chaseref2_FamiliesOf ?_
 simp only [a0,l0,OS.ao,List.map_cons,List.map_nil,List.length_cons,List.length_nil,List.cons_append,List.nil_append,Nat.reduceSub,Nat.reduceAdd,List.replicate_succ,List.replicate_zero,ir_chaseref2_FamiliesOf,rs_chaseref2_FamiliesOf,ZZ,WW,Ze,reduceCtorEq,Nat.reduceAdd,Nat.reduceMul,Nat.reduceLeDiff,Nat.reduceLT,Nat.reduceEqDiff]
 rw [ops_re]
 refine ⟨_,_,re_box (k:=.l 1) (cs:=[.sl 7 (itE il)]) rfl,?_⟩
 simp only [ZZ,WW,Ze,reduceCtorEq,Nat.reduceAdd,Nat.reduceMul,Nat.reduceLeDiff,Nat.reduceLT,Nat.reduceEqDiff,itE_len]
 ((repeat' (with_reducible apply And.intro))<;>try ((exact sc_)))
 rw [ops_re]
 refine ⟨_,_,re_box (k:=.l 3) (cs:=[.clo 164 [.ptr [.sl 7 (itE il)]]]) rfl,?_⟩
 simp only [ZZ,WW,Ze,reduceCtorEq,Nat.reduceAdd,Nat.reduceMul,Nat.reduceLeDiff,Nat.reduceLT,Nat.reduceEqDiff,itE_len]
 refine ⟨by omega,?_⟩
 rw [ixK_zero,ixK_len]
 refine loop_intro (fun n fr L=>∃ (k:Nat),k≤il.length∧n=il.length - k∧fr=[oo,.p (.ptr [.sl 7 (itE il)]),oo,.p (.ptr [.clo fWay [.ptr [.sl 7 (itE il)]]]),.row (.l 13),oo,oo,oo,oo,oo,oo,oo,oo,oo,oo,.p (int (il.length:Nat)),.p (int (k:Nat)),oo,oo,oo,oo,oo,oo,oo,oo,oo,oo,oo,oo,oo,oo,oo,oo,oo,oo,oo,oo,oo,oo,oo,oo,oo,oo,oo,oo,oo,oo,oo,oo,oo,oo,oo,oo,oo,oo,oo,oo,oo,oo,oo,oo,oo,oo,oo,oo,oo,oo,oo,oo]∧L=[(.l 13,.row (ixK il.length k) 3 1 true)]) (il.length) [oo,.p (.ptr [.sl 7 (itE il)]),oo,.p (.ptr [.clo fWay [.ptr [.sl 7 (itE il)]]]),.row (.l 13),oo,oo,oo,oo,oo,oo,oo,oo,oo,oo,.p (int (il.length:Nat)),.p (int (0:Nat)),oo,oo,oo,oo,oo,oo,oo,oo,oo,oo,oo,oo,oo,oo,oo,oo,oo,oo,oo,oo,oo,oo,oo,oo,oo,oo,oo,oo,oo,oo,oo,oo,oo,oo,oo,oo,oo,oo,oo,oo,oo,oo,oo,oo,oo,oo,oo,oo,oo,oo,oo,oo] [(.l 13,.row (ixK il.length 0) 3 1 true)] zF_ (by (simp only [ZZ,WW,Ze,reduceCtorEq,Nat.reduceAdd,Nat.reduceMul,Nat.reduceLeDiff,Nat.reduceLT,Nat.reduceEqDiff];try trivial)) ⟨0,by omega,by omega,rfl,rfl⟩ ?_
 rintro n fr L ⟨k,hk,rfl,rfl,rfl⟩
 simp only [ir_chaseref2_FamiliesOf_L0,ZZ,WW,Ze,reduceCtorEq,Nat.reduceAdd,Nat.reduceMul,Nat.reduceLeDiff,Nat.reduceLT,Nat.reduceEqDiff]
 refine br ?_ ?_
 ·intro h
  have hlt:k < il.length:=by have:=of_decide_eq_true h;omega
  have hst:=ixK_set hlt
  have hgk:(ixK il.length k).getD k []=[int 0]:=by rw [ixK,getD_map (List.getElem?_range hlt)];simp
  simp only [ZZ,WW,Ze,reduceCtorEq,Nat.reduceAdd,Nat.reduceMul,Nat.reduceLeDiff,Nat.reduceLT,Nat.reduceEqDiff,ixK_len,hst,hgk]
  ((repeat' (with_reducible apply And.intro))<;>try ((exact sc_)))
  refine end_round (il.length - (k+1)) [oo,.p (.ptr [.sl 7 (itE il)]),oo,.p (.ptr [.clo fWay [.ptr [.sl 7 (itE il)]]]),.row (.l 13),oo,oo,oo,oo,oo,oo,oo,oo,oo,oo,.p (int (il.length:Nat)),.p (int ((k+1):Nat)),oo,oo,oo,oo,oo,oo,oo,oo,oo,oo,oo,oo,oo,oo,oo,oo,oo,oo,oo,oo,oo,oo,oo,oo,oo,oo,oo,oo,oo,oo,oo,oo,oo,oo,oo,oo,oo,oo,oo,oo,oo,oo,oo,oo,oo,oo,oo,oo,oo,oo,oo,oo] [(.l 13,.row (ixK il.length (k+1)) 3 1 true)] (by omega) (by (simp only [ZZ,WW,Ze,reduceCtorEq,Nat.reduceAdd,Nat.reduceMul,Nat.reduceLeDiff,Nat.reduceLT,Nat.reduceEqDiff];try trivial)) (by (simp only [ZZ,WW,Ze,reduceCtorEq,Nat.reduceAdd,Nat.reduceMul,Nat.reduceLeDiff,Nat.reduceLT,Nat.reduceEqDiff];try trivial)) ⟨k+1,by omega,rfl,rfl,rfl⟩
 intro h
 have hge:k=il.length:=by have:=of_decide_eq_false h;omega
 subst hge
 rw [ixK_all]
 simp only [ZZ,WW,Ze,reduceCtorEq,Nat.reduceAdd,Nat.reduceMul,Nat.reduceLeDiff,Nat.reduceLT,Nat.reduceEqDiff]
 refine useR (SortFInt_ok (fun i:Nat=>(i:Int)) (cfW il) (cfW_ord hP) 167 [.ptr [.clo 164 [.ptr [.sl 7 (itE il)]]]] (fun _=>by kernel_rfl) (List.range il.length) (by rw [List.length_range];exact h12) (fun i hi j hj=>wcmp_ok il hP i j (by simpa using hi) (by simpa using hj)) (fun _ _=>rfl) (fun _ _=>rfl)) rfl rfl rfl zE_ ?_
 rintro _ _ ⟨rfl,o,rfl,hp,hs⟩
 have ho:=cfW_srt hP hp hs
 subst ho
 have hol:(ordX il).length=il.length:=by rw [hp.length_eq,List.length_range]
 simp only [ZZ,WW,Ze,reduceCtorEq,Nat.reduceAdd,Nat.reduceMul,Nat.reduceLeDiff,Nat.reduceLT,Nat.reduceEqDiff,List.length_map,hol]
 obtain ⟨OC,hOC⟩:∃ OC:List (List PV),OC=(ordX il).map fun x=>[int ((x:Nat):Int)]:=⟨_,rfl⟩
 rw [← hOC]
 have hOl:OC.length=il.length:=by rw [hOC,List.length_map,hol]
 obtain ⟨J,hJ⟩:∃ J:Nat→Objs→Prop,J=fun k L=>(k < il.length∧FmJ L k (stG il ((ordX il).take k))∧Zas L (.l 13)=some (.row OC tElInt 1 true))∨(k=il.length∧Zas L (.l 6)=some (.row ((famF il).map fmC) tFm 2 true)):=⟨_,rfl⟩
 have hfr:∀ (q:Nat) (y:PV),List.map (fun x:AV=>x.thaw (.l 1000) y) [oo,.p (.ptr [.sl 7 (itE il)]),oo,oo,oo,oo,.row (.l 6),oo,oo,oo,oo,oo,oo,oo,oo,oo,oo,oo,oo,oo,oo,oo,oo,oo,oo,oo,oo,.row (.l 13),.p (int (il.length:Nat)),.p (int (q:Nat)),oo,oo,oo,oo,oo,oo,oo,oo,oo,oo,oo,oo,oo,oo,oo,oo,oo,oo,oo,oo,oo,oo,oo,oo,oo,oo,oo,oo,oo,oo,oo,oo,oo,oo,oo,oo,oo,oo,oo]=[oo,.p (.ptr [.sl 7 (itE il)]),oo,oo,oo,oo,.row (.l 6),oo,oo,oo,oo,oo,oo,oo,oo,oo,oo,oo,oo,oo,oo,oo,oo,oo,oo,oo,oo,.row (.l 13),.p (int (il.length:Nat)),.p (int (q:Nat)),oo,oo,oo,oo,oo,oo,oo,oo,oo,oo,oo,oo,oo,oo,oo,oo,oo,oo,oo,oo,oo,oo,oo,oo,oo,oo,oo,oo,oo,oo,oo,oo,oo,oo,oo,oo,oo,oo,oo]:=by
  intro q y
  have e1:(Key.l 6=.l 1000)=False:=by simp
  have e2:(Key.l 13=.l 1000)=False:=by simp
  simp only [List.map_cons,List.map_nil,AV.thaw,e1,e2,if_false]
 have hnx:∀ k L,k≤il.length→FmJ L k (stG il ((ordX il).take k))→Zas L (.l 13)=some (.row OC tElInt 1 true)→∃ L',ReOk E [oo,.p (.ptr [.sl 7 (itE il)]),oo,oo,oo,oo,.row (.l 6),oo,oo,oo,oo,oo,oo,oo,oo,oo,oo,oo,oo,oo,oo,oo,oo,oo,oo,oo,oo,.row (.l 13),.p (int (il.length:Nat)),.p (int (k:Nat)),oo,oo,oo,oo,oo,oo,oo,oo,oo,oo,oo,oo,oo,oo,oo,oo,oo,oo,oo,oo,oo,oo,oo,oo,oo,oo,oo,oo,oo,oo,oo,oo,oo,oo,oo,oo,oo,oo,oo] L [oo,.p (.ptr [.sl 7 (itE il)]),oo,oo,oo,oo,.row (.l 6),oo,oo,oo,oo,oo,oo,oo,oo,oo,oo,oo,oo,oo,oo,oo,oo,oo,oo,oo,oo,.row (.l 13),.p (int (il.length:Nat)),.p (int (k:Nat)),oo,oo,oo,oo,oo,oo,oo,oo,oo,oo,oo,oo,oo,oo,oo,oo,oo,oo,oo,oo,oo,oo,oo,oo,oo,oo,oo,oo,oo,oo,oo,oo,oo,oo,oo,oo,oo,oo,oo] L'∧J k L':=by
  intro k L hk h h13
  by_cases hkl:k < il.length
  ·exact ⟨L,ReOk.refl,by rw [hJ];exact .inl ⟨hkl,h,h13⟩⟩
  ·have hke:k=il.length:=by omega
   have hG:=ord_fam hP
   rw [List.take_of_length_le (by omega)] at h
   generalize stG il (ordX il)=G at *
   cases G with
   |none=>
    refine ⟨_,re_plain h (fmP_plain []),?_⟩
    rw [hJ,← hG]
    refine .inr ⟨hke,?_⟩
    rw [look_putO,if_pos rfl]
    rfl
   |some G=>
    obtain ⟨I,c⟩:=G
    obtain ⟨_,_,h1,h2⟩:=h
    obtain ⟨L1,r1,h3,_⟩:=fm_close (E:=E) (fr:=[oo,.p (.ptr [.sl 7 (itE il)]),oo,oo,oo,oo,.row (.l 6),oo,oo,oo,oo,oo,oo,oo,oo,oo,oo,oo,oo,oo,oo,oo,oo,oo,oo,oo,oo,.row (.l 13),.p (int (il.length:Nat)),.p (int (k:Nat)),oo,oo,oo,oo,oo,oo,oo,oo,oo,oo,oo,oo,oo,oo,oo,oo,oo,oo,oo,oo,oo,oo,oo,oo,oo,oo,oo,oo,oo,oo,oo,oo,oo,oo,oo,oo,oo,oo,oo]) (x:=[]) (hfr k) (fun _=>rfl) (by rw [List.append_nil];exact h1) h2 h13
    rw [List.append_nil] at h3
    refine ⟨_,ReOk.trans r1 (re_plain h3 (fmP_plain _)),?_⟩
    rw [hJ,← hG]
    refine .inr ⟨hke,?_⟩
    rw [look_putO,if_pos rfl]
    rfl
 obtain ⟨L1,q1,q2⟩:=hnx 0 [(.l 13,.row OC tElInt 1 true),(.l 6,.rowv (fmA []) tFm 2)] (by omega) rfl rfl
 refine loop_re (fun m fr L=>∃ k,k≤il.length∧m=il.length - k∧fr=[oo,.p (.ptr [.sl 7 (itE il)]),oo,oo,oo,oo,.row (.l 6),oo,oo,oo,oo,oo,oo,oo,oo,oo,oo,oo,oo,oo,oo,oo,oo,oo,oo,oo,oo,.row (.l 13),.p (int (il.length:Nat)),.p (int (k:Nat)),oo,oo,oo,oo,oo,oo,oo,oo,oo,oo,oo,oo,oo,oo,oo,oo,oo,oo,oo,oo,oo,oo,oo,oo,oo,oo,oo,oo,oo,oo,oo,oo,oo,oo,oo,oo,oo,oo,oo]∧J k L) il.length [oo,.p (.ptr [.sl 7 (itE il)]),oo,oo,oo,oo,.row (.l 6),oo,oo,oo,oo,oo,oo,oo,oo,oo,oo,oo,oo,oo,oo,oo,oo,oo,oo,oo,oo,.row (.l 13),.p (int (il.length:Nat)),.p (int (0:Nat)),oo,oo,oo,oo,oo,oo,oo,oo,oo,oo,oo,oo,oo,oo,oo,oo,oo,oo,oo,oo,oo,oo,oo,oo,oo,oo,oo,oo,oo,oo,oo,oo,oo,oo,oo,oo,oo,oo,oo] L1 (ReOk.trans (re_le zF_) (ReOk.trans (re_rowv (k:=.l 6) rfl) q1)) ⟨0,by omega,by omega,rfl,q2⟩ ?_
 clear q1 q2 L1
 rintro m fr L ⟨k,hk,rfl,rfl,hj⟩
 simp only [ir_chaseref2_FamiliesOf_L1,ZZ,WW,Ze,reduceCtorEq,Nat.reduceAdd,Nat.reduceMul,Nat.reduceLeDiff,Nat.reduceLT,Nat.reduceEqDiff]
 rw [hJ] at hj
 refine br ?_ ?_
 ·intro h
  have hlt:k < il.length:=by have:=of_decide_eq_true h;omega
  rcases hj with ⟨_,hj,h13⟩|⟨e,_⟩
  rotate_left
  ·omega
  obtain ⟨i,hi⟩:∃ i,(ordX il)[k]?=some i:=⟨_,List.getElem?_eq_getElem (by omega)⟩
  have hgo:OC.getD k []=[int ((i:Nat):Int)]:=by rw [hOC];exact getD_map hi
  have hil:i < il.length:=(ord_mem hP i).1 (List.mem_of_getElem? hi)
  obtain ⟨x,hx⟩:∃ x,il[i]?=some x:=⟨_,List.getElem?_eq_getElem hil⟩
  have hg:=itE_get hx
  have hax:=atI_eq hx
  simp only [itC] at hg
  have hnx1:=fun L=>hnx (k+1) L (by omega)
  have hsn:stG il ((ordX il).take (k+1))=stpG il (stG il ((ordX il).take k)) i:=by rw [← stG_snoc,List.take_succ_eq_append_getElem (by omega),(List.getElem?_eq_some_iff.1 hi).2]
  have hps:=stG_pos hP (k:=k+1) (by omega) (by omega)
  rw [hsn] at hnx1 hps
  generalize stG il ((ordX il).take k)=G at *
  unfold stpG at hnx1 hps
  rw [hax] at hnx1 hps
  by_cases hup:upOf x=[]
  ·rw [if_pos hup] at hnx1
   unfold upOf at hup
   cases G with
   |none=>
    have hj:Zas L (.l 6)=some (.rowv (fmA []) tFm 2):=hj
    have hk0:(fmA []).map (fun x=>x.map fun y=>AV.kill (.l 6) y)=fmA []:=fmP_kill [] _
    obtain ⟨I,hI⟩:∃ I:List Fam,I=[]:=⟨_,rfl⟩
    rw [← hI] at hj hk0
    have hIl:I.length≤20:=by rw [hI];simp
    have hk46:(fmA I).map (fun x=>x.map fun y=>AV.kill (.l 46) y)=fmA I:=fmP_kill I _
    have hix:((I.length+1:Nat):Int) - 1=(I.length:Nat):=by omega
    simp only [ZZ,WW,Ze,reduceCtorEq,Nat.reduceAdd,Nat.reduceMul,Nat.reduceLeDiff,Nat.reduceLT,Nat.reduceEqDiff,hgo,hg,itE_len,hOl,hj,h13,hup,hk0,hk46,fmP_len,look_updL,look_putO,look_killO,decide_true]
    ((repeat' (with_reducible apply And.intro))<;>try ((exact sc_)))
    generalize hLL:Zat (Zau (Key.l 6) _) (Key.l 6) _=LL
    have q6:Zas LL (.l 6)=some (.rowv (fmA I++[[.p (.str x.1),.p (.nl 1)]]) tFm 2):=by rw [← hLL,look_putO,if_pos rfl]
    have q13:Zas LL (.l 13)=some (.row OC tElInt 1 true):=by
     rw [← hLL]
     simp only [look_updL,look_putO,look_killO,h13,ZZ,WW,Ze,reduceCtorEq,Nat.reduceAdd,Nat.reduceMul,Nat.reduceLeDiff,Nat.reduceLT,Nat.reduceEqDiff]
    refine cut_re [oo,.p (.ptr [.sl 7 (itE il)]),oo,oo,oo,oo,.row (.l 6),oo,.p (int (i:Nat)),oo,oo,oo,oo,oo,oo,oo,oo,oo,oo,oo,oo,oo,oo,oo,oo,oo,oo,.row (.l 13),.p (int (il.length:Nat)),.p (int (k:Nat)),oo,oo,oo,oo,oo,oo,oo,oo,oo,oo,oo,oo,oo,oo,oo,oo,oo,oo,oo,oo,oo,oo,oo,oo,oo,oo,oo,oo,oo,oo,oo,oo,oo,oo,oo,oo,oo,oo,oo] LL (re_le zF_) ?_
    clear hLL hj h13
    have hln:=fmP_len1 I [.p (.str x.1),.p (.nl 1)]
    have hix:((I.length+1:Nat):Int) - 1=(I.length:Nat):=by omega
    have hla:=fmP_last I [.p (.str x.1),.p (.nl 1)]
    have hk64:=fmP_k1 I (.l 64) x.1 (.p (.nl 1))
    simp only [AV.kill] at hk64
    simp only [ZZ,WW,Ze,reduceCtorEq,Nat.reduceAdd,Nat.reduceMul,Nat.reduceLeDiff,Nat.reduceLT,Nat.reduceEqDiff,hg,itE_len,q6,hln,hix,hla,look_updL,look_putO,look_killO]
    ((repeat' (with_reducible apply And.intro))<;>try ((exact sc_)))
    refine ⟨[],?_⟩
    simp only [ZZ,WW,Ze,reduceCtorEq,Nat.reduceAdd,Nat.reduceMul,Nat.reduceLeDiff,Nat.reduceLT,Nat.reduceEqDiff,hg,itE_len,q6,hln,hix,hla,hk64,fmP_setl,look_updL,look_putO,look_killO]
    refine ⟨by omega,⟨by omega,by omega⟩,by omega,by omega,i64_of (by omega) (by omega),?_⟩
    generalize hLM:Zat (Zat (Zau (Key.l 64) LL) (Key.l 64) _) (Key.l 6) _=LM
    have w6:Zas (mapO (r1 64 1000) LM) (.l 6)=some (.rowv (fmA I++[[.p (.str x.1),.row (.l 1000)]]) tFm 2):=by
     rw [look_ren1,if_neg (by simp),if_neg (by simp),← hLM,look_putO,if_pos rfl]
     simp only [Option.map_some,AO.ren]
     exact congrArg (fun c=>some (AO.rowv c tFm 2)) (fmP_ren _ _)
    have w1:Zas (mapO (r1 64 1000) LM) (.l 1000)=some (.row (strE [x.1]) tStF 1 true):=by
     rw [look_ren1,if_pos rfl,← hLM,look_putO,if_neg (by simp),look_putO,if_pos rfl]
     rfl
    have w13:Zas (mapO (r1 64 1000) LM) (.l 13)=some (.row OC tElInt 1 true):=by
     rw [look_ren1,if_neg (by simp),if_neg (by simp),← hLM,look_putO,if_neg (by simp),look_putO,if_neg (by simp),look_killO,q13]
     rfl
    rw [hI] at w6
    obtain ⟨L2,r2,h2⟩:=hnx1 (mapO (r1 64 1000) LM) ⟨by show ([]:List Fam).length≤k+1;simp,by show [x.1].length≤k+1;simp,w6,w1⟩ w13
    refine end_re (il.length - (k+1)) [oo,.p (.ptr [.sl 7 (itE il)]),oo,oo,oo,oo,.row (.l 6),oo,oo,oo,oo,oo,oo,oo,oo,oo,oo,oo,oo,oo,oo,oo,oo,oo,oo,oo,oo,.row (.l 13),.p (int (il.length:Nat)),.p (int (k+1:Nat)),oo,oo,oo,oo,oo,oo,oo,oo,oo,oo,oo,oo,oo,oo,oo,oo,oo,oo,oo,oo,oo,oo,oo,oo,oo,oo,oo,oo,oo,oo,oo,oo,oo,oo,oo,oo,oo,oo,oo] L2 (by omega) (ReOk.trans (re_ren 64 1000) (ReOk.trans (re_le (by simp only [AV.ren,r1,ZZ,WW,Ze,reduceCtorEq,Nat.reduceAdd,Nat.reduceMul,Nat.reduceLeDiff,Nat.reduceLT,Nat.reduceEqDiff];try trivial)) r2)) ⟨k+1,by omega,rfl,rfl,h2⟩
   |some G=>
    obtain ⟨I,c⟩:=G
    obtain ⟨hI,hc,h6,h1⟩:=hj
    have hI:I.length≤k:=hI
    have hc:c.2.length≤k:=hc
    have hln:=fmP_len1 I [.p (.str c.1),.row (.l 1000)]
    have hk1:=fmP_k1 I (.l 6) c.1 (.row (.l 1000))
    have hk46:=fmP_k1 I (.l 46) c.1 (.row (.l 1000))
    simp only [AV.kill,Key.l.injEq,Nat.reduceEqDiff,if_false] at hk1 hk46
    simp only [ZZ,WW,Ze,reduceCtorEq,Nat.reduceAdd,Nat.reduceMul,Nat.reduceLeDiff,Nat.reduceLT,Nat.reduceEqDiff,hgo,hg,itE_len,hOl,h6,h13,hup,hln,hk1,hk46,look_updL,look_putO,look_killO,decide_true]
    ((repeat' (with_reducible apply And.intro))<;>try ((exact sc_)))
    generalize hLL:Zat (Zau (Key.l 6) _) (Key.l 6) _=LL
    have q6:Zas LL (.l 6)=some (.rowv (fmA I++[[.p (.str c.1),.row (.l 1000)]]++[[.p (.str x.1),.p (.nl 1)]]) tFm 2):=by rw [← hLL,look_putO,if_pos rfl]
    have q13:Zas LL (.l 13)=some (.row OC tElInt 1 true):=by
     rw [← hLL]
     simp only [look_updL,look_putO,look_killO,h13,ZZ,WW,Ze,reduceCtorEq,Nat.reduceAdd,Nat.reduceMul,Nat.reduceLeDiff,Nat.reduceLT,Nat.reduceEqDiff]
    have q1:Zas LL (.l 1000)=some (.row (strE c.2) tStF 1 true):=by
     rw [← hLL]
     simp only [look_updL,look_putO,look_killO,h1,ZZ,WW,Ze,reduceCtorEq,Nat.reduceAdd,Nat.reduceMul,Nat.reduceLeDiff,Nat.reduceLT,Nat.reduceEqDiff]
    obtain ⟨L3,r3,q6,q13⟩:=fm_close (E:=E) (fr:=[oo,.p (.ptr [.sl 7 (itE il)]),oo,oo,oo,oo,.row (.l 6),oo,.p (int (i:Nat)),oo,oo,oo,oo,oo,oo,oo,oo,oo,oo,oo,oo,oo,oo,oo,oo,oo,oo,.row (.l 13),.p (int (il.length:Nat)),.p (int (k:Nat)),oo,oo,oo,oo,oo,oo,oo,oo,oo,oo,oo,oo,oo,oo,oo,oo,oo,oo,oo,oo,oo,oo,oo,oo,oo,oo,oo,oo,oo,oo,oo,oo,oo,oo,oo,oo,oo,oo,oo]) (x:=[[.p (.str x.1),.p (.nl 1)]]) (by
     intro y
     have e1:(Key.l 6=.l 1000)=False:=by simp
     have e2:(Key.l 13=.l 1000)=False:=by simp
     simp only [List.map_cons,List.map_nil,AV.thaw,e1,e2,if_false]) (fun _=>rfl) q6 q1 q13
    refine cut_re [oo,.p (.ptr [.sl 7 (itE il)]),oo,oo,oo,oo,.row (.l 6),oo,.p (int (i:Nat)),oo,oo,oo,oo,oo,oo,oo,oo,oo,oo,oo,oo,oo,oo,oo,oo,oo,oo,.row (.l 13),.p (int (il.length:Nat)),.p (int (k:Nat)),oo,oo,oo,oo,oo,oo,oo,oo,oo,oo,oo,oo,oo,oo,oo,oo,oo,oo,oo,oo,oo,oo,oo,oo,oo,oo,oo,oo,oo,oo,oo,oo,oo,oo,oo,oo,oo,oo,oo] L3 (ReOk.trans (re_le zF_) r3) ?_
    clear r3 hLL h6 h13 h1 q1
    have hIl:(I++[c]).length≤20:=by simp;omega
    generalize hI2:I++[c]=I2 at *
    have hln:=fmP_len1 I2 [.p (.str x.1),.p (.nl 1)]
    have hix:((I2.length+1:Nat):Int) - 1=(I2.length:Nat):=by omega
    have hla:=fmP_last I2 [.p (.str x.1),.p (.nl 1)]
    have hk64:=fmP_k1 I2 (.l 64) x.1 (.p (.nl 1))
    simp only [AV.kill] at hk64
    simp only [ZZ,WW,Ze,reduceCtorEq,Nat.reduceAdd,Nat.reduceMul,Nat.reduceLeDiff,Nat.reduceLT,Nat.reduceEqDiff,hg,itE_len,q6,hln,hix,hla,look_updL,look_putO,look_killO]
    ((repeat' (with_reducible apply And.intro))<;>try ((exact sc_)))
    refine ⟨[],?_⟩
    simp only [ZZ,WW,Ze,reduceCtorEq,Nat.reduceAdd,Nat.reduceMul,Nat.reduceLeDiff,Nat.reduceLT,Nat.reduceEqDiff,hg,itE_len,q6,hln,hix,hla,hk64,fmP_setl,look_updL,look_putO,look_killO]
    refine ⟨by omega,⟨by omega,by omega⟩,by omega,by omega,i64_of (by omega) (by omega),?_⟩
    generalize hLM:Zat (Zat (Zau (Key.l 64) L3) (Key.l 64) _) (Key.l 6) _=LM
    have w6:Zas (mapO (r1 64 1000) LM) (.l 6)=some (.rowv (fmA I2++[[.p (.str x.1),.row (.l 1000)]]) tFm 2):=by
     rw [look_ren1,if_neg (by simp),if_neg (by simp),← hLM,look_putO,if_pos rfl]
     simp only [Option.map_some,AO.ren]
     exact congrArg (fun c=>some (AO.rowv c tFm 2)) (fmP_ren _ _)
    have w1:Zas (mapO (r1 64 1000) LM) (.l 1000)=some (.row (strE [x.1]) tStF 1 true):=by
     rw [look_ren1,if_pos rfl,← hLM,look_putO,if_neg (by simp),look_putO,if_pos rfl]
     rfl
    have w13:Zas (mapO (r1 64 1000) LM) (.l 13)=some (.row OC tElInt 1 true):=by
     rw [look_ren1,if_neg (by simp),if_neg (by simp),← hLM,look_putO,if_neg (by simp),look_putO,if_neg (by simp),look_killO,q13]
     rfl
    have hI3:I2.length≤k+1:=by rw [← hI2,List.length_append];simp;omega
    rw [← hI2] at w6 hI3
    obtain ⟨L2,r2,h2⟩:=hnx1 (mapO (r1 64 1000) LM) ⟨hI3,by show [x.1].length≤k+1;simp,w6,w1⟩ w13
    refine end_re (il.length - (k+1)) [oo,.p (.ptr [.sl 7 (itE il)]),oo,oo,oo,oo,.row (.l 6),oo,oo,oo,oo,oo,oo,oo,oo,oo,oo,oo,oo,oo,oo,oo,oo,oo,oo,oo,oo,.row (.l 13),.p (int (il.length:Nat)),.p (int (k+1:Nat)),oo,oo,oo,oo,oo,oo,oo,oo,oo,oo,oo,oo,oo,oo,oo,oo,oo,oo,oo,oo,oo,oo,oo,oo,oo,oo,oo,oo,oo,oo,oo,oo,oo,oo,oo,oo,oo,oo,oo] L2 (by omega) (ReOk.trans (re_ren 64 1000) (ReOk.trans (re_le (by simp only [AV.ren,r1,ZZ,WW,Ze,reduceCtorEq,Nat.reduceAdd,Nat.reduceMul,Nat.reduceLeDiff,Nat.reduceLT,Nat.reduceEqDiff];try trivial)) r2)) ⟨k+1,by omega,rfl,rfl,h2⟩
  ·rw [if_neg hup] at hnx1 hps
   unfold upOf at hup
   cases G with
   |none=>obtain ⟨I,c,e⟩:=hps;cases e
   |some G=>
    obtain ⟨I,c⟩:=G
    obtain ⟨hI,hc,h6,h1⟩:=hj
    have hI:I.length≤k:=hI
    have hc:c.2.length≤k:=hc
    have hln:=fmP_len1 I [.p (.str c.1),.row (.l 1000)]
    have hix:((I.length+1:Nat):Int) - 1=(I.length:Nat):=by omega
    have hla:=fmP_last I [.p (.str c.1),.row (.l 1000)]
    simp only [ZZ,WW,Ze,reduceCtorEq,Nat.reduceAdd,Nat.reduceMul,Nat.reduceLeDiff,Nat.reduceLT,Nat.reduceEqDiff,hgo,hg,itE_len,hOl,h6,h13,h1,hup,hln,look_updL,look_putO,look_killO,decide_false]
    ((repeat' (with_reducible apply And.intro))<;>try ((exact sc_)))
    refine cut_re _ _ ReOk.refl ?_
    simp only [ZZ,WW,Ze,reduceCtorEq,Nat.reduceAdd,Nat.reduceMul,Nat.reduceLeDiff,Nat.reduceLT,Nat.reduceEqDiff,hgo,hg,itE_len,hOl,h6,h13,h1,hup,hln,hix,hla,strE_len,look_updL,look_putO,look_killO]
    ((repeat' (with_reducible apply And.intro))<;>try ((exact sc_)))
    refine ⟨[],?_⟩
    have hk2:=fmP_k1 I (.l 1000) c.1 (.row (.l 1000))
    simp only [AV.kill,if_true] at hk2
    have hln2:=fmP_len1 I [.p (.str c.1),oo]
    have hla2:=fmP_last I [.p (.str c.1),oo]
    simp only [ZZ,WW,Ze,reduceCtorEq,Nat.reduceAdd,Nat.reduceMul,Nat.reduceLeDiff,Nat.reduceLT,Nat.reduceEqDiff,hg,itE_len,h6,h13,h1,hln,hix,hla,hk2,hln2,hla2,fmP_setl,strE_len,look_updL,look_putO,look_killO]
    refine ⟨by omega,⟨by omega,by omega⟩,by omega,by omega,by omega,i64_of (by omega) (by omega),?_⟩
    generalize hLL:Zat (Zat (Zau (Key.l 1000) L) (Key.l 1000) _) (Key.l 6) _=LL
    obtain ⟨L2,r2,h2⟩:=hnx1 LL ⟨by show I.length≤k+1;omega,by show (c.2++[x.1]).length≤k+1;simp only [List.length_append,List.length_singleton];omega,by rw [← hLL,look_putO,if_pos rfl],by rw [← hLL,look_putO,if_neg (by simp),look_putO,if_pos rfl,strE_app];rfl⟩ (by rw [← hLL,look_putO,if_neg (by simp),look_putO,if_neg (by simp),look_killO,h13];rfl)
    refine end_re (il.length - (k+1)) [oo,.p (.ptr [.sl 7 (itE il)]),oo,oo,oo,oo,.row (.l 6),oo,oo,oo,oo,oo,oo,oo,oo,oo,oo,oo,oo,oo,oo,oo,oo,oo,oo,oo,oo,.row (.l 13),.p (int (il.length:Nat)),.p (int (k+1:Nat)),oo,oo,oo,oo,oo,oo,oo,oo,oo,oo,oo,oo,oo,oo,oo,oo,oo,oo,oo,oo,oo,oo,oo,oo,oo,oo,oo,oo,oo,oo,oo,oo,oo,oo,oo,oo,oo,oo,oo] L2 (by omega) (ReOk.trans (re_le zF_) r2) ⟨k+1,by omega,rfl,rfl,h2⟩
 ·intro h
  have hge:k=il.length:=by have:=of_decide_eq_false h;omega
  rcases hj with ⟨e,_⟩|⟨_,hO⟩
  ·omega
  subst hge
  simp only [ZZ,WW,Ze,reduceCtorEq,Nat.reduceAdd,Nat.reduceMul,Nat.reduceLeDiff,Nat.reduceLT,Nat.reduceEqDiff]
  rw [ops_re]
  refine ⟨_,_,re_row (k:=.l 6) hO,?_⟩
  simp only [ZZ,WW,Ze,reduceCtorEq,Nat.reduceAdd,Nat.reduceMul,Nat.reduceLeDiff,Nat.reduceLT,Nat.reduceEqDiff]
  done
end
end Go.Proofs.YtehfjlpenlffmaaGreatDoor
