import Derived.Test.YtinffddgojhdfaaGreatDoorZ9
import Derived.Test.YtinffddgojhdfaaGreatDoorZ7
set_option linter.unusedVariables false
set_option linter.unusedSimpArgs false
set_option linter.defProp false
namespace Go.Proofs.YtinffddgojhdfaaGreatDoor
open Go.RowKit
def ir_slices_Clone_api_Deed_api_Deed:IC:=(.seq (.reg [qO 2 (.nilr 45 12)]) (.seq (.seq (.reg [qM 3 0,qO 4 (.isn (.t 3))]) (.cond (.t 4) (.seq (.reg [qO 2 (.nilr 45 12)]) .ret) .skip)) (.seq (.reg [qO 5 (.bsr 45 12 []),qM 6 0,qO 7 (.app 45 12 144 (.t 5) (.t 6)),qM 2 7]) .ret)))
def rs_slices_Clone_api_Deed_api_Deed:List IRes:=[.t 2]
theorem ck_slices_Clone_api_Deed_api_Deed:chkF Tryz.prog Tryz.f35 ir_slices_Clone_api_Deed_api_Deed rs_slices_Clone_api_Deed_api_Deed 8=true:=by kernel_rfl
def ir_chaseref1_TipDeed_L0:IC:=(.seq (.reg [qO 13 (.bin .lss (.t 12) (.t 11))]) (.seq (.cond (.t 13) .skip (.exit 0)) (.seq (.block 1 (.seq (.reg [qO 14 (.ixa 12 (.t 10) (.t 12)),qO 15 (.ld 12 true (.t 14)),qO 9 (.alc 45 [.str [],.int .i64 0,.int .i64 0,.int .i64 0,.str [],.str [],.str [],.int .i64 0,.int .i64 0,.str [],.int .i64 0,.str []]),⟨none,.st 12 (.t 9) (.t 15),none⟩]) (.seq (.reg [qO 16 (.fla 0 (.t 9)),qO 17 (.fla 0 (.t 16)),qO 18 (.ld 1 false (.t 17)),qM 19 1,qO 20 (.bin .eql (.t 18) (.t 19))]) (.cond (.t 20) (.drg [qO 21 (.fla 0 (.t 9)),qO 22 (.fla 1 (.t 21)),qO 23 (.ld 1 false (.t 22)),qO 24 (.fla 11 (.t 9)),qO 25 (.ld 1 false (.t 24)),qM 6 23,qM 7 25]) .skip)))) (.cut (.reg [qO 26 (.bin .add (.t 12) (.c (.int .i64 1))),qM 12 26])))))
def ir_chaseref1_TipDeed:IC:=(.seq (.reg [qO 4 (.mov (.c (.int .i64 0))),qO 5 (.mov (.c (.str [])))]) (.seq (.reg [qO 6 (.mov (.c (.int .i64 0))),qO 7 (.mov (.c (.str [])))]) (.seq (.seq (.reg [qM 10 0,qO 11 (.len (.t 10)),qO 12 (.mov (.c (.int .i64 0)))]) (.block 0 (.loop ir_chaseref1_TipDeed_L0))) (.seq (.reg [qM 27 6,qM 28 7,qM 4 27,qM 5 28]) .ret))))
def rs_chaseref1_TipDeed:List IRes:=[.t 4,.t 5]
theorem ck_chaseref1_TipDeed:chkF Tryz.prog Tryz.f23 ir_chaseref1_TipDeed rs_chaseref1_TipDeed 29=true:=by kernel_rfl
def ir_chaseref1_added:IC:=(.seq (.reg [qO 3 (.box 45 (.t 1)),qO 4 (.mov (.c (.nl 12)))]) (.seq (.reg [qM 9 0,qO 10 (.fla 0 (.t 3)),qO 11 (.fla 0 (.t 10)),qO 12 (.ld 1 false (.t 11)),qO 13 (.call 23 [.t 9,.t 12]),qM 8 13,qO 14 (.ext 0 (.t 8)),qO 15 (.ext 1 (.t 8)),qM 5 14,qM 6 15]) (.seq (.reg [qM 16 5,qO 17 (.bin .add (.t 16) (.c (.int .i64 1))),qO 18 (.fla 0 (.t 3)),qO 19 (.fla 1 (.t 18)),⟨none,.st 1 (.t 19) (.t 17),none⟩]) (.seq (.reg [qM 20 6,qO 21 (.ld 12 true (.t 3)),qO 22 (.call 39 [.t 20,.t 21]),qO 23 (.fla 11 (.t 3)),⟨none,.st 1 (.t 23) (.t 22),none⟩]) (.seq (.drg [⟨none,.hole 25,none⟩,qM 24 0,qO 25 (.fcl 0 35 [.t 24] 45 12),qO 26 (.ld 12 true (.t 3)),qO 27 (.bsl 12 [.t 26]),qO 28 (.app 45 12 144 (.t 25) (.t 27)),qM 7 28]) (.seq (.reg [qM 29 7,qO 30 (.call 66 [.t 29,.f 50])]) (.seq (.reg [qM 31 7,qM 4 31]) .ret)))))))
def rs_chaseref1_added:List IRes:=[.t 4]
theorem ck_chaseref1_added:chkF Tryz.prog Tryz.f62 ir_chaseref1_added rs_chaseref1_added 32=true:=by kernel_rfl
def ir_chaseref1_siteFault:IC:=(.seq (.reg [qO 6 (.mov (.c (.int .i64 0)))]) (.seq (.block 0 (.seq (.reg [qM 8 1,qO 9 (.call 24 [.t 8]),qO 10 (.not (.t 9)),qM 7 10]) (.cond (.t 7) (.seq (.reg [qO 6 (.mov (.c (.int .i64 5)))]) .ret) (.seq (.reg [qM 12 0,qO 13 (.len (.t 12)),qO 14 (.bin .eql (.t 13) (.c (.int .i64 2000))),qM 11 14]) (.cond (.t 11) (.seq (.reg [qO 6 (.mov (.c (.int .i64 12)))]) .ret) (.seq (.reg [qM 16 2,qO 17 (.call 84 [.t 16]),qO 18 (.not (.t 17)),qM 15 18]) (.cond (.t 15) (.seq (.reg [qO 6 (.mov (.c (.int .i64 1)))]) .ret) .skip))))))) (.seq (.reg [qO 6 (.mov (.c (.int .i64 0)))]) .ret)))
def rs_chaseref1_siteFault:List IRes:=[.t 6]
theorem ck_chaseref1_siteFault:chkF Tryz.prog Tryz.f61 ir_chaseref1_siteFault rs_chaseref1_siteFault 19=true:=by kernel_rfl
def ir_chaseref1_AddOf:IC:=(.seq (.reg [qO 15 (.box 37 (.t 7)),qO 16 (.mov (.c (.nl 12))),qO 17 (.mov (.c (.int .i64 0)))]) (.seq (.seq (.reg [qM 21 0,qM 22 1,qM 23 2,qO 24 (.call 61 [.t 21,.t 22,.t 23]),qM 18 24]) (.seq (.reg [qM 25 18,qO 26 (.bin .neq (.t 25) (.c (.int .i64 0)))]) (.cond (.t 26) (.seq (.reg [qM 27 18,qO 16 (.mov (.c (.nl 12))),qM 17 27]) .ret) .skip))) (.seq (.seq (.reg [qM 28 3,qO 29 (.bin .eql (.t 28) (.c (.int .i64 3))),qM 30 29,⟨some 31,.mov (.t 3),(some (30,false))⟩,⟨some 32,.bin .eql (.t 31) (.c (.int .i64 6)),(some (30,false))⟩,qO 33 (.pick (.t 30) (.c (.bool true)) (.t 32))]) (.cond (.t 33) (.seq (.reg [qO 16 (.mov (.c (.nl 12))),qO 17 (.mov (.c (.int .i64 4)))]) .ret) .skip)) (.seq (.reg [qM 34 1,qO 35 (.bld [.str [],.int .i64 0] [(0,1,.t 34)]),qM 36 2,qM 37 3,qM 38 4,qM 39 5,qM 40 6,qO 41 (.ld 2 true (.t 15)),qO 42 (.bld [.str [],.int .i64 0,.int .i64 0,.int .i64 0,.str [],.str [],.str [],.int .i64 0,.int .i64 0,.str [],.int .i64 0,.str []] [(0,2,.t 35),(2,1,.t 36),(3,1,.t 37),(4,1,.t 38),(5,1,.t 39),(6,1,.t 40),(7,2,.t 41)]),qO 19 (.alc 45 [.str [],.int .i64 0,.int .i64 0,.int .i64 0,.str [],.str [],.str [],.int .i64 0,.int .i64 0,.str [],.int .i64 0,.str []]),⟨none,.st 12 (.t 19) (.t 42),none⟩]) (.seq (.seq (.reg [qO 43 (.ld 12 true (.t 19)),qO 44 (.call 51 [.t 43]),qM 20 44]) (.seq (.reg [qM 45 20,qO 46 (.bin .neq (.t 45) (.c (.int .i64 0)))]) (.cond (.t 46) (.seq (.reg [qM 47 20,qO 16 (.mov (.c (.nl 12))),qM 17 47]) .ret) .skip))) (.seq (.reg [qM 48 0,qO 49 (.ld 12 true (.t 19)),qO 50 (.call 62 [.t 48,.t 49]),qM 16 50,qO 17 (.mov (.c (.int .i64 0)))]) .ret))))))
def rs_chaseref1_AddOf:List IRes:=[.t 16,.t 17]
theorem ck_chaseref1_AddOf:chkF Tryz.prog Tryz.f21 ir_chaseref1_AddOf rs_chaseref1_AddOf 51=true:=by kernel_rfl
def tipN (s:List UInt8) (p:Int×List UInt8) (d:Dd):Int×List UInt8:=if d.site=s then (d.no,d.sum) else p
def tipF (l:List Dd) (s:List UInt8):Int×List UInt8:=l.foldl (tipN s) (0,[])
theorem tipF_next {l:List Dd} {k:Nat} {d:Dd} (s:List UInt8) (h:l[k]?=some d):tipF (l.take (k+1)) s=tipN s (tipF (l.take k) s) d:=by
 obtain ⟨hk,he⟩:=List.getElem?_eq_some_iff.1 h
 rw [List.take_succ_eq_append_getElem hk,he,tipF,List.foldl_append]
 rfl
theorem tipF_snoc (l:List Dd) (d:Dd) (s:List UInt8):tipF (l++[d]) s=tipN s (tipF l s) d:=by simp [tipF]
def NoB (c:Int) (l:List Dd):Prop:=∀ d∈l,0≤d.no∧d.no≤c
theorem tipR (s:List UInt8) (c:Int) (hc:0≤c):∀ r:List Dd,DdsB r.reverse→NoB c r.reverse→0≤(tipF r.reverse s).1∧(tipF r.reverse s).1≤c∧(tipF r.reverse s).2.length≤1000
 |[],_,_=>⟨Int.le_refl _,hc,by simp [tipF]⟩
 |d :: r,hB,hN=>by
  rw [List.reverse_cons] at *
  rw [tipF_snoc]
  unfold tipN
  split
  ·exact ⟨(hN d (by simp)).1,(hN d (by simp)).2,(hB d (by simp)).b6⟩
  ·exact tipR s c hc r (fun x hx=>hB x (by simp [List.mem_reverse.1 hx])) (fun x hx=>hN x (by simp [List.mem_reverse.1 hx]))
theorem tip_B {l:List Dd} {c:Int} (hc:0≤c) (hB:DdsB l) (hN:NoB c l) (s:List UInt8):0≤(tipF l s).1∧(tipF l s).1≤c∧(tipF l s).2.length≤1000:=by
 have:=tipR s c hc l.reverse (by rwa [List.reverse_reverse]) (by rwa [List.reverse_reverse])
 rwa [List.reverse_reverse] at this
def addD (l:List Dd) (d:Dd):Dd:={ d with no:=(tipF l d.site).1+1,sum:=sumF (tipF l d.site).2 { d with no:=(tipF l d.site).1+1 } }
section
variable {E:Envt}
theorem CloneDd_ok (es:List (List PV)) (hn:es.length≤1000000):FCall Tryz.prog E 35 [.sl 12 es] tDd 12 (·=es):=by
 unfold FCall
 refine gcallR mixed Tryz.func35 ck_slices_Clone_api_Deed_api_Deed ?_
 simp only [a0,l0,OS.ao,List.map_cons,List.map_nil,List.length_cons,List.length_nil,List.cons_append,List.nil_append,Nat.reduceSub,Nat.reduceAdd,List.replicate_succ,List.replicate_zero,ir_slices_Clone_api_Deed_api_Deed,rs_slices_Clone_api_Deed_api_Deed,ZZ,WW,Ze,reduceCtorEq,Nat.reduceAdd,Nat.reduceMul,Nat.reduceLeDiff,Nat.reduceLT,Nat.reduceEqDiff]
 intro b hb
 refine br ?_ ?_
 ·intro h
  have:=hb h
  simp only [ZZ,WW,Ze,reduceCtorEq,Nat.reduceAdd,Nat.reduceMul,Nat.reduceLeDiff,Nat.reduceLT,Nat.reduceEqDiff]
  exact fin_F 2 [] rfl rfl this.symm
 ·intro h
  simp only [ZZ,WW,Ze,reduceCtorEq,Nat.reduceAdd,Nat.reduceMul,Nat.reduceLeDiff,Nat.reduceLT,Nat.reduceEqDiff]
  exact ⟨by omega,fin_F 5 es rfl rfl rfl⟩
theorem TipDeed_ok (l:List Dd) (s:List UInt8) (hl:l.length≤1000000000):PCall Tryz.prog E 23 [.sl 12 (ddE l),.str s] (·=.tup [int (tipF l s).1,.str (tipF l s).2]):=by
 refine pcallF mixed Tryz.func23 ck_chaseref1_TipDeed ?_
 simp only [a0,l0,OS.ao,List.map_cons,List.map_nil,List.length_cons,List.length_nil,List.cons_append,List.nil_append,Nat.reduceSub,Nat.reduceAdd,List.replicate_succ,List.replicate_zero,ir_chaseref1_TipDeed,rs_chaseref1_TipDeed,ZZ,WW,Ze,reduceCtorEq,Nat.reduceAdd,Nat.reduceMul,Nat.reduceLeDiff,Nat.reduceLT,Nat.reduceEqDiff]
 simp only [ZZ,WW,Ze,reduceCtorEq,Nat.reduceAdd,Nat.reduceMul,Nat.reduceLeDiff,Nat.reduceLT,Nat.reduceEqDiff,ddE_len]
 refine loop_intro (fun n fr L=>∃ (k:Nat),k≤l.length∧n=l.length - k∧fr=[oo,.p (.str s),oo,oo,oo,oo,.p (int (tipF (l.take k) s).1),.p (.str (tipF (l.take k) s).2),oo,oo,.p (.sl 12 (ddE l)),.p (int (l.length:Nat)),.p (int (k:Nat)),oo,oo,oo,oo,oo,oo,oo,oo,oo,oo,oo,oo,oo,oo,oo,oo]∧L=[]) (l.length) [oo,.p (.str s),oo,oo,oo,oo,.p (int (tipF (l.take 0) s).1),.p (.str (tipF (l.take 0) s).2),oo,oo,.p (.sl 12 (ddE l)),.p (int (l.length:Nat)),.p (int (0:Nat)),oo,oo,oo,oo,oo,oo,oo,oo,oo,oo,oo,oo,oo,oo,oo,oo] [] (by simp only [ddE_len,List.take_zero,tipF,List.foldl_nil,ZZ,WW,Ze,reduceCtorEq,Nat.reduceAdd,Nat.reduceMul,Nat.reduceLeDiff,Nat.reduceLT,Nat.reduceEqDiff];try trivial) (by (simp only [ZZ,WW,Ze,reduceCtorEq,Nat.reduceAdd,Nat.reduceMul,Nat.reduceLeDiff,Nat.reduceLT,Nat.reduceEqDiff];try trivial)) ⟨0,by omega,by omega,rfl,rfl⟩ ?_
 rintro n fr L ⟨k,hk,rfl,rfl,rfl⟩
 simp only [ir_chaseref1_TipDeed_L0,ZZ,WW,Ze,reduceCtorEq,Nat.reduceAdd,Nat.reduceMul,Nat.reduceLeDiff,Nat.reduceLT,Nat.reduceEqDiff]
 refine br ?_ ?_
 ·intro h
  have hlt:k < l.length:=by have:=of_decide_eq_true h;omega
  obtain ⟨d,hd⟩:∃ d,l[k]?=some d:=⟨_,List.getElem?_eq_getElem hlt⟩
  have hg:=ddE_get hd
  have hn:=tipF_next s hd
  simp only [ZZ,WW,Ze,reduceCtorEq,Nat.reduceAdd,Nat.reduceMul,Nat.reduceLeDiff,Nat.reduceLT,Nat.reduceEqDiff,hg,ddE_len,ddC]
  refine ⟨⟨by omega,by omega⟩,by omega,?_⟩
  refine br ?_ ?_
  ·intro h1
   have hn:tipF (l.take (k+1)) s=(d.no,d.sum):=by rw [hn,tipN,if_pos (of_decide_eq_true h1)]
   simp only [ZZ,WW,Ze,reduceCtorEq,Nat.reduceAdd,Nat.reduceMul,Nat.reduceLeDiff,Nat.reduceLT,Nat.reduceEqDiff]
   refine drg0 ?_
   simp only [ZZ,WW,Ze,reduceCtorEq,Nat.reduceAdd,Nat.reduceMul,Nat.reduceLeDiff,Nat.reduceLT,Nat.reduceEqDiff]
   refine cut_same zE_ ?_
   simp only [ZZ,WW,Ze,reduceCtorEq,Nat.reduceAdd,Nat.reduceMul,Nat.reduceLeDiff,Nat.reduceLT,Nat.reduceEqDiff]
   ((repeat' (with_reducible apply And.intro))<;>try ((exact sc_)))
   refine end_round (l.length - (k+1)) [oo,.p (.str s),oo,oo,oo,oo,.p (int (tipF (l.take (k+1)) s).1),.p (.str (tipF (l.take (k+1)) s).2),oo,oo,.p (.sl 12 (ddE l)),.p (int (l.length:Nat)),.p (int ((k+1):Nat)),oo,oo,oo,oo,oo,oo,oo,oo,oo,oo,oo,oo,oo,oo,oo,oo] [] (by omega) (by rw [hn];(simp only [ZZ,WW,Ze,reduceCtorEq,Nat.reduceAdd,Nat.reduceMul,Nat.reduceLeDiff,Nat.reduceLT,Nat.reduceEqDiff];try trivial)) (by (simp only [ZZ,WW,Ze,reduceCtorEq,Nat.reduceAdd,Nat.reduceMul,Nat.reduceLeDiff,Nat.reduceLT,Nat.reduceEqDiff];try trivial)) ⟨k+1,by omega,rfl,rfl,rfl⟩
  ·intro h1
   have hn:tipF (l.take (k+1)) s=tipF (l.take k) s:=by rw [hn,tipN,if_neg (of_decide_eq_false h1)]
   simp only [ZZ,WW,Ze,reduceCtorEq,Nat.reduceAdd,Nat.reduceMul,Nat.reduceLeDiff,Nat.reduceLT,Nat.reduceEqDiff]
   refine cut_same zE_ ?_
   simp only [ZZ,WW,Ze,reduceCtorEq,Nat.reduceAdd,Nat.reduceMul,Nat.reduceLeDiff,Nat.reduceLT,Nat.reduceEqDiff]
   ((repeat' (with_reducible apply And.intro))<;>try ((exact sc_)))
   refine end_round (l.length - (k+1)) [oo,.p (.str s),oo,oo,oo,oo,.p (int (tipF (l.take (k+1)) s).1),.p (.str (tipF (l.take (k+1)) s).2),oo,oo,.p (.sl 12 (ddE l)),.p (int (l.length:Nat)),.p (int ((k+1):Nat)),oo,oo,oo,oo,oo,oo,oo,oo,oo,oo,oo,oo,oo,oo,oo,oo] [] (by omega) (by rw [hn];(simp only [ZZ,WW,Ze,reduceCtorEq,Nat.reduceAdd,Nat.reduceMul,Nat.reduceLeDiff,Nat.reduceLT,Nat.reduceEqDiff];try trivial)) (by (simp only [ZZ,WW,Ze,reduceCtorEq,Nat.reduceAdd,Nat.reduceMul,Nat.reduceLeDiff,Nat.reduceLT,Nat.reduceEqDiff];try trivial)) ⟨k+1,by omega,rfl,rfl,rfl⟩
 ·intro h
  have hge:l.length≤k:=by have:=of_decide_eq_false h;omega
  rw [List.take_of_length_le hge]
  simp only [ZZ,WW,Ze,reduceCtorEq,Nat.reduceAdd,Nat.reduceMul,Nat.reduceLeDiff,Nat.reduceLT,Nat.reduceEqDiff]
def siteR (n:Nat) (site:List UInt8) (at_:Int):Int:=if keyB site=false then 5 else if n=2000 then 12 else if inE at_ 0 5761439=false then 1 else 0
theorem siteFault_ok (l:List Dd) (s:List UInt8) (t:Int) (hs:s.length≤1000000000):PCall Tryz.prog E0 61 [.sl 12 (ddE l),.str s,int t] (·=int (siteR l.length s t)):=by
 refine pcallF mixed Tryz.func61 ck_chaseref1_siteFault ?_
 simp only [a0,l0,OS.ao,List.map_cons,List.map_nil,List.length_cons,List.length_nil,List.cons_append,List.nil_append,Nat.reduceSub,Nat.reduceAdd,List.replicate_succ,List.replicate_zero,ir_chaseref1_siteFault,rs_chaseref1_siteFault,ZZ,WW,Ze,reduceCtorEq,Nat.reduceAdd,Nat.reduceMul,Nat.reduceLeDiff,Nat.reduceLT,Nat.reduceEqDiff]
 refine use1 (KeyOf_ok s (by omega)) rfl (.inl rfl) ?_
 simp only [ZZ,WW,Ze,reduceCtorEq,Nat.reduceAdd,Nat.reduceMul,Nat.reduceLeDiff,Nat.reduceLT,Nat.reduceEqDiff,ddE_len]
 unfold siteR
 refine br ?_ ?_
 ·intro h
  have h:keyB s=false:=by simpa using h
  simp only [ZZ,WW,Ze,reduceCtorEq,Nat.reduceAdd,Nat.reduceMul,Nat.reduceLeDiff,Nat.reduceLT,Nat.reduceEqDiff]
  rw [if_pos h]
 intro h
 have h:keyB s=true:=by simpa using h
 rw [if_neg (by rw [h];simp)]
 simp only [ZZ,WW,Ze,reduceCtorEq,Nat.reduceAdd,Nat.reduceMul,Nat.reduceLeDiff,Nat.reduceLT,Nat.reduceEqDiff,ddE_len]
 refine br ?_ ?_
 ·intro h2
  have h2:l.length=2000:=by have:=of_decide_eq_true h2;omega
  simp only [ZZ,WW,Ze,reduceCtorEq,Nat.reduceAdd,Nat.reduceMul,Nat.reduceLeDiff,Nat.reduceLT,Nat.reduceEqDiff]
  rw [if_pos h2]
 intro h2
 have h2:¬ l.length=2000:=by have:=of_decide_eq_false h2;omega
 rw [if_neg h2]
 simp only [ZZ,WW,Ze,reduceCtorEq,Nat.reduceAdd,Nat.reduceMul,Nat.reduceLeDiff,Nat.reduceLT,Nat.reduceEqDiff]
 refine use1 (MomentR_ok t) rfl (.inl rfl) ?_
 simp only [ZZ,WW,Ze,reduceCtorEq,Nat.reduceAdd,Nat.reduceMul,Nat.reduceLeDiff,Nat.reduceLT,Nat.reduceEqDiff]
 refine br ?_ ?_
 ·intro h3
  have h3:inE t 0 5761439=false:=by simpa using h3
  simp only [ZZ,WW,Ze,reduceCtorEq,Nat.reduceAdd,Nat.reduceMul,Nat.reduceLeDiff,Nat.reduceLT,Nat.reduceEqDiff]
  rw [if_pos h3]
 ·intro h3
  have h3:inE t 0 5761439=true:=by simpa using h3
  simp only [ZZ,WW,Ze,reduceCtorEq,Nat.reduceAdd,Nat.reduceMul,Nat.reduceLeDiff,Nat.reduceLT,Nat.reduceEqDiff]
  rw [if_neg (by rw [h3];simp)]
end
set_option maxRecDepth 100000 in
set_option maxHeartbeats 4000000 in
theorem added_ok (l:List Dd) (d:Dd) (hl:l.length≤100000) (hB:DdsB l) (hN:NoB 100000 l) (dB:DdB d) (hq:UnqD (l++[addD l d])):PCall Tryz.prog ED 62 [.sl 12 (ddE l),.agg (ddC d)] (·=.sl 12 (ddE (srtD (l++[addD l d])))):=by
 obtain ⟨t1,t2,t3⟩:=tip_B (by omega) hB hN d.site
 refine pcallF mixed Tryz.func62 ck_chaseref1_added ?_
 simp only [a0,l0,OS.ao,List.map_cons,List.map_nil,List.length_cons,List.length_nil,List.cons_append,List.nil_append,Nat.reduceSub,Nat.reduceAdd,List.replicate_succ,List.replicate_zero,ir_chaseref1_added,rs_chaseref1_added,ZZ,WW,Ze,reduceCtorEq,Nat.reduceAdd,Nat.reduceMul,Nat.reduceLeDiff,Nat.reduceLT,Nat.reduceEqDiff]
 simp only [ddC,ZZ,WW,Ze,reduceCtorEq,Nat.reduceAdd,Nat.reduceMul,Nat.reduceLeDiff,Nat.reduceLT,Nat.reduceEqDiff]
 refine use1 (TipDeed_ok l d.site (by omega)) rfl (.inl rfl) ?_
 have ha:addD l d={ d with no:=(tipF l d.site).1+1,sum:=sumF (tipF l d.site).2 { d with no:=(tipF l d.site).1+1 } }:=rfl
 generalize (tipF l d.site).1=m at *
 generalize (tipF l d.site).2=s at *
 obtain ⟨e,he⟩:∃ e:Dd,e={ d with no:=m+1 }:=⟨_,rfl⟩
 have eB:DdB e:=by subst he;exact ⟨dB.b1,dB.b2,dB.b3,dB.b4,dB.b5,dB.b6,by show -1000000000000≤m+1∧m+1≤1000000000000;omega,dB.c2,dB.c3,dB.c4,dB.c5,dB.c6⟩
 rw [← he] at ha
 simp only [ZZ,WW,Ze,reduceCtorEq,Nat.reduceAdd,Nat.reduceMul,Nat.reduceLeDiff,Nat.reduceLT,Nat.reduceEqDiff]
 refine ⟨i64_of (by omega) (by omega),?_⟩
 have hs:=SumAfter_ok e eB s t3
 rw [he] at hs
 refine use1 hs rfl (.inl rfl) ?_
 rw [← he]
 simp only [ZZ,WW,Ze,reduceCtorEq,Nat.reduceAdd,Nat.reduceMul,Nat.reduceLeDiff,Nat.reduceLT,Nat.reduceEqDiff]
 refine drg1 (x1:=.sl 12 (ddE l)) ?_
 simp only [ZZ,WW,Ze,reduceCtorEq,Nat.reduceAdd,Nat.reduceMul,Nat.reduceLeDiff,Nat.reduceLT,Nat.reduceEqDiff]
 refine ⟨useFD (CloneDd_ok (ddE l) (by rw [ddE_len];omega)),by rw [ddE_len];omega,?_⟩
 have hrow:ddE l++[[.str d.site,int (m+1),int d.tm,int d.kind,.str d.id,.str d.field,.str d.value,int d.frm,int d.upto,.str d.osite,int d.ono,.str (sumF s e)]]=ddE (l++[addD l d]):=by
  rw [ha,← ddE_app,← ddE_one]
  rfl
 have hlen:(l++[addD l d]).length≤1000000:=by simp;omega
 rw [hrow]
 generalize l++[addD l d]=q at *
 refine useR (stamp_srt ED q (by omega) hq) rfl rfl rfl zE_ ?_
 rintro x es' ⟨rfl,rfl⟩
 simp only [ZZ,WW,Ze,reduceCtorEq,Nat.reduceAdd,Nat.reduceMul,Nat.reduceLeDiff,Nat.reduceLT,Nat.reduceEqDiff]
def newD (site:List UInt8) (t k:Int) (id f v:List UInt8) (a b:Int):Dd:=⟨site,0,t,k,id,f,v,a,b,[],0,[]⟩
def addV (l:List Dd) (site:List UInt8) (t k:Int) (id f v:List UInt8) (a b:Int):List Dd×Int:=
 if ¬ siteR l.length site t=0 then ([],siteR l.length site t) else if (decide (k=3) || decide (k=6))=true then ([],4)
 else if ¬ refF (newD site t k id f v a b)=0 then ([],refF (newD site t k id f v a b)) else (srtD (l++[addD l (newD site t k id f v a b)]),0)
set_option maxRecDepth 100000 in
set_option maxHeartbeats 4000000 in
theorem AddOf_ok (l:List Dd) (site:List UInt8) (t k:Int) (id f v:List UInt8) (a b:Int) (hl:l.length≤100000) (hB:DdsB l) (hN:NoB 100000 l) (dB:DdB (newD site t k id f v a b)) (hq:UnqD (l++[addD l (newD site t k id f v a b)])) :
  PCall Tryz.prog ED 21 [.sl 12 (ddE l),.str site,int t,int k,.str id,.str f,.str v,.agg [int a,int b]] (·=.tup [.sl 12 (ddE (addV l site t k id f v a b).1),int (addV l site t k id f v a b).2]):=by
 unfold addV
 refine pcallF mixed Tryz.func21 ck_chaseref1_AddOf ?_
 simp only [a0,l0,OS.ao,List.map_cons,List.map_nil,List.length_cons,List.length_nil,List.cons_append,List.nil_append,Nat.reduceSub,Nat.reduceAdd,List.replicate_succ,List.replicate_zero,ir_chaseref1_AddOf,rs_chaseref1_AddOf,ZZ,WW,Ze,reduceCtorEq,Nat.reduceAdd,Nat.reduceMul,Nat.reduceLeDiff,Nat.reduceLT,Nat.reduceEqDiff]
 refine use1 (upD (siteFault_ok l site t (by have:=dB.b1;exact Nat.le_trans this (by decide)))) rfl (.inl rfl) ?_
 simp only [ZZ,WW,Ze,reduceCtorEq,Nat.reduceAdd,Nat.reduceMul,Nat.reduceLeDiff,Nat.reduceLT,Nat.reduceEqDiff]
 refine br ?_ ?_
 ·intro h
  have h:¬ siteR l.length site t=0:=by simpa using h
  rw [if_pos h]
  simp only [ZZ,WW,Ze,reduceCtorEq,Nat.reduceAdd,Nat.reduceMul,Nat.reduceLeDiff,Nat.reduceLT,Nat.reduceEqDiff]
  rfl
 intro h
 have h:siteR l.length site t=0:=by simpa using h
 rw [if_neg (fun e=>e h)]
 simp only [ZZ,WW,Ze,reduceCtorEq,Nat.reduceAdd,Nat.reduceMul,Nat.reduceLeDiff,Nat.reduceLT,Nat.reduceEqDiff]
 refine ⟨fun h=>by rw [h];rfl,?_⟩
 refine br ?_ ?_
 ·intro h3
  rw [if_pos h3]
  simp only [ZZ,WW,Ze,reduceCtorEq,Nat.reduceAdd,Nat.reduceMul,Nat.reduceLeDiff,Nat.reduceLT,Nat.reduceEqDiff]
  rfl
 intro h3
 rw [if_neg (by rw [h3];simp)]
 simp only [ZZ,WW,Ze,reduceCtorEq,Nat.reduceAdd,Nat.reduceMul,Nat.reduceLeDiff,Nat.reduceLT,Nat.reduceEqDiff]
 have hd:ddC (newD site t k id f v a b)=[.str site,int 0,int t,int k,.str id,.str f,.str v,int a,int b,.str [],int 0,.str []]:=rfl
 have hf:=upD (deedFault_ok _ dB)
 have hadd:=added_ok l _ hl hB hN dB hq
 rw [hd] at hf hadd
 refine use1 hf rfl (.inl rfl) ?_
 simp only [ZZ,WW,Ze,reduceCtorEq,Nat.reduceAdd,Nat.reduceMul,Nat.reduceLeDiff,Nat.reduceLT,Nat.reduceEqDiff]
 refine br ?_ ?_
 ·intro h4
  have h4:¬ refF (newD site t k id f v a b)=0:=by simpa using h4
  rw [if_pos h4]
  simp only [ZZ,WW,Ze,reduceCtorEq,Nat.reduceAdd,Nat.reduceMul,Nat.reduceLeDiff,Nat.reduceLT,Nat.reduceEqDiff]
  rfl
 intro h4
 have h4:refF (newD site t k id f v a b)=0:=by simpa using h4
 rw [if_neg (fun e=>e h4)]
 simp only [ZZ,WW,Ze,reduceCtorEq,Nat.reduceAdd,Nat.reduceMul,Nat.reduceLeDiff,Nat.reduceLT,Nat.reduceEqDiff]
 refine use1 hadd rfl (.inl rfl) ?_
 simp only [ZZ,WW,Ze,reduceCtorEq,Nat.reduceAdd,Nat.reduceMul,Nat.reduceLeDiff,Nat.reduceLT,Nat.reduceEqDiff]
end Go.Proofs.YtinffddgojhdfaaGreatDoor
namespace Go.Proofs.YtinffddgojhdfaaGreatDoor
def RgtD (l:List Dd):Prop:=OrdD l∧∀ d∈l,d.kind=3→∃ y∈l,(y.site=d.osite∧y.no=d.ono)∧(y.kind=2∨y.kind=4)
theorem ord_uniq {l:List Dd} (h:OrdD l) {x y:Dd} (hx:x∈l) (hy:y∈l) (h1:x.site=y.site) (h2:x.no=y.no):x=y:=by
 have hz:cmpD x y=0:=cmpD_self h1 h2
 have hz2:cmpD y x=0:=cmpD_self h1.symm h2.symm
 obtain ⟨i,hi,rfl⟩:=List.mem_iff_getElem.1 hx
 obtain ⟨j,hj,rfl⟩:=List.mem_iff_getElem.1 hy
 unfold OrdD at h
 rw [List.pairwise_iff_getElem] at h
 rcases Nat.lt_trichotomy i j with h1|h1|h1
 ·have:=h i j hi hj h1;omega
 ·subst h1;rfl
 ·have:=h j i hj hi h1;omega
theorem rgt_no3 {l:List Dd} (h:RgtD l) {d z:Dd} (hd:d∈l) (h3:d.kind=3) (hz:z∈l) (h1:z.site=d.osite) (h2:z.no=d.ono):¬ z.kind=3:=by
 obtain ⟨y,hy,⟨e1,e2⟩,e3⟩:=h.2 d hd h3
 have:=ord_uniq h.1 hz hy (h1.trans e1.symm) (h2.trans e2.symm)
 subst this
 omega
theorem cmp_same {x y:Dd} (h:x.site=y.site):cmpD x y < 0↔x.no < y.no:=by
 unfold cmpD
 rw [stC_or,h,if_pos (cb_self _)]
 unfold sgnC
 split
 ·omega
 ·split<;>omega
theorem tip_top:∀ (r:List Dd) (s:List UInt8),OrdD r.reverse→∀ x∈r.reverse,x.site=s→x.no≤(tipF r.reverse s).1
 |[],s,_,x,hx,_=>by cases hx
 |d :: r,s,h,x,hx,hs=>by
  rw [List.reverse_cons] at *
  rw [tipF_snoc]
  unfold OrdD at h
  rw [List.pairwise_append] at h
  obtain ⟨h1,_,h3⟩:=h
  unfold tipN
  rcases List.mem_append.1 hx with hx|hx
  ·by_cases hd:d.site=s
   ·rw [if_pos hd]
    have:=h3 x hx d (by simp)
    rw [cmp_same (hs.trans hd.symm)] at this
    show x.no≤d.no
    omega
   ·rw [if_neg hd]
    exact tip_top r s h1 x hx hs
  ·rw [List.mem_singleton] at hx
   subst hx
   rw [if_pos hs]
   exact Int.le_refl _
theorem tip_fresh {l:List Dd} (h:OrdD l) (s:List UInt8) {x:Dd} (hx:x∈l) (hs:x.site=s):x.no≤(tipF l s).1:=by
 have:=tip_top l.reverse s (by rwa [List.reverse_reverse]) x (by rwa [List.reverse_reverse]) hs
 rwa [List.reverse_reverse] at this
theorem ord_perm {q l:List Dd} (hq:q.Pairwise fun a b=>¬ cmpD a b=0) (hp:l.Perm q) (hs:l.Pairwise fun u v=>cmpD u v≤0):OrdD l:=by
 have an:=cmpD_p.anti
 have h2:l.Pairwise fun a b=>¬ cmpD a b=0:=(List.Perm.pairwise_iff (fun {x y} h e=>h (by have:=an x y;have:=an y x;omega)) hp).2 hq
 exact (hs.and h2).imp fun h=>by omega
theorem addD_site (l:List Dd) (d:Dd):(addD l d).site=d.site∧(addD l d).no=(tipF l d.site).1+1∧(addD l d).kind=d.kind∧(addD l d).osite=d.osite∧(addD l d).ono=d.ono:=⟨rfl,rfl,rfl,rfl,rfl⟩
def TmB (l:List Dd):Prop:=∀ d∈l,-1000000000≤d.tm∧d.tm≤1000000000
structure RD (c:Int) (l:List Dd):Prop where
 len:l.length≤2000
 b:DdsB l
 r:RgtD l
 n:NoB c l
 t:TmB l
theorem RD.nil (c:Int):RD c []:=⟨by simp,DdsB.nil,⟨List.Pairwise.nil,fun _ h=>by cases h⟩,(fun _ h=>by cases h),fun _ h=>by cases h⟩
theorem RD.le {c c':Int} {l:List Dd} (h:RD c l) (hc:c≤c'):RD c' l:=⟨h.len,h.b,h.r,(fun d hd=>by have:=h.n d hd;omega),h.t⟩
theorem RD.fresh {c:Int} {l:List Dd} (h:RD c l) (d:Dd):UnqD (l++[addD l d]):=by
 obtain ⟨e1,e2,e3,e4,e5⟩:=addD_site l d
 unfold UnqD
 rw [List.pairwise_append]
 refine ⟨h.r.1.imp fun h=>by omega,by simp,?_⟩
 intro x hx y hy e
 rw [List.mem_singleton] at hy
 subst hy
 obtain ⟨a1,a2⟩:=cmpD_zero e
 have:=tip_fresh h.r.1 d.site hx (a1.trans e1)
 omega
theorem RD.add {c:Int} {l:List Dd} {d:Dd} (h:RD c l) (hc0:0≤c) (hc:c≤100000) (dB:DdB d) (h3:d.kind=3→∃ y∈l,(y.site=d.osite∧y.no=d.ono)∧(y.kind=2∨y.kind=4)) (hl:¬ l.length=2000) (ht:-1000000000≤d.tm∧d.tm≤1000000000):RD (c+1) (srtD (l++[addD l d])):=by
 obtain ⟨t1,t2,t3⟩:=tip_B hc0 h.b h.n d.site
 obtain ⟨e1,e2,e3,e4,e5⟩:=addD_site l d
 have hp:=srt_perm (l++[addD l d])
 have hs:=srt_srt (l++[addD l d])
 generalize srtD (l++[addD l d])=l' at *
 have hmem:∀ x∈l',x∈l∨x=addD l d:=fun x hx=>by
  have:=hp.mem_iff.1 hx
  simpa using this
 refine ⟨?_,?_,⟨ord_perm (q:=l++[addD l d]) (h.fresh d) hp hs,?_⟩,?_,?_⟩
 ·have:=hp.length_eq
  have:=h.len
  simp at *
  omega
 ·intro x hx
  rcases hmem x hx with hx|rfl
  ·exact h.b x hx
  ·exact ⟨dB.b1,dB.b2,dB.b3,dB.b4,dB.b5,by show (digF _).length≤1000;rw [digF_len];decide,by rw [e2];omega,dB.c2,dB.c3,dB.c4,dB.c5,dB.c6⟩
 ·intro x hx h3x
  have up:∀ y∈l,y∈l':=fun y hy=>hp.mem_iff.2 (List.mem_append.2 (.inl hy))
  rcases hmem x hx with hx|rfl
  ·obtain ⟨y,hy,hh⟩:=h.r.2 x hx h3x
   exact ⟨y,up y hy,hh⟩
  ·obtain ⟨y,hy,hh⟩:=h3 h3x
   exact ⟨y,up y hy,hh⟩
 ·intro x hx
  rcases hmem x hx with hx|rfl
  ·have:=h.n x hx;omega
  ·rw [e2];omega
 ·intro x hx
  rcases hmem x hx with hx|rfl
  ·exact h.t x hx
  ·exact ht
theorem site_room {n:Nat} {s:List UInt8} {t:Int} (h:siteR n s t=0):¬ n=2000:=by
 intro e
 unfold siteR at h
 rw [if_pos e] at h
 split at h<;>omega
theorem RD.addVr {c:Int} {l:List Dd} (h:RD c l) (hc0:0≤c) (hc:c≤100000) {site:List UInt8} {t k:Int} {id f v:List UInt8} {a b:Int} (dB:DdB (newD site t k id f v a b)) (h0:(addV l site t k id f v a b).2=0) (ht:-1000000000≤t∧t≤1000000000):RD (c+1) (addV l site t k id f v a b).1:=by
 unfold addV at *
 split
 ·exact RD.nil _
 ·rename_i h1
  split
  ·exact RD.nil _
  ·rename_i h2
   split
   ·exact RD.nil _
   ·refine h.add hc0 hc dB (fun h3=>?_) (site_room (by simpa using h1)) ht
    exfalso
    have h3:k=3:=h3
    simp [h3] at h2
theorem rgt_of {l:List Dd} (h:(ckdF l).2=0):l.length≤2000∧RgtD l:=by
 unfold ckdF at h
 split at h
 ·exact absurd h (by decide)
 rename_i hl
 split at h
 ·rename_i h1
  have ha:=scan_zero h1
  have hb:=scan_zero h
  have ha':∀ j,j < l.length→chkI l j=0:=fun j hj=>ha j (by omega) (by omega)
  refine ⟨by omega,ordD_of ha',?_⟩
  intro d hd h3
  obtain ⟨k,hk,rfl⟩:=List.mem_iff_getElem.1 hd
  have h2:=hb k (by omega) (by omega)
  unfold ofI at h2
  rw [List.getElem?_eq_getElem hk] at h2
  have h2:ofF l l[k]=0:=h2
  unfold ofF at h2
  rw [if_pos (by simp [backB,h3])] at h2
  cases hx:findD l l[k].osite l[k].ono with
  |none=>
   rw [hx] at h2
   have h2:(8:Int)=0:=h2
   omega
  |some x=>
   rw [hx] at h2
   have h2:(if permB l[k] x=true then (0:Int) else 16)=0:=h2
   unfold findD at hx
   have h5:=List.find?_some hx
   simp only [Bool.and_eq_true,decide_eq_true_eq] at h5
   refine ⟨x,List.mem_of_find?_eq_some hx,h5,?_⟩
   by_cases hpm:permB l[k] x=true
   ·unfold permB at hpm
    rw [if_pos h3] at hpm
    simpa using hpm
   ·rw [if_neg hpm] at h2;exact absurd h2 (by decide)
 ·rename_i h1
  exact absurd h h1
end Go.Proofs.YtinffddgojhdfaaGreatDoor
namespace Go.Proofs.YtinffddgojhdfaaGreatDoor
open Go.RowKit
def ir_slices_ContainsFunc_api_Deed_api_Deed:IC:=(.seq (.reg [qO 4 (.mov (.c (.bool false)))]) (.seq (.reg [qM 5 0,qM 6 1,qO 7 (.call 86 [.t 5,.t 6]),qO 8 (.bin .geq (.t 7) (.c (.int .i64 0))),qM 4 8]) .ret))
def rs_slices_ContainsFunc_api_Deed_api_Deed:List IRes:=[.t 4]
theorem ck_slices_ContainsFunc_api_Deed_api_Deed:chkF Tryz.prog Tryz.f97 ir_slices_ContainsFunc_api_Deed_api_Deed rs_slices_ContainsFunc_api_Deed_api_Deed 9=true:=by kernel_rfl
def ir_chaseref1_countsDeed:IC:=(.seq (.reg [qO 2 (.box 26 (.t 0)),qO 3 (.box 45 (.t 1)),qO 4 (.mov (.c (.bool false)))]) (.seq (.reg [qO 5 (.ld 1 false (.t 2)),qO 6 (.mkf 98 [.t 3,.t 2]),qO 7 (.call 97 [.t 5,.t 6]),qO 8 (.not (.t 7)),qM 4 8]) .ret))
def rs_chaseref1_countsDeed:List IRes:=[.t 4]
theorem ck_chaseref1_countsDeed:chkF Tryz.prog Tryz.f63 ir_chaseref1_countsDeed rs_chaseref1_countsDeed 9=true:=by kernel_rfl
def ir_chaseref1_countsDeed_1:IC:=(.seq (.reg [qO 3 (.box 45 (.t 0)),qO 4 (.mov (.c (.bool false)))]) (.seq (.reg [qO 5 (.fla 9 (.t 3)),qO 6 (.ld 2 true (.t 5)),qO 7 (.fla 0 (.t 1)),qO 8 (.ld 2 true (.t 7)),qO 9 (.eqa false [.s,.i] (.t 6) (.t 8)),qM 10 9,⟨some 11,.fla 3 (.t 3),(some (10,true))⟩,⟨some 12,.ld 1 false (.t 11),(some (10,true))⟩,⟨some 13,.bin .eql (.t 12) (.c (.int .i64 6)),(some (10,true))⟩,⟨some 14,.mov (.t 13),(some (10,true))⟩,⟨some 15,.fla 3 (.t 3),(some (14,false))⟩,⟨some 16,.ld 1 false (.t 15),(some (14,false))⟩,⟨some 17,.bin .eql (.t 16) (.c (.int .i64 3)),(some (14,false))⟩,⟨some 18,.mov (.t 17),(some (14,false))⟩,⟨some 19,.ld 1 false (.t 2),(some (18,true))⟩,⟨some 20,.ld 12 true (.t 3),(some (18,true))⟩,⟨some 21,.call 63 [.t 19,.t 20],(some (18,true))⟩,⟨some 22,.pick (.t 18) (.t 21) (.c (.bool false)),(some (14,false))⟩,⟨some 23,.pick (.t 14) (.c (.bool true)) (.t 22),(some (10,true))⟩,qO 24 (.pick (.t 10) (.t 23) (.c (.bool false))),qM 4 24]) .ret))
def rs_chaseref1_countsDeed_1:List IRes:=[.t 4]
theorem ck_chaseref1_countsDeed_1:chkF Tryz.prog Tryz.f98 ir_chaseref1_countsDeed_1 rs_chaseref1_countsDeed_1 25=true:=by kernel_rfl
def ir_chaseref1_UndoOf:IC:=(.seq (.reg [qO 7 (.box 43 (.t 3)),qO 8 (.mov (.c (.nl 12))),qO 9 (.mov (.c (.int .i64 0)))]) (.seq (.seq (.reg [qM 14 0,qM 15 1,qM 16 2,qO 17 (.call 61 [.t 14,.t 15,.t 16]),qM 10 17]) (.seq (.reg [qM 18 10,qO 19 (.bin .neq (.t 18) (.c (.int .i64 0)))]) (.cond (.t 19) (.seq (.reg [qM 20 10,qO 8 (.mov (.c (.nl 12))),qM 9 20]) .ret) .skip))) (.seq (.reg [qM 22 0,qO 23 (.ld 2 true (.t 7)),qO 24 (.call 52 [.t 22,.t 23]),qM 21 24,qO 25 (.ext 0 (.t 21)),qO 26 (.ext 1 (.t 21)),qO 11 (.alc 45 [.str [],.int .i64 0,.int .i64 0,.int .i64 0,.str [],.str [],.str [],.int .i64 0,.int .i64 0,.str [],.int .i64 0,.str []]),⟨none,.st 12 (.t 11) (.t 25),none⟩,qM 12 26]) (.seq (.seq (.reg [qM 27 12,qO 28 (.not (.t 27))]) (.cond (.t 28) (.seq (.reg [qO 8 (.mov (.c (.nl 12))),qO 9 (.mov (.c (.int .i64 8)))]) .ret) .skip)) (.seq (.reg [qO 13 (.mov (.c (.int .i64 6)))]) (.seq (.seq (.reg [qO 29 (.fla 3 (.t 11)),qO 30 (.ld 1 false (.t 29)),qO 31 (.bin .eql (.t 30) (.c (.int .i64 2))),qM 32 31,⟨some 33,.fla 3 (.t 11),(some (32,false))⟩,⟨some 34,.ld 1 false (.t 33),(some (32,false))⟩,⟨some 35,.bin .eql (.t 34) (.c (.int .i64 4)),(some (32,false))⟩,qO 36 (.pick (.t 32) (.c (.bool true)) (.t 35))]) (.cond (.t 36) (.reg [qO 13 (.mov (.c (.int .i64 3)))]) .skip)) (.cut (.seq (.block 0 (.seq (.seq (.reg [qO 38 (.fla 3 (.t 11)),qO 39 (.ld 1 false (.t 38)),qO 40 (.bin .eql (.t 39) (.c (.int .i64 6))),qM 37 40]) (.cond (.t 37) .skip (.reg [qM 41 13,qO 42 (.bin .eql (.t 41) (.c (.int .i64 6))),qM 43 42,⟨some 44,.fla 0 (.t 7),(some (43,true))⟩,⟨some 45,.ld 1 false (.t 44),(some (43,true))⟩,⟨some 46,.mov (.t 1),(some (43,true))⟩,⟨some 47,.bin .neq (.t 45) (.t 46),(some (43,true))⟩,qO 48 (.pick (.t 43) (.t 47) (.c (.bool false))),qM 37 48]))) (.cut (.cond (.t 37) (.seq (.reg [qO 8 (.mov (.c (.nl 12))),qO 9 (.mov (.c (.int .i64 16)))]) .ret) (.seq (.reg [qM 50 0,qO 51 (.ld 12 true (.t 11)),qO 52 (.call 63 [.t 50,.t 51]),qO 53 (.not (.t 52)),qM 49 53]) (.cond (.t 49) (.seq (.reg [qO 8 (.mov (.c (.nl 12))),qO 9 (.mov (.c (.int .i64 11)))]) .ret) .skip)))))) (.seq (.reg [qM 54 0,qM 55 1,qO 56 (.bld [.str [],.int .i64 0] [(0,1,.t 55)]),qM 57 2,qM 58 13,qO 59 (.ld 2 true (.t 7)),qO 60 (.bld [.str [],.int .i64 0,.int .i64 0,.int .i64 0,.str [],.str [],.str [],.int .i64 0,.int .i64 0,.str [],.int .i64 0,.str []] [(0,2,.t 56),(2,1,.t 57),(3,1,.t 58),(9,2,.t 59)]),qO 61 (.call 62 [.t 54,.t 60]),qM 8 61,qO 9 (.mov (.c (.int .i64 0)))]) .ret)))))))))
def rs_chaseref1_UndoOf:List IRes:=[.t 8,.t 9]
theorem ck_chaseref1_UndoOf:chkF Tryz.prog Tryz.f22 ir_chaseref1_UndoOf rs_chaseref1_UndoOf 62=true:=by kernel_rfl
section
variable {E:Envt}
theorem CFD_ok (l:List Dd) (f:FuncId) (ps:List PV) (q:Dd→Bool) (hl:l.length≤1000000000) (hfn:Unit→fnB Tryz.prog f=true) (hps:Zl [] (ps.map .p)=true) (hf:∀ x∈l,PCall Tryz.prog E f (.agg (ddC x) :: ps) (·=.bool (q x))) (hn:∀ x:Dd,Zbh [] (.p (.agg (ddC x)) :: ps.map .p)=some (.agg (ddC x) :: ps)) (hr:∀ x:Dd,Zbj (.p (.agg (ddC x)) :: ps.map .p)=true):PCall Tryz.prog E 97 [.sl 12 (ddE l),.clo f ps] (·=.bool (l.any q)):=by
 refine pcallF mixed Tryz.func97 ck_slices_ContainsFunc_api_Deed_api_Deed ?_
 simp only [a0,l0,OS.ao,List.map_cons,List.map_nil,List.length_cons,List.length_nil,List.cons_append,List.nil_append,Nat.reduceSub,Nat.reduceAdd,List.replicate_succ,List.replicate_zero,ir_slices_ContainsFunc_api_Deed_api_Deed,rs_slices_ContainsFunc_api_Deed_api_Deed,ZZ,WW,Ze,reduceCtorEq,Nat.reduceAdd,Nat.reduceMul,Nat.reduceLeDiff,Nat.reduceLT,Nat.reduceEqDiff]
 refine use1 (IndexFuncD_ok l f ps q hl hfn hps hf hn hr) rfl (.inr rfl) ?_
 simp only [ZZ,WW,Ze,reduceCtorEq,Nat.reduceAdd,Nat.reduceMul,Nat.reduceLeDiff,Nat.reduceLT,Nat.reduceEqDiff]
 congr 1
 rcases idxF_find q l with ⟨h1,h2⟩|⟨k,x,h1,h2,h3,h4⟩
 ·rw [h2]
  rw [List.find?_eq_none] at h1
  have:l.any q=false:=by
   rw [List.any_eq_false]
   exact h1
  rw [this]
  rfl
 ·rw [h3]
  have:l.any q=true:=by
   rw [List.any_eq_true]
   exact ⟨x,List.mem_of_find?_eq_some h1,List.find?_some h1⟩
  rw [this]
  simp
def ofB (d x:Dd):Bool:=decide (x.osite=d.site) && decide (x.ono=d.no)
abbrev fCD1:FuncId:=98
theorem counts1_ok (l:List Dd) (d x:Dd) (r:Bool) (hr:(ofB d x && !decide (x.kind=6) && decide (x.kind=3))=true→PCall Tryz.prog E 63 [.sl 12 (ddE l),.agg (ddC x)] (·=.bool r)):PCall Tryz.prog E fCD1 [.agg (ddC x),.ptr (ddC d),.ptr [.sl 12 (ddE l)]] (·=.bool (ofB d x && (decide (x.kind=6) || (decide (x.kind=3) && r)))):=by
 unfold ofB at *
 by_cases h1:(decide (x.osite=d.site) && decide (x.ono=d.no))=true
 ·by_cases h6:x.kind=6
  ·have e6:decide (x.kind=6)=true:=by simp [h6]
   rw [h1,e6]
   refine pcallF mixed Tryz.func98 ck_chaseref1_countsDeed_1 ?_
   simp only [a0,l0,OS.ao,List.map_cons,List.map_nil,List.length_cons,List.length_nil,List.cons_append,List.nil_append,Nat.reduceSub,Nat.reduceAdd,List.replicate_succ,List.replicate_zero,ir_chaseref1_countsDeed_1,rs_chaseref1_countsDeed_1,ZZ,WW,Ze,reduceCtorEq,Nat.reduceAdd,Nat.reduceMul,Nat.reduceLeDiff,Nat.reduceLT,Nat.reduceEqDiff]
   simp only [ddC,h1,e6,Bool.false_and,Bool.true_and,Bool.and_false,ZZ,WW,Ze,reduceCtorEq,Nat.reduceAdd,Nat.reduceMul,Nat.reduceLeDiff,Nat.reduceLT,Nat.reduceEqDiff]
   refine useG (r:=.bool false) (fun h=>by cases h) rfl (.inl rfl) ?_
   simp only [ZZ,WW,Ze,reduceCtorEq,Nat.reduceAdd,Nat.reduceMul,Nat.reduceLeDiff,Nat.reduceLT,Nat.reduceEqDiff]
   simp
  ·have e6:decide (x.kind=6)=false:=by simp [h6]
   by_cases h3:x.kind=3
   ·have e3:decide (x.kind=3)=true:=by simp [h3]
    rw [h1,e6,e3]
    refine pcallF mixed Tryz.func98 ck_chaseref1_countsDeed_1 ?_
    simp only [a0,l0,OS.ao,List.map_cons,List.map_nil,List.length_cons,List.length_nil,List.cons_append,List.nil_append,Nat.reduceSub,Nat.reduceAdd,List.replicate_succ,List.replicate_zero,ir_chaseref1_countsDeed_1,rs_chaseref1_countsDeed_1,ZZ,WW,Ze,reduceCtorEq,Nat.reduceAdd,Nat.reduceMul,Nat.reduceLeDiff,Nat.reduceLT,Nat.reduceEqDiff]
    simp only [ddC,h1,e6,e3,Bool.false_and,Bool.true_and,Bool.and_false,ZZ,WW,Ze,reduceCtorEq,Nat.reduceAdd,Nat.reduceMul,Nat.reduceLeDiff,Nat.reduceLT,Nat.reduceEqDiff]
    refine useG (fun _=>hr (by rw [h1,e6,e3];rfl)) rfl (.inl rfl) ?_
    simp only [ZZ,WW,Ze,reduceCtorEq,Nat.reduceAdd,Nat.reduceMul,Nat.reduceLeDiff,Nat.reduceLT,Nat.reduceEqDiff]
    rfl
   ·have e3:decide (x.kind=3)=false:=by simp [h3]
    rw [h1,e6,e3]
    refine pcallF mixed Tryz.func98 ck_chaseref1_countsDeed_1 ?_
    simp only [a0,l0,OS.ao,List.map_cons,List.map_nil,List.length_cons,List.length_nil,List.cons_append,List.nil_append,Nat.reduceSub,Nat.reduceAdd,List.replicate_succ,List.replicate_zero,ir_chaseref1_countsDeed_1,rs_chaseref1_countsDeed_1,ZZ,WW,Ze,reduceCtorEq,Nat.reduceAdd,Nat.reduceMul,Nat.reduceLeDiff,Nat.reduceLT,Nat.reduceEqDiff]
    simp only [ddC,h1,e6,e3,Bool.false_and,Bool.true_and,Bool.and_false,ZZ,WW,Ze,reduceCtorEq,Nat.reduceAdd,Nat.reduceMul,Nat.reduceLeDiff,Nat.reduceLT,Nat.reduceEqDiff]
    refine useG (r:=.bool false) (fun h=>by cases h) rfl (.inl rfl) ?_
    simp only [ZZ,WW,Ze,reduceCtorEq,Nat.reduceAdd,Nat.reduceMul,Nat.reduceLeDiff,Nat.reduceLT,Nat.reduceEqDiff]
    rfl
 ·have h1:(decide (x.osite=d.site) && decide (x.ono=d.no))=false:=by simpa using h1
  rw [h1]
  refine pcallF mixed Tryz.func98 ck_chaseref1_countsDeed_1 ?_
  simp only [a0,l0,OS.ao,List.map_cons,List.map_nil,List.length_cons,List.length_nil,List.cons_append,List.nil_append,Nat.reduceSub,Nat.reduceAdd,List.replicate_succ,List.replicate_zero,ir_chaseref1_countsDeed_1,rs_chaseref1_countsDeed_1,ZZ,WW,Ze,reduceCtorEq,Nat.reduceAdd,Nat.reduceMul,Nat.reduceLeDiff,Nat.reduceLT,Nat.reduceEqDiff]
  simp only [ddC,h1,Bool.false_and,Bool.true_and,Bool.and_false,ZZ,WW,Ze,reduceCtorEq,Nat.reduceAdd,Nat.reduceMul,Nat.reduceLeDiff,Nat.reduceLT,Nat.reduceEqDiff]
  refine useG (r:=.bool false) (fun h=>by cases h) rfl (.inl rfl) ?_
  simp only [ZZ,WW,Ze,reduceCtorEq,Nat.reduceAdd,Nat.reduceMul,Nat.reduceLeDiff,Nat.reduceLT,Nat.reduceEqDiff]
  simp
theorem counts_lvl (l:List Dd) (d:Dd) (hl:l.length≤1000000000) (rr:Dd→Bool) (hr:∀ x∈l,(ofB d x && !decide (x.kind=6) && decide (x.kind=3))=true→PCall Tryz.prog E 63 [.sl 12 (ddE l),.agg (ddC x)] (·=.bool (rr x))) :
  PCall Tryz.prog E 63 [.sl 12 (ddE l),.agg (ddC d)] (·=.bool (!(l.any fun x=>ofB d x && (decide (x.kind=6) || (decide (x.kind=3) && rr x))))):=by
 have hfn:fnB Tryz.prog fCD1=true:=by kernel_rfl
 refine pcallF mixed Tryz.func63 ck_chaseref1_countsDeed ?_
 simp only [a0,l0,OS.ao,List.map_cons,List.map_nil,List.length_cons,List.length_nil,List.cons_append,List.nil_append,Nat.reduceSub,Nat.reduceAdd,List.replicate_succ,List.replicate_zero,ir_chaseref1_countsDeed,rs_chaseref1_countsDeed,ZZ,WW,Ze,reduceCtorEq,Nat.reduceAdd,Nat.reduceMul,Nat.reduceLeDiff,Nat.reduceLT,Nat.reduceEqDiff]
 simp only [ddC,ZZ,WW,Ze,reduceCtorEq,Nat.reduceAdd,Nat.reduceMul,Nat.reduceLeDiff,Nat.reduceLT,Nat.reduceEqDiff]
 refine use1 (CFD_ok l fCD1 [.ptr (ddC d),.ptr [.sl 12 (ddE l)]] (fun x=>ofB d x && (decide (x.kind=6) || (decide (x.kind=3) && rr x))) hl (fun _=>hfn) rfl (fun x hx=>counts1_ok l d x (rr x) (hr x hx)) (fun x=>rfl) (fun x=>rfl)) rfl (.inr rfl) ?_
 simp only [ZZ,WW,Ze,reduceCtorEq,Nat.reduceAdd,Nat.reduceMul,Nat.reduceLeDiff,Nat.reduceLT,Nat.reduceEqDiff]
def cnt2 (l:List Dd) (d:Dd):Bool:=!(l.any fun x=>ofB d x && (decide (x.kind=6) || (decide (x.kind=3) && false)))
def cntF (l:List Dd) (d:Dd):Bool:=!(l.any fun x=>ofB d x && (decide (x.kind=6) || (decide (x.kind=3) && cnt2 l x)))
theorem counts_ok (l:List Dd) (d:Dd) (hl:l.length≤1000000000) (h:RgtD l):PCall Tryz.prog E 63 [.sl 12 (ddE l),.agg (ddC d)] (·=.bool (cntF l d)):=by
 refine counts_lvl l d hl (cnt2 l) fun x hx hc=>?_
 refine counts_lvl l x hl (fun _=>false) fun z hz hc2=>?_
 exfalso
 unfold ofB at hc hc2
 simp only [Bool.and_eq_true,decide_eq_true_eq] at hc hc2
 exact rgt_no3 h hz hc2.2 hx hc2.1.1.1.symm hc2.1.1.2.symm hc.2
end
def undD (site:List UInt8) (t k:Int) (os:List UInt8) (on:Int):Dd:=⟨site,0,t,k,[],[],[],0,0,os,on,[]⟩
def undX (l:List Dd) (site:List UInt8) (t:Int) (os:List UInt8) (on:Int):Option Dd→List Dd×Int
 |none=>([],8)
 |some x=>
  if (decide (x.kind=2) || decide (x.kind=4))=true then (if cntF l x=true then (srtD (l++[addD l (undD site t 3 os on)]),0) else ([],11))
  else if x.kind=6 then ([],16) else if ¬ os=site then ([],16) else if cntF l x=true then (srtD (l++[addD l (undD site t 6 os on)]),0) else ([],11)
def undV (l:List Dd) (site:List UInt8) (t:Int) (os:List UInt8) (on:Int):List Dd×Int:=if ¬ siteR l.length site t=0 then ([],siteR l.length site t) else undX l site t os on (findD l os on)
theorem RD.undVr {c:Int} {l:List Dd} (h:RD c l) (hc0:0≤c) (hc:c≤100000) {site:List UInt8} {t:Int} {os:List UInt8} {on:Int} (uB:∀ k:Int,k=3∨k=6→DdB (undD site t k os on)) (ht:-1000000000≤t∧t≤1000000000):RD (c+1) (undV l site t os on).1:=by
 unfold undV
 split
 ·exact RD.nil _
 ·rename_i h1
  have hr:=site_room (n:=l.length) (s:=site) (t:=t) (by simpa using h1)
  cases hx:findD l os on with
  |none=>exact RD.nil _
  |some x=>
   have hxl:x∈l:=List.mem_of_find?_eq_some hx
   have hxs:=List.find?_some (p:=fun d:Dd=>decide (d.site=os) && decide (d.no=on)) hx
   simp only [Bool.and_eq_true,decide_eq_true_eq] at hxs
   simp only [undX]
   split
   ·rename_i h2
    split
    ·exact h.add hc0 hc (uB 3 (.inl rfl)) (fun _=>⟨x,hxl,hxs,by simpa using h2⟩) hr ht
    ·exact RD.nil _
   ·split
    ·exact RD.nil _
    ·split
     ·exact RD.nil _
     ·split
      ·exact h.add hc0 hc (uB 6 (.inr rfl)) (fun e=>absurd (show (6:Int)=3 from e) (by decide)) hr ht
      ·exact RD.nil _
set_option maxRecDepth 100000 in
set_option maxHeartbeats 4000000 in
theorem UndoOf_ok (l:List Dd) (site:List UInt8) (t:Int) (os:List UInt8) (on:Int) (hR:RD 100000 l) (dB:DdB (undD site t 3 os on)) :
  PCall Tryz.prog ED 22 [.sl 12 (ddE l),.str site,int t,.agg [.str os,int on]] (·=.tup [.sl 12 (ddE (undV l site t os on).1),int (undV l site t os on).2]):=by
 unfold undV
 have hl:=hR.len
 refine pcallF mixed Tryz.func22 ck_chaseref1_UndoOf ?_
 simp only [a0,l0,OS.ao,List.map_cons,List.map_nil,List.length_cons,List.length_nil,List.cons_append,List.nil_append,Nat.reduceSub,Nat.reduceAdd,List.replicate_succ,List.replicate_zero,ir_chaseref1_UndoOf,rs_chaseref1_UndoOf,ZZ,WW,Ze,reduceCtorEq,Nat.reduceAdd,Nat.reduceMul,Nat.reduceLeDiff,Nat.reduceLT,Nat.reduceEqDiff]
 refine use1 (upD (siteFault_ok l site t (by have:=dB.b1;exact Nat.le_trans this (by decide)))) rfl (.inl rfl) ?_
 simp only [ZZ,WW,Ze,reduceCtorEq,Nat.reduceAdd,Nat.reduceMul,Nat.reduceLeDiff,Nat.reduceLT,Nat.reduceEqDiff]
 refine br ?_ ?_
 ·intro h
  have h:¬ siteR l.length site t=0:=by simpa using h
  rw [if_pos h]
  simp only [ZZ,WW,Ze,reduceCtorEq,Nat.reduceAdd,Nat.reduceMul,Nat.reduceLeDiff,Nat.reduceLT,Nat.reduceEqDiff]
  rfl
 intro h
 have h:siteR l.length site t=0:=by simpa using h
 rw [if_neg (fun e=>e h)]
 simp only [ZZ,WW,Ze,reduceCtorEq,Nat.reduceAdd,Nat.reduceMul,Nat.reduceLeDiff,Nat.reduceLT,Nat.reduceEqDiff]
 refine use1 (deedOf_ok l os on (by omega)) rfl (.inl rfl) ?_
 cases hx:findD l os on with
 |none=>
  simp only [ZZ,WW,Ze,reduceCtorEq,Nat.reduceAdd,Nat.reduceMul,Nat.reduceLeDiff,Nat.reduceLT,Nat.reduceEqDiff,Option.getD_none,Option.isSome_none,dd0,ddC]
  rfl
 |some x=>
  unfold undX
  have hxl:x∈l:=List.mem_of_find?_eq_some hx
  have hxs:=List.find?_some (p:=fun d:Dd=>decide (d.site=os) && decide (d.no=on)) hx
  simp only [Bool.and_eq_true,decide_eq_true_eq] at hxs
  have uB:∀ k:Int,k=3∨k=6→DdB (undD site t k os on):=fun k hk=>⟨dB.b1,dB.b2,dB.b3,dB.b4,dB.b5,dB.b6,dB.c1,dB.c2,(by show -1000000000000≤k∧k≤1000000000000;omega),dB.c4,dB.c5,dB.c6⟩
  have hct:=counts_ok (E:=ED) l x (by omega) hR.r
  have ha3:=added_ok l (undD site t 3 os on) (by omega) hR.b hR.n (uB 3 (.inl rfl)) (hR.fresh _)
  have ha6:=added_ok l (undD site t 6 os on) (by omega) hR.b hR.n (uB 6 (.inr rfl)) (hR.fresh _)
  simp only [ZZ,WW,Ze,reduceCtorEq,Nat.reduceAdd,Nat.reduceMul,Nat.reduceLeDiff,Nat.reduceLT,Nat.reduceEqDiff,Option.getD_some,Option.isSome_some,ddC]
  refine ⟨fun h=>by rw [h];rfl,?_⟩
  refine br ?_ ?_
  ·intro hm
   rw [if_pos hm]
   have hm:x.kind=2∨x.kind=4:=by simpa using hm
   have e6:decide (x.kind=6)=false:=by simp;omega
   have e36:decide ((3:Int)=6)=false:=rfl
   simp only [ZZ,WW,Ze,reduceCtorEq,Nat.reduceAdd,Nat.reduceMul,Nat.reduceLeDiff,Nat.reduceLT,Nat.reduceEqDiff]
   refine cut_same zE_ ?_
   simp only [ZZ,WW,Ze,reduceCtorEq,Nat.reduceAdd,Nat.reduceMul,Nat.reduceLeDiff,Nat.reduceLT,Nat.reduceEqDiff,e6,e36,Bool.false_and]
   refine cut_same zE_ ?_
   simp only [ZZ,WW,Ze,reduceCtorEq,Nat.reduceAdd,Nat.reduceMul,Nat.reduceLeDiff,Nat.reduceLT,Nat.reduceEqDiff]
   refine use1 hct rfl (.inl rfl) ?_
   simp only [ZZ,WW,Ze,reduceCtorEq,Nat.reduceAdd,Nat.reduceMul,Nat.reduceLeDiff,Nat.reduceLT,Nat.reduceEqDiff]
   refine br ?_ ?_
   ·intro h8
    have h8:cntF l x=false:=by simpa using h8
    rw [if_neg (by rw [h8];simp)]
    simp only [ZZ,WW,Ze,reduceCtorEq,Nat.reduceAdd,Nat.reduceMul,Nat.reduceLeDiff,Nat.reduceLT,Nat.reduceEqDiff]
    rfl
   intro h8
   have h8:cntF l x=true:=by simpa using h8
   rw [if_pos h8]
   simp only [ZZ,WW,Ze,reduceCtorEq,Nat.reduceAdd,Nat.reduceMul,Nat.reduceLeDiff,Nat.reduceLT,Nat.reduceEqDiff]
   refine use1 ha3 rfl (.inl rfl) ?_
   simp only [ZZ,WW,Ze,reduceCtorEq,Nat.reduceAdd,Nat.reduceMul,Nat.reduceLeDiff,Nat.reduceLT,Nat.reduceEqDiff]
  ·intro hm
   rw [if_neg (by rw [hm];simp)]
   simp only [ZZ,WW,Ze,reduceCtorEq,Nat.reduceAdd,Nat.reduceMul,Nat.reduceLeDiff,Nat.reduceLT,Nat.reduceEqDiff]
   refine cut_same zE_ ?_
   simp only [ZZ,WW,Ze,reduceCtorEq,Nat.reduceAdd,Nat.reduceMul,Nat.reduceLeDiff,Nat.reduceLT,Nat.reduceEqDiff]
   refine br ?_ ?_
   ·intro h6
    rw [if_pos (of_decide_eq_true h6)]
    simp only [ZZ,WW,Ze,reduceCtorEq,Nat.reduceAdd,Nat.reduceMul,Nat.reduceLeDiff,Nat.reduceLT,Nat.reduceEqDiff]
    refine cut_same zE_ ?_
    simp only [ZZ,WW,Ze,reduceCtorEq,Nat.reduceAdd,Nat.reduceMul,Nat.reduceLeDiff,Nat.reduceLT,Nat.reduceEqDiff,h6]
    rfl
   intro h6
   rw [if_neg (of_decide_eq_false h6)]
   simp only [ZZ,WW,Ze,reduceCtorEq,Nat.reduceAdd,Nat.reduceMul,Nat.reduceLeDiff,Nat.reduceLT,Nat.reduceEqDiff]
   refine cut_same zE_ ?_
   simp only [ZZ,WW,Ze,reduceCtorEq,Nat.reduceAdd,Nat.reduceMul,Nat.reduceLeDiff,Nat.reduceLT,Nat.reduceEqDiff]
   refine br ?_ ?_
   ·intro h7
    have h7:¬ os=site:=by simpa using h7
    rw [if_pos h7]
    simp only [ZZ,WW,Ze,reduceCtorEq,Nat.reduceAdd,Nat.reduceMul,Nat.reduceLeDiff,Nat.reduceLT,Nat.reduceEqDiff]
    rfl
   ·intro h7
    have h7:os=site:=by simpa using h7
    rw [if_neg (fun e=>e h7)]
    simp only [ZZ,WW,Ze,reduceCtorEq,Nat.reduceAdd,Nat.reduceMul,Nat.reduceLeDiff,Nat.reduceLT,Nat.reduceEqDiff]
    refine use1 hct rfl (.inl rfl) ?_
    simp only [ZZ,WW,Ze,reduceCtorEq,Nat.reduceAdd,Nat.reduceMul,Nat.reduceLeDiff,Nat.reduceLT,Nat.reduceEqDiff]
    refine br ?_ ?_
    ·intro h8
     have h8:cntF l x=false:=by simpa using h8
     rw [if_neg (by rw [h8];simp)]
     simp only [ZZ,WW,Ze,reduceCtorEq,Nat.reduceAdd,Nat.reduceMul,Nat.reduceLeDiff,Nat.reduceLT,Nat.reduceEqDiff]
     rfl
    intro h8
    have h8:cntF l x=true:=by simpa using h8
    rw [if_pos h8]
    simp only [ZZ,WW,Ze,reduceCtorEq,Nat.reduceAdd,Nat.reduceMul,Nat.reduceLeDiff,Nat.reduceLT,Nat.reduceEqDiff]
    refine use1 ha6 rfl (.inl rfl) ?_
    simp only [ZZ,WW,Ze,reduceCtorEq,Nat.reduceAdd,Nat.reduceMul,Nat.reduceLeDiff,Nat.reduceLT,Nat.reduceEqDiff]
def ir_slices_Grow_api_Deed_api_Deed:IC:=(.seq (.reg [qO 4 (.mov (.c (.nl 12)))]) (.seq (.seq (.reg [qM 5 1,qO 6 (.bin .lss (.t 5) (.c (.int .i64 0)))]) (.cond (.t 6) (.reg [qO 7 (.dead),⟨none,.dead,none⟩]) .skip)) (.cut (.seq (.seq (.reg [qM 8 1,qM 9 0,qO 10 (.cap0 (.t 9)),qM 11 0,qO 12 (.len (.t 11)),qO 13 (.bin .sub (.t 10) (.t 12)),qO 14 (.bin .sub (.t 8) (.t 13)),qM 1 14]) (.seq (.reg [qM 15 1,qO 16 (.bin .gtr (.t 15) (.c (.int .i64 0)))]) (.cond (.t 16) (.reg [qM 17 0,qM 18 0,qO 19 (.cap0 (.t 18)),qO 20 (.vsn (.t 17) (.t 19)),qM 21 1,qO 22 (.apz 45 12 144 [.str [],.int .i64 0,.int .i64 0,.int .i64 0,.str [],.str [],.str [],.int .i64 0,.int .i64 0,.str [],.int .i64 0,.str []] (.t 20) (.t 21)),qM 23 0,qO 24 (.len (.t 23)),qO 25 (.trn 12 (.t 22) (.t 24)),qM 0 25]) .skip))) (.cut (.seq (.reg [qM 26 0,qM 4 26]) .ret))))))
def rs_slices_Grow_api_Deed_api_Deed:List IRes:=[.t 4]
theorem ck_slices_Grow_api_Deed_api_Deed:chkF Tryz.prog Tryz.f100 ir_slices_Grow_api_Deed_api_Deed rs_slices_Grow_api_Deed_api_Deed 27=true:=by kernel_rfl
def ir_slices_Concat_api_Deed_api_Deed_L1:IC:=(.seq (.reg [qO 28 (.bin .lss (.t 27) (.t 26))]) (.seq (.cond (.t 28) .skip (.exit 2)) (.seq (.block 3 (.seq (.reg [qO 29 (.ixa 1 (.t 25) (.t 27)),qO 30 (.ld 1 false (.t 29)),qM 8 30]) (.reg [qM 31 6,qM 32 8,qO 33 (.app 45 12 144 (.t 31) (.t 32)),qM 6 33]))) (.reg [qO 34 (.bin .add (.t 27) (.c (.int .i64 1))),qM 27 34]))))
def ir_slices_Concat_api_Deed_api_Deed_L0:IC:=(.seq (.reg [qO 12 (.bin .lss (.t 11) (.t 10))]) (.seq (.cond (.t 12) .skip (.exit 0)) (.seq (.block 1 (.seq (.reg [qO 13 (.ixa 1 (.t 9) (.t 11)),qO 14 (.ld 1 false (.t 13)),qM 5 14]) (.seq (.reg [qM 15 3,qM 16 5,qO 17 (.len (.t 16)),qO 18 (.bin .add (.t 15) (.t 17)),qM 3 18]) (.seq (.reg [qM 19 3,qO 20 (.bin .lss (.t 19) (.c (.int .i64 0)))]) (.cond (.t 20) (.reg [qO 21 (.dead),⟨none,.dead,none⟩]) .skip))))) (.cut (.reg [qO 22 (.bin .add (.t 11) (.c (.int .i64 1))),qM 11 22])))))
def ir_slices_Concat_api_Deed_api_Deed:IC:=(.seq (.reg [qO 2 (.mov (.c (.nl 12)))]) (.seq (.reg [qO 3 (.mov (.c (.int .i64 0)))]) (.seq (.seq (.reg [qM 9 0,qO 10 (.len (.t 9)),qO 11 (.mov (.c (.int .i64 0)))]) (.block 0 (.loop ir_slices_Concat_api_Deed_api_Deed_L0))) (.seq (.reg [qM 23 3,qO 24 (.call 100 [.c (.nl 12),.t 23]),qM 6 24]) (.seq (.seq (.reg [qM 25 0,qO 26 (.len (.t 25)),qO 27 (.mov (.c (.int .i64 0)))]) (.block 2 (.loop ir_slices_Concat_api_Deed_api_Deed_L1))) (.seq (.reg [qM 35 6,qM 2 35]) .ret))))))
def rs_slices_Concat_api_Deed_api_Deed:List IRes:=[.t 2]
theorem ck_slices_Concat_api_Deed_api_Deed:chkF Tryz.prog Tryz.f65 ir_slices_Concat_api_Deed_api_Deed rs_slices_Concat_api_Deed_api_Deed 36=true:=by kernel_rfl
def ir_chaseref1_MergeDeeds_L0:IC:=(.seq (.reg [qO 22 (.bin .lss (.t 21) (.t 20))]) (.seq (.cond (.t 22) .skip (.exit 0)) (.seq (.block 1 (.seq (.reg [qO 23 (.ixa 12 (.t 19) (.t 21)),qO 24 (.ld 12 true (.t 23)),qO 8 (.alc 45 [.str [],.int .i64 0,.int .i64 0,.int .i64 0,.str [],.str [],.str [],.int .i64 0,.int .i64 0,.str [],.int .i64 0,.str []]),⟨none,.st 12 (.t 8) (.t 24),none⟩]) (.seq (.reg [qM 26 6,qO 27 (.fla 0 (.t 8)),qO 28 (.ld 2 true (.t 27)),qO 29 (.call 52 [.t 26,.t 28]),qM 25 29,qO 30 (.ext 0 (.t 25)),qO 31 (.ext 1 (.t 25)),qO 9 (.alc 45 [.str [],.int .i64 0,.int .i64 0,.int .i64 0,.str [],.str [],.str [],.int .i64 0,.int .i64 0,.str [],.int .i64 0,.str []]),⟨none,.st 12 (.t 9) (.t 30),none⟩,qM 10 31]) (.seq (.seq (.reg [qM 32 10,qM 33 32,⟨some 34,.ld 12 true (.t 9),(some (33,true))⟩,⟨some 35,.ld 12 true (.t 8),(some (33,true))⟩,⟨some 36,.eqa true [.s,.i,.i,.i,.s,.s,.s,.i,.i,.s,.i,.s] (.t 34) (.t 35),(some (33,true))⟩,qO 37 (.pick (.t 33) (.t 36) (.c (.bool false)))]) (.cond (.t 37) (.seq (.reg [qO 4 (.mov (.c (.nl 12))),qO 5 (.mov (.c (.int .i64 13)))]) .ret) .skip)) (.seq (.reg [qM 38 10,qO 39 (.not (.t 38))]) (.cond (.t 39) (.reg [qM 40 6,qO 41 (.ld 12 true (.t 8)),qO 42 (.bsl 12 [.t 41]),qO 43 (.app 45 12 144 (.t 40) (.t 42)),qM 6 43]) .skip)))))) (.cut (.reg [qO 44 (.bin .add (.t 21) (.c (.int .i64 1))),qM 21 44])))))
def ir_chaseref1_MergeDeeds:IC:=(.seq (.reg [qO 4 (.mov (.c (.nl 12))),qO 5 (.mov (.c (.int .i64 0)))]) (.seq (.seq (.reg [qM 13 1,qO 14 (.len (.t 13)),qO 15 (.bin .gtr (.t 14) (.c (.int .i64 2000)))]) (.cond (.t 15) (.seq (.reg [qO 4 (.mov (.c (.nl 12))),qO 5 (.mov (.c (.int .i64 2)))]) .ret) .skip)) (.seq (.reg [qO 6 (.nilr 45 12)]) (.seq (.seq (.reg [qM 16 0,qM 17 1,qO 18 (.bsl 1 [.t 16,.t 17]),qO 19 (.call 65 [.t 18]),qO 20 (.len (.t 19)),qO 21 (.mov (.c (.int .i64 0)))]) (.block 0 (.loop ir_chaseref1_MergeDeeds_L0))) (.seq (.reg [qM 45 6,qO 46 (.call 66 [.t 45,.f 50])]) (.seq (.seq (.reg [qM 48 6,qO 49 (.call 10 [.t 48]),qM 47 49,qO 50 (.ext 0 (.t 47)),qO 51 (.ext 1 (.t 47)),qM 11 50,qM 12 51]) (.seq (.reg [qM 52 12,qO 53 (.bin .neq (.t 52) (.c (.int .i64 0)))]) (.cond (.t 53) (.seq (.reg [qM 54 12,qO 4 (.mov (.c (.nl 12))),qM 5 54]) .ret) .skip))) (.seq (.reg [qM 55 6,qM 4 55,qO 5 (.mov (.c (.int .i64 0)))]) .ret)))))))
def rs_chaseref1_MergeDeeds:List IRes:=[.t 4,.t 5]
theorem ck_chaseref1_MergeDeeds:chkF Tryz.prog Tryz.f32 ir_chaseref1_MergeDeeds rs_chaseref1_MergeDeeds 56=true:=by kernel_rfl
section
variable {E:Envt}
theorem GrowDd_ok (n:Nat) (hn:n≤1000000000):FCall Tryz.prog E 100 [.nl 12,int n] tDd 12 (·=[]):=by
 unfold FCall
 refine gcallR mixed Tryz.func100 ck_slices_Grow_api_Deed_api_Deed ?_
 simp only [a0,l0,OS.ao,List.map_cons,List.map_nil,List.length_cons,List.length_nil,List.cons_append,List.nil_append,Nat.reduceSub,Nat.reduceAdd,List.replicate_succ,List.replicate_zero,ir_slices_Grow_api_Deed_api_Deed,rs_slices_Grow_api_Deed_api_Deed,ZZ,WW,Ze,reduceCtorEq,Nat.reduceAdd,Nat.reduceMul,Nat.reduceLeDiff,Nat.reduceLT,Nat.reduceEqDiff]
 refine br ?_ ?_
 ·intro h
  have:=of_decide_eq_true h
  omega
 ·intro h
  simp only [ZZ,WW,Ze,reduceCtorEq,Nat.reduceAdd,Nat.reduceMul,Nat.reduceLeDiff,Nat.reduceLT,Nat.reduceEqDiff]
  refine cut_same zE_ ?_
  simp only [ZZ,WW,Ze,reduceCtorEq,Nat.reduceAdd,Nat.reduceMul,Nat.reduceLeDiff,Nat.reduceLT,Nat.reduceEqDiff]
  ((repeat' (with_reducible apply And.intro))<;>try ((exact sc_)))
  refine br ?_ ?_
  ·intro h2
   have h2:=of_decide_eq_true h2
   simp only [ZZ,WW,Ze,reduceCtorEq,Nat.reduceAdd,Nat.reduceMul,Nat.reduceLeDiff,Nat.reduceLT,Nat.reduceEqDiff]
   ((repeat' (with_reducible apply And.intro))<;>try ((exact sc_)))
   refine cut_same zE_ ?_
   simp only [ZZ,WW,Ze,reduceCtorEq,Nat.reduceAdd,Nat.reduceMul,Nat.reduceLeDiff,Nat.reduceLT,Nat.reduceEqDiff]
   exact fin_F 22 [] rfl rfl rfl
  ·intro h2
   simp only [ZZ,WW,Ze,reduceCtorEq,Nat.reduceAdd,Nat.reduceMul,Nat.reduceLeDiff,Nat.reduceLT,Nat.reduceEqDiff]
   refine cut_same zE_ ?_
   simp only [ZZ,WW,Ze,reduceCtorEq,Nat.reduceAdd,Nat.reduceMul,Nat.reduceLeDiff,Nat.reduceLT,Nat.reduceEqDiff]
   exact fin_Fn rfl rfl
def lenSD (ls:List (List Dd)):Nat:=(ls.map List.length).sum
theorem lenSD_take {ls:List (List Dd)} {k:Nat} {x:List Dd} (h:ls[k]?=some x):lenSD (ls.take (k+1))=lenSD (ls.take k)+x.length:=by
 obtain ⟨hk,hx⟩:=List.getElem?_eq_some_iff.1 h
 unfold lenSD
 rw [List.take_succ_eq_append_getElem hk,List.map_append,List.sum_append,hx]
 simp
theorem flat_takeD {ls:List (List Dd)} {k:Nat} {x:List Dd} (h:ls[k]?=some x):(ls.take (k+1)).flatten=(ls.take k).flatten++x:=by
 obtain ⟨hk,hx⟩:=List.getElem?_eq_some_iff.1 h
 rw [List.take_succ_eq_append_getElem hk,List.flatten_append,hx]
 simp
theorem lenSD_le (ls:List (List Dd)) (k:Nat):lenSD (ls.take k)≤lenSD ls:=by
 unfold lenSD
 conv=>rhs;rw [← List.take_append_drop k ls,List.map_append,List.sum_append]
 omega
theorem flat_lenD (ls:List (List Dd)):ls.flatten.length=lenSD ls:=by simp [lenSD,List.length_flatten]
theorem ConcatDd_ok (ls:List (List Dd)) (hn:ls.length≤1000000) (hs:lenSD ls≤1000000000):FCall Tryz.prog E 65 [.sl 1 (ls.map fun l=>[PV.sl 12 (ddE l)])] tDd 12 (·=ls.flatten.map ddC):=by
 unfold FCall
 refine gcallR mixed Tryz.func65 ck_slices_Concat_api_Deed_api_Deed ?_
 simp only [a0,l0,OS.ao,List.map_cons,List.map_nil,List.length_cons,List.length_nil,List.cons_append,List.nil_append,Nat.reduceSub,Nat.reduceAdd,List.replicate_succ,List.replicate_zero,ir_slices_Concat_api_Deed_api_Deed,rs_slices_Concat_api_Deed_api_Deed,ZZ,WW,Ze,reduceCtorEq,Nat.reduceAdd,Nat.reduceMul,Nat.reduceLeDiff,Nat.reduceLT,Nat.reduceEqDiff]
 have hln:(ls.map fun l=>[PV.sl 12 (ddE l)]).length=ls.length:=by simp
 have hget:∀ k s,ls[k]?=some s→(ls.map fun l=>[PV.sl 12 (ddE l)]).getD k []=[.sl 12 (ddE s)]:=fun k s hs=>getD_map hs
 generalize (ls.map fun l=>[PV.sl 12 (ddE l)])=es at hln hget ⊢
 simp only [hln]
 refine loop_intro (fun n fr L=>∃ (k:Nat),k≤ls.length∧n=ls.length - k∧fr=[.p (.sl 1 es),oo,.p (.nl 12),.p (int (lenSD (ls.take k):Nat)),oo,oo,oo,oo,oo,.p (.sl 1 es),.p (int (ls.length:Nat)),.p (int (k:Nat)),oo,oo,oo,oo,oo,oo,oo,oo,oo,oo,oo,oo,oo,oo,oo,oo,oo,oo,oo,oo,oo,oo,oo,oo]∧L=[]) ls.length [.p (.sl 1 es),oo,.p (.nl 12),.p (int (0:Nat)),oo,oo,oo,oo,oo,.p (.sl 1 es),.p (int (ls.length:Nat)),.p (int (0:Nat)),oo,oo,oo,oo,oo,oo,oo,oo,oo,oo,oo,oo,oo,oo,oo,oo,oo,oo,oo,oo,oo,oo,oo,oo] [] (by (simp only [ZZ,WW,Ze,reduceCtorEq,Nat.reduceAdd,Nat.reduceMul,Nat.reduceLeDiff,Nat.reduceLT,Nat.reduceEqDiff];try trivial)) zE_ ⟨0,by omega,by omega,rfl,rfl⟩ ?_
 rintro n fr L ⟨k,hk,rfl,rfl,rfl⟩
 simp only [ir_slices_Concat_api_Deed_api_Deed_L0,ZZ,WW,Ze,reduceCtorEq,Nat.reduceAdd,Nat.reduceMul,Nat.reduceLeDiff,Nat.reduceLT,Nat.reduceEqDiff]
 have hle:=lenSD_le ls k
 refine br ?_ ?_
 ·intro h
  have hlt:k < ls.length:=by have:=of_decide_eq_true h;omega
  obtain ⟨s,hs⟩:∃ x,ls[k]?=some x:=⟨_,List.getElem?_eq_getElem hlt⟩
  have hg:=hget k s hs
  have hnx:=lenSD_take hs
  have hle':=lenSD_le ls (k+1)
  simp only [ZZ,WW,Ze,reduceCtorEq,Nat.reduceAdd,Nat.reduceMul,Nat.reduceLeDiff,Nat.reduceLT,Nat.reduceEqDiff,hg,ddE_len,hln]
  ((repeat' (with_reducible apply And.intro))<;>try ((exact sc_)))
  refine br ?_ ?_
  ·intro h2
   have:=of_decide_eq_true h2
   omega
  ·intro h2
   simp only [ZZ,WW,Ze,reduceCtorEq,Nat.reduceAdd,Nat.reduceMul,Nat.reduceLeDiff,Nat.reduceLT,Nat.reduceEqDiff]
   refine cut_same zE_ ?_
   simp only [ZZ,WW,Ze,reduceCtorEq,Nat.reduceAdd,Nat.reduceMul,Nat.reduceLeDiff,Nat.reduceLT,Nat.reduceEqDiff]
   refine ⟨i64_of (by omega) (by omega),?_⟩
   refine end_round (ls.length - (k+1)) [.p (.sl 1 es),oo,.p (.nl 12),.p (int (lenSD (ls.take (k+1)):Nat)),oo,oo,oo,oo,oo,.p (.sl 1 es),.p (int (ls.length:Nat)),.p (int ((k+1:Nat):Nat)),oo,oo,oo,oo,oo,oo,oo,oo,oo,oo,oo,oo,oo,oo,oo,oo,oo,oo,oo,oo,oo,oo,oo,oo] [] (by omega) (by rw [hnx];simp only [Int.natCast_add,ZZ,WW,Ze,reduceCtorEq,Nat.reduceAdd,Nat.reduceMul,Nat.reduceLeDiff,Nat.reduceLT,Nat.reduceEqDiff];try trivial) zE_ ⟨k+1,by omega,rfl,rfl,rfl⟩
 ·intro h
  have hge:k=ls.length:=by have:=of_decide_eq_false h;omega
  subst hge
  rw [List.take_length]
  simp only [ZZ,WW,Ze,reduceCtorEq,Nat.reduceAdd,Nat.reduceMul,Nat.reduceLeDiff,Nat.reduceLT,Nat.reduceEqDiff]
  refine useF0 (GrowDd_ok (lenSD ls) hs) rfl ?_
  rintro es' rfl
  simp only [ZZ,WW,Ze,reduceCtorEq,Nat.reduceAdd,Nat.reduceMul,Nat.reduceLeDiff,Nat.reduceLT,Nat.reduceEqDiff,hln]
  refine loop_intro (fun n fr L=>∃ (k:Nat),k≤ls.length∧n=ls.length - k∧fr=[.p (.sl 1 es),oo,.p (.nl 12),oo,oo,oo,.row (.l 24),oo,oo,oo,oo,oo,oo,oo,oo,oo,oo,oo,oo,oo,oo,oo,oo,oo,oo,.p (.sl 1 es),.p (int (ls.length:Nat)),.p (int (k:Nat)),oo,oo,oo,oo,oo,oo,oo,oo]∧L=[(.l 24,.row ((ls.take k).flatten.map ddC) tDd 12 true)]) ls.length [.p (.sl 1 es),oo,.p (.nl 12),oo,oo,oo,.row (.l 24),oo,oo,oo,oo,oo,oo,oo,oo,oo,oo,oo,oo,oo,oo,oo,oo,oo,oo,.p (.sl 1 es),.p (int (ls.length:Nat)),.p (int (0:Nat)),oo,oo,oo,oo,oo,oo,oo,oo] [(.l 24,.row [] tDd 12 true)] (by (simp only [ZZ,WW,Ze,reduceCtorEq,Nat.reduceAdd,Nat.reduceMul,Nat.reduceLeDiff,Nat.reduceLT,Nat.reduceEqDiff];try trivial)) zE_ ⟨0,by omega,by omega,rfl,rfl⟩ ?_
  rintro n fr L ⟨k,hk,rfl,rfl,rfl⟩
  simp only [ir_slices_Concat_api_Deed_api_Deed_L1,ZZ,WW,Ze,reduceCtorEq,Nat.reduceAdd,Nat.reduceMul,Nat.reduceLeDiff,Nat.reduceLT,Nat.reduceEqDiff]
  have hle:=lenSD_le ls k
  refine br ?_ ?_
  ·intro h
   have hlt:k < ls.length:=by have:=of_decide_eq_true h;omega
   obtain ⟨s,hs⟩:∃ x,ls[k]?=some x:=⟨_,List.getElem?_eq_getElem hlt⟩
   have hg:=hget k s hs
   have hnx:=lenSD_take hs
   have hfx:=flat_takeD hs
   have hle':=lenSD_le ls (k+1)
   have hfl:((ls.take k).flatten.map ddC).length=lenSD (ls.take k):=by rw [List.length_map,flat_lenD]
   simp only [ZZ,WW,Ze,reduceCtorEq,Nat.reduceAdd,Nat.reduceMul,Nat.reduceLeDiff,Nat.reduceLT,Nat.reduceEqDiff,hg,hln,ddE_len]
   simp only [hfl,List.length_map]
   ((repeat' (with_reducible apply And.intro))<;>try ((exact sc_)))
   refine end_round (ls.length - (k+1)) [.p (.sl 1 es),oo,.p (.nl 12),oo,oo,oo,.row (.l 24),oo,oo,oo,oo,oo,oo,oo,oo,oo,oo,oo,oo,oo,oo,oo,oo,oo,oo,.p (.sl 1 es),.p (int (ls.length:Nat)),.p (int ((k+1:Nat):Nat)),oo,oo,oo,oo,oo,oo,oo,oo] [(.l 24,.row ((ls.take (k+1)).flatten.map ddC) tDd 12 true)] (by omega) (by (simp only [ZZ,WW,Ze,reduceCtorEq,Nat.reduceAdd,Nat.reduceMul,Nat.reduceLeDiff,Nat.reduceLT,Nat.reduceEqDiff];try trivial)) (by rw [hfx,List.map_append];simp only [ZZ,WW,Ze,reduceCtorEq,Nat.reduceAdd,Nat.reduceMul,Nat.reduceLeDiff,Nat.reduceLT,Nat.reduceEqDiff,ddE]) ⟨k+1,by omega,rfl,rfl,rfl⟩
  ·intro h
   have hge:k=ls.length:=by have:=of_decide_eq_false h;omega
   subst hge
   rw [List.take_length]
   simp only [ZZ,WW,Ze,reduceCtorEq,Nat.reduceAdd,Nat.reduceMul,Nat.reduceLeDiff,Nat.reduceLT,Nat.reduceEqDiff]
   exact fin_F 24 _ rfl rfl rfl
end
theorem flat_dd {w:World} {U U':Nat→Prop} {d:Dd} {c:Bool} {v:Value} (h:PRep w U (.tup [.agg (ddC d),.bool c]) v):PRep w U' (.tup [.agg (ddC d),.bool c]) v:=by
 simp only [PRep,PRepL] at h ⊢
 obtain ⟨vs,e,v1,r1,e1,h1,v2,r2,e2,h2,e3⟩:=h
 have h1':PRep w U (.agg (ddC d)) v1:=by simp only [PRep];exact h1
 have h3:PRep w U' (.agg (ddC d)) v1:=PRep.flat (by rfl) h1'
 simp only [PRep] at h3
 exact ⟨vs,e,v1,r1,e1,h3,v2,r2,e2,h2,e3⟩
section
variable {P:Program} {E:Envt} {L:Objs}
theorem pureD {f:FuncId} {qs:List AV} {ps:List PV} {d:Dd} {c:Bool} (h:PCall P E f ps (·=.tup [.agg (ddC d),.bool c])) (ha:Zbh L qs=some ps):PureC P E f qs L (·=.tup [.agg (ddC d),.bool c]):=by
 intro w X ι vs hs hX hE hEb hA
 refine (h w X vs (fun b hb=>(hX b hb).1) hE (fun b hb=>(hEb b hb).1) (argPs_rows hs (fun b hb=>(hX b hb).2) ha hA)).mono ?_
 rintro e w' ⟨v,x,rfl,rfl,hr,hG⟩
 exact ⟨v,_,rfl,rfl,flat_dd hr,hG⟩
theorem useDD {fr:List AV} {X:List PV} {K:List AV→Objs→Prop} {f:FuncId} {qs:List AV} {ps:List PV} {d:Dd} {c:Bool} {dst:Option Nat} {is:List IOper} (h:PCall P E f ps (·=.tup [.agg (ddC d),.bool c])) (ha:Zbh L qs=some ps) (hk:awpOps P E X is (Zg fr dst (.p (.tup [.agg (ddC d),.bool c]))) L K):CallOp P E f qs L dst fr (contO P E X is K):=
 .inl ⟨_,pureD h ha,fun x e=>by rw [e];exact hk⟩
end
def mrgS (out:List Dd) (d:Dd):List Dd:=if (findD out d.site d.no).isSome=true then out else out++[d]
def mrgF (q:List Dd):List Dd:=q.foldl mrgS []
theorem mrg_next {q:List Dd} {k:Nat} {d:Dd} (h:q[k]?=some d):mrgF (q.take (k+1))=mrgS (mrgF (q.take k)) d:=by
 obtain ⟨hk,he⟩:=List.getElem?_eq_some_iff.1 h
 rw [List.take_succ_eq_append_getElem hk,he,mrgF,List.foldl_append]
 rfl
theorem mrg_memR:∀ (r:List Dd) (x:Dd),x∈mrgF r.reverse→x∈r
 |[],x,h=>by cases h
 |d :: r,x,h=>by
  rw [List.reverse_cons,mrgF,List.foldl_append] at h
  have h:x∈mrgS (mrgF r.reverse) d:=h
  unfold mrgS at h
  split at h
  ·exact List.mem_cons_of_mem _ (mrg_memR r x h)
  ·rcases List.mem_append.1 h with h|h
   ·exact List.mem_cons_of_mem _ (mrg_memR r x h)
   ·rw [List.mem_singleton] at h;subst h;exact List.mem_cons_self
theorem mrg_mem {q:List Dd} {x:Dd} (h:x∈mrgF q):x∈q:=by
 have:=mrg_memR q.reverse x (by rwa [List.reverse_reverse])
 simpa using this
theorem mrg_lenR:∀ r:List Dd,(mrgF r.reverse).length≤r.length
 |[]=>Nat.le_refl _
 |d :: r=>by
  rw [List.reverse_cons,mrgF,List.foldl_append]
  show (mrgS (mrgF r.reverse) d).length≤_
  have:=mrg_lenR r
  unfold mrgS
  split<;>simp<;>omega
theorem mrg_len (q:List Dd):(mrgF q).length≤q.length:=by
 have:=mrg_lenR q.reverse
 rwa [List.reverse_reverse,List.length_reverse] at this
theorem mrg_unqR:∀ r:List Dd,UnqD (mrgF r.reverse)
 |[]=>List.Pairwise.nil
 |d :: r=>by
  rw [List.reverse_cons,mrgF,List.foldl_append]
  show UnqD (mrgS (mrgF r.reverse) d)
  have ih:=mrg_unqR r
  unfold mrgS
  split
  ·exact ih
  ·rename_i h
   unfold UnqD at *
   rw [List.pairwise_append]
   refine ⟨ih,by simp,?_⟩
   intro x hx y hy e
   rw [List.mem_singleton] at hy
   subst hy
   obtain ⟨a1,a2⟩:=cmpD_zero e
   refine h ?_
   unfold findD
   rw [List.find?_isSome]
   exact ⟨x,hx,by simp [a1,a2]⟩
theorem mrg_unq (q:List Dd):UnqD (mrgF q):=by
 have:=mrg_unqR q.reverse
 rwa [List.reverse_reverse] at this
def cnfX (d:Dd):Option Dd→Bool
 |some x=>!decide (x=d)
 |none=>false
def cnfI (q:List Dd) (k:Nat):Bool:=match q[k]? with|some d=>cnfX d (findD (mrgF (q.take k)) d.site d.no)|none=>false
def cnfF (q:List Dd):Bool:=(List.range q.length).any (cnfI q)
theorem cnf_yes {q:List Dd} {k:Nat} (h:k < q.length) (hc:cnfI q k=true):cnfF q=true:=by
 unfold cnfF
 rw [List.any_eq_true]
 exact ⟨k,List.mem_range.2 h,hc⟩
theorem cnf_no {q:List Dd} (h:∀ k,k < q.length→cnfI q k=false):cnfF q=false:=by
 unfold cnfF
 rw [List.any_eq_false]
 intro k hk
 simp [h k (List.mem_range.1 hk)]
def mrgV (a b:List Dd):List Dd×Int:=
 if 2000 < b.length then ([],2) else if cnfF (a++b)=true then ([],13)
 else if ¬ (ckdF (srtD (mrgF (a++b)))).2=0 then ([],(ckdF (srtD (mrgF (a++b)))).2) else (srtD (mrgF (a++b)),0)
theorem ddC_eq (x d:Dd):(decide (x.site=d.site) && (decide (x.no=d.no) && (decide (x.tm=d.tm) && (decide (x.kind=d.kind) && (decide (x.id=d.id) && (decide (x.field=d.field) && (decide (x.value=d.value) && (decide (x.frm=d.frm) && (decide (x.upto=d.upto) && (decide (x.osite=d.osite) && (decide (x.ono=d.ono) && decide (x.sum=d.sum))))))))))))=decide (x=d):=by
 rw [Bool.eq_iff_iff]
 simp only [Bool.and_eq_true,decide_eq_true_eq]
 cases x;cases d
 simp
set_option maxRecDepth 100000 in
set_option maxHeartbeats 4000000 in
theorem MergeDeeds_ok (a b:List Dd) (ha:a.length≤100000) (hb:b.length≤100000) (hA:DdsB a) (hB:DdsB b) :
  PCall Tryz.prog ED 32 [.sl 12 (ddE a),.sl 12 (ddE b)] (·=.tup [.sl 12 (ddE (mrgV a b).1),int (mrgV a b).2]):=by
 unfold mrgV
 refine pcallF mixed Tryz.func32 ck_chaseref1_MergeDeeds ?_
 simp only [a0,l0,OS.ao,List.map_cons,List.map_nil,List.length_cons,List.length_nil,List.cons_append,List.nil_append,Nat.reduceSub,Nat.reduceAdd,List.replicate_succ,List.replicate_zero,ir_chaseref1_MergeDeeds,rs_chaseref1_MergeDeeds,ZZ,WW,Ze,reduceCtorEq,Nat.reduceAdd,Nat.reduceMul,Nat.reduceLeDiff,Nat.reduceLT,Nat.reduceEqDiff]
 simp only [ZZ,WW,Ze,reduceCtorEq,Nat.reduceAdd,Nat.reduceMul,Nat.reduceLeDiff,Nat.reduceLT,Nat.reduceEqDiff,ddE_len]
 refine br ?_ ?_
 ·intro h
  have h:2000 < b.length:=by have:=of_decide_eq_true h;omega
  rw [if_pos h]
  simp only [ZZ,WW,Ze,reduceCtorEq,Nat.reduceAdd,Nat.reduceMul,Nat.reduceLeDiff,Nat.reduceLT,Nat.reduceEqDiff]
  rfl
 intro h
 have h:¬ 2000 < b.length:=by have:=of_decide_eq_false h;omega
 rw [if_neg h]
 simp only [ZZ,WW,Ze,reduceCtorEq,Nat.reduceAdd,Nat.reduceMul,Nat.reduceLeDiff,Nat.reduceLT,Nat.reduceEqDiff]
 have hC:=ConcatDd_ok (E:=ED) [a,b] (by simp) (by simp [lenSD];omega)
 have hq:[a,b].flatten=a++b:=by simp
 rw [hq] at hC
 have hql:(a++b).length≤200000:=by simp;omega
 have hQB:DdsB (a++b):=hA.app hB
 generalize a++b=q at *
 refine useF hC rfl rfl ?_
 rintro es rfl
 have hqe:q.map ddC=ddE q:=rfl
 rw [hqe]
 simp only [ZZ,WW,Ze,reduceCtorEq,Nat.reduceAdd,Nat.reduceMul,Nat.reduceLeDiff,Nat.reduceLT,Nat.reduceEqDiff,ddE_len]
 refine loop_intro (fun n fr L=>∃ (k:Nat),k≤q.length∧n=q.length - k∧(∀ j,j < k→cnfI q j=false)∧fr=[oo,oo,oo,oo,oo,oo,.row (.l 6),oo,oo,oo,oo,oo,oo,oo,oo,oo,oo,oo,oo,.row (.l 19),.p (int (q.length:Nat)),.p (int (k:Nat)),oo,oo,oo,oo,oo,oo,oo,oo,oo,oo,oo,oo,oo,oo,oo,oo,oo,oo,oo,oo,oo,oo,oo,oo,oo,oo,oo,oo,oo,oo,oo,oo,oo,oo]∧L=[(.l 6,.row (ddE (mrgF (q.take k))) tDd 12 true),(.l 19,.row (ddE q) tDd 12 true)]) (q.length) [oo,oo,oo,oo,oo,oo,.row (.l 6),oo,oo,oo,oo,oo,oo,oo,oo,oo,oo,oo,oo,.row (.l 19),.p (int (q.length:Nat)),.p (int (0:Nat)),oo,oo,oo,oo,oo,oo,oo,oo,oo,oo,oo,oo,oo,oo,oo,oo,oo,oo,oo,oo,oo,oo,oo,oo,oo,oo,oo,oo,oo,oo,oo,oo,oo,oo] [(.l 6,.row (ddE (mrgF (q.take 0))) tDd 12 true),(.l 19,.row (ddE q) tDd 12 true)] (by simp only [ddE_len,List.take_zero,mrgF,List.foldl_nil,ZZ,WW,Ze,reduceCtorEq,Nat.reduceAdd,Nat.reduceMul,Nat.reduceLeDiff,Nat.reduceLT,Nat.reduceEqDiff];try trivial) (by simp only [List.take_zero,mrgF,List.foldl_nil,ddE_nil,ZZ,WW,Ze,reduceCtorEq,Nat.reduceAdd,Nat.reduceMul,Nat.reduceLeDiff,Nat.reduceLT,Nat.reduceEqDiff];try trivial) ⟨0,by omega,by omega,by omega,rfl,rfl⟩ ?_
 rintro n fr L ⟨k,hk,rfl,hno,rfl,rfl⟩
 simp only [ir_chaseref1_MergeDeeds_L0,ZZ,WW,Ze,reduceCtorEq,Nat.reduceAdd,Nat.reduceMul,Nat.reduceLeDiff,Nat.reduceLT,Nat.reduceEqDiff]
 have hml:(mrgF (q.take k)).length≤200000:=Nat.le_trans (mrg_len _) (Nat.le_trans (List.length_take_le _ _) (by omega))
 refine br ?_ ?_
 ·intro h
  have hlt:k < q.length:=by have:=of_decide_eq_true h;omega
  obtain ⟨d,hd⟩:∃ d,q[k]?=some d:=⟨_,List.getElem?_eq_getElem hlt⟩
  have hg:=ddE_get hd
  have hn:=mrg_next hd
  have hci:cnfI q k=cnfX d (findD (mrgF (q.take k)) d.site d.no):=by unfold cnfI;rw [hd]
  generalize mrgF (q.take k)=out at *
  simp only [ZZ,WW,Ze,reduceCtorEq,Nat.reduceAdd,Nat.reduceMul,Nat.reduceLeDiff,Nat.reduceLT,Nat.reduceEqDiff,hg,ddE_len,ddC]
  refine ⟨⟨by omega,by omega⟩,by omega,?_⟩
  refine useDD (deedOf_ok out d.site d.no (by omega)) rfl ?_
  cases hx:findD out d.site d.no with
  |none=>
   have hn:mrgF (q.take (k+1))=out++[d]:=by rw [hn,mrgS,hx];rfl
   have hci:cnfI q k=false:=by rw [hci,hx];rfl
   have hn2:ddE (mrgF (q.take (k+1)))=ddE out++[ddC d]:=by rw [hn,← ddE_app];rfl
   simp only [ZZ,WW,Ze,reduceCtorEq,Nat.reduceAdd,Nat.reduceMul,Nat.reduceLeDiff,Nat.reduceLT,Nat.reduceEqDiff,Option.getD_none,Option.isSome_none,dd0,ddC,ddE_len,Bool.false_and]
   refine ⟨by omega,?_⟩
   refine cut_same zE_ ?_
   simp only [ZZ,WW,Ze,reduceCtorEq,Nat.reduceAdd,Nat.reduceMul,Nat.reduceLeDiff,Nat.reduceLT,Nat.reduceEqDiff]
   refine ⟨i64_of (by omega) (by omega),?_⟩
   refine end_round (q.length - (k+1)) [oo,oo,oo,oo,oo,oo,.row (.l 6),oo,oo,oo,oo,oo,oo,oo,oo,oo,oo,oo,oo,.row (.l 19),.p (int (q.length:Nat)),.p (int ((k+1):Nat)),oo,oo,oo,oo,oo,oo,oo,oo,oo,oo,oo,oo,oo,oo,oo,oo,oo,oo,oo,oo,oo,oo,oo,oo,oo,oo,oo,oo,oo,oo,oo,oo,oo,oo] [(.l 6,.row (ddE (mrgF (q.take (k+1)))) tDd 12 true),(.l 19,.row (ddE q) tDd 12 true)] (by omega) (by (simp only [ZZ,WW,Ze,reduceCtorEq,Nat.reduceAdd,Nat.reduceMul,Nat.reduceLeDiff,Nat.reduceLT,Nat.reduceEqDiff];try trivial)) (by rw [hn2];simp only [ZZ,WW,Ze,reduceCtorEq,Nat.reduceAdd,Nat.reduceMul,Nat.reduceLeDiff,Nat.reduceLT,Nat.reduceEqDiff,ddC]) ⟨k+1,by omega,rfl,by intro j hj;rcases Nat.lt_or_ge j k with h'|h';exact hno j h';rw [show j=k by omega,hci],rfl,rfl⟩
  |some x=>
   have hn:mrgF (q.take (k+1))=out:=by rw [hn,mrgS,hx];rfl
   simp only [ZZ,WW,Ze,reduceCtorEq,Nat.reduceAdd,Nat.reduceMul,Nat.reduceLeDiff,Nat.reduceLT,Nat.reduceEqDiff,Option.getD_some,Option.isSome_some,ddC,Bool.true_and]
   rw [ddC_eq]
   refine br ?_ ?_
   ·intro h2
    have hci:cnfI q k=true:=by rw [hci,hx];exact h2
    rw [if_pos (cnf_yes hlt hci)]
    simp only [ZZ,WW,Ze,reduceCtorEq,Nat.reduceAdd,Nat.reduceMul,Nat.reduceLeDiff,Nat.reduceLT,Nat.reduceEqDiff]
    rfl
   intro h2
   have hci:cnfI q k=false:=by rw [hci,hx];exact h2
   simp only [ZZ,WW,Ze,reduceCtorEq,Nat.reduceAdd,Nat.reduceMul,Nat.reduceLeDiff,Nat.reduceLT,Nat.reduceEqDiff]
   refine cut_same zE_ ?_
   simp only [ZZ,WW,Ze,reduceCtorEq,Nat.reduceAdd,Nat.reduceMul,Nat.reduceLeDiff,Nat.reduceLT,Nat.reduceEqDiff]
   refine ⟨i64_of (by omega) (by omega),?_⟩
   refine end_round (q.length - (k+1)) [oo,oo,oo,oo,oo,oo,.row (.l 6),oo,oo,oo,oo,oo,oo,oo,oo,oo,oo,oo,oo,.row (.l 19),.p (int (q.length:Nat)),.p (int ((k+1):Nat)),oo,oo,oo,oo,oo,oo,oo,oo,oo,oo,oo,oo,oo,oo,oo,oo,oo,oo,oo,oo,oo,oo,oo,oo,oo,oo,oo,oo,oo,oo,oo,oo,oo,oo] [(.l 6,.row (ddE (mrgF (q.take (k+1)))) tDd 12 true),(.l 19,.row (ddE q) tDd 12 true)] (by omega) (by (simp only [ZZ,WW,Ze,reduceCtorEq,Nat.reduceAdd,Nat.reduceMul,Nat.reduceLeDiff,Nat.reduceLT,Nat.reduceEqDiff];try trivial)) (by rw [hn];simp only [ZZ,WW,Ze,reduceCtorEq,Nat.reduceAdd,Nat.reduceMul,Nat.reduceLeDiff,Nat.reduceLT,Nat.reduceEqDiff]) ⟨k+1,by omega,rfl,by intro j hj;rcases Nat.lt_or_ge j k with h'|h';exact hno j h';rw [show j=k by omega,hci],rfl,rfl⟩
 ·intro h
  have hge:q.length≤k:=by have:=of_decide_eq_false h;omega
  rw [List.take_of_length_le hge] at *
  have hmb:DdsB (mrgF q):=fun x hx=>hQB x (mrg_mem hx)
  simp only [ZZ,WW,Ze,reduceCtorEq,Nat.reduceAdd,Nat.reduceMul,Nat.reduceLeDiff,Nat.reduceLT,Nat.reduceEqDiff]
  have hcn:cnfF q=false:=cnf_no fun j hj=>hno j (by omega)
  rw [if_neg (by rw [hcn];simp)]
  refine useR (stamp_srt ED (mrgF q) (by omega) (mrg_unq q)) rfl rfl rfl zE_ ?_
  rintro z es' ⟨rfl,rfl⟩
  have hp:=srt_perm (mrgF q)
  generalize srtD (mrgF q)=l' at *
  have hlb:DdsB l':=fun x hx=>hmb x (hp.mem_iff.1 hx)
  have hll:l'.length≤200000:=by rw [hp.length_eq];exact hml
  simp only [ZZ,WW,Ze,reduceCtorEq,Nat.reduceAdd,Nat.reduceMul,Nat.reduceLeDiff,Nat.reduceLT,Nat.reduceEqDiff]
  refine use1 (DeedsFault_ok l' hlb (by omega)) rfl (.inr rfl) ?_
  simp only [ZZ,WW,Ze,reduceCtorEq,Nat.reduceAdd,Nat.reduceMul,Nat.reduceLeDiff,Nat.reduceLT,Nat.reduceEqDiff]
  refine br ?_ ?_
  ·intro h
   have h:¬ (ckdF l').2=0:=by simpa using h
   rw [if_pos h]
   simp only [ZZ,WW,Ze,reduceCtorEq,Nat.reduceAdd,Nat.reduceMul,Nat.reduceLeDiff,Nat.reduceLT,Nat.reduceEqDiff]
   rfl
  ·intro h
   have h:(ckdF l').2=0:=by simpa using h
   rw [if_neg (fun e=>e h)]
   simp only [ZZ,WW,Ze,reduceCtorEq,Nat.reduceAdd,Nat.reduceMul,Nat.reduceLeDiff,Nat.reduceLT,Nat.reduceEqDiff]
theorem RD.merge {c:Int} {a b:List Dd} (ha:RD c a) (hb:RD c b):RD c (mrgV a b).1:=by
 unfold mrgV
 split
 ·exact RD.nil _
 split
 ·exact RD.nil _
 split
 ·exact RD.nil _
 ·rename_i h0
  have h0:(ckdF (srtD (mrgF (a++b)))).2=0:=by simpa using h0
  have hp:=srt_perm (mrgF (a++b))
  generalize srtD (mrgF (a++b))=l' at *
  obtain ⟨h1,h2⟩:=rgt_of h0
  have hm:∀ x∈l',x∈a∨x∈b:=fun x hx=>List.mem_append.1 (mrg_mem (hp.mem_iff.1 hx))
  exact ⟨h1,fun x hx=>(hm x hx).elim (ha.b x) (hb.b x),h2,(fun x hx=>(hm x hx).elim (ha.n x) (hb.n x)),fun x hx=>(hm x hx).elim (ha.t x) (hb.t x)⟩
end Go.Proofs.YtinffddgojhdfaaGreatDoor
