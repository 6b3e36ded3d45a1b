import Derived.Test.YtehfjlpenlffmaaGreatDoorZ10
import Derived.Test.YtehfjlpenlffmaaGreatDoorZ7
import Derived.Test.YtehfjlpenlffmaaGreatDoorZ9
import Derived.Test.YtehfjlpenlffmaaGreatDoorLaySorted
import Derived.Test.YtehfjlpenlffmaaGreatDoorLayKeysItB
import Derived.Test.YtehfjlpenlffmaaGreatDoorLayKeysB
import Derived.Test.YtehfjlpenlffmaaGreatDoorZ8
set_option linter.unusedVariables false
set_option linter.unusedSimpArgs false
set_option linter.defProp false
namespace Go.Proofs.YtehfjlpenlffmaaGreatDoor
open Go.RowKit
def ir_thread_shown_L1:IC:=(.seq (.seq (.reg [qM 26 5,qO 27 (.bin .lss (.t 26) (.c (.int .i64 12)))]) (.cond (.t 27) .skip (.exit 2))) (.block 3 (.seq (.reg [qM 29 4,qM 30 5,qO 31 (.bin .add (.t 30) (.c (.int .i64 1))),qO 32 (.call 187 [.t 29,.t 31,.c (.int .i64 1)]),qM 28 32,qO 33 (.ext 0 (.t 28)),qO 34 (.ext 1 (.t 28)),qM 8 33,qM 9 34]) (.seq (.seq (.reg [qM 35 8,qM 36 3,qO 37 (.bin .gtr (.t 35) (.t 36))]) (.cond (.t 37) (.exit 2) .skip)) (.reg [qM 38 5,qO 39 (.bin .add (.t 38) (.c (.int .i64 1))),qM 5 39])))))
def ir_thread_shown_L0:IC:=(.block 1 (.seq (.reg [qM 16 4,qO 17 (.bin .add (.t 16) (.c (.int .i64 1))),qO 18 (.call 187 [.t 17,.c (.int .i64 1),.c (.int .i64 1)]),qM 15 18,qO 19 (.ext 0 (.t 15)),qO 20 (.ext 1 (.t 15)),qM 6 19,qM 7 20]) (.seq (.seq (.reg [qM 21 6,qM 22 3,qO 23 (.bin .gtr (.t 21) (.t 22))]) (.cond (.t 23) (.exit 0) .skip)) (.reg [qM 24 4,qO 25 (.bin .add (.t 24) (.c (.int .i64 1))),qM 4 25]))))
def ir_thread_shown:IC:=(.seq (.reg [qO 2 (.mov (.c (.str [])))]) (.seq (.reg [qM 13 0,qO 14 (.bin .quo (.t 13) (.c (.int .i64 1440))),qM 3 14]) (.seq (.reg [qO 4 (.mov (.c (.int .i64 2024))),qO 5 (.mov (.c (.int .i64 1)))]) (.seq (.block 0 (.loop ir_thread_shown_L0)) (.seq (.block 2 (.loop ir_thread_shown_L1)) (.cut (.seq (.reg [qM 41 4,qM 42 5,qO 43 (.call 187 [.t 41,.t 42,.c (.int .i64 1)]),qM 40 43,qO 44 (.ext 0 (.t 40)),qO 45 (.ext 1 (.t 40)),qM 10 44,qM 11 45]) (.seq (.reg [qM 46 0,qO 47 (.bin .rem (.t 46) (.c (.int .i64 1440))),qM 12 47]) (.seq (.drg [qM 48 3,qO 49 (.bin .rem (.t 48) (.c (.int .i64 7))),qO 50 (.bin .mul (.c (.int .i64 3)) (.t 49)),qM 51 3,qO 52 (.bin .rem (.t 51) (.c (.int .i64 7))),qO 53 (.bin .mul (.c (.int .i64 3)) (.t 52)),qO 54 (.bin .add (.t 53) (.c (.int .i64 3))),qO 55 (.ssl (.c (.str [77,111,110,84,117,101,87,101,100,84,104,117,70,114,105,83,97,116,83,117,110])) (some (.t 50)) (some (.t 54))),qO 56 (.bin .add (.t 55) (.c (.str [44,32]))),qM 57 3,qM 58 10,qO 59 (.bin .sub (.t 57) (.t 58)),qO 60 (.bin .add (.t 59) (.c (.int .i64 1))),qO 61 (.pcall 0 188 [.t 60]),qO 62 (.bin .add (.t 56) (.t 61)),qO 63 (.bin .add (.t 62) (.c (.str [32]))),qM 64 5,qO 65 (.bin .mul (.c (.int .i64 3)) (.t 64)),qO 66 (.bin .sub (.t 65) (.c (.int .i64 3))),qM 67 5,qO 68 (.bin .mul (.c (.int .i64 3)) (.t 67)),qO 69 (.ssl (.c (.str [74,97,110,70,101,98,77,97,114,65,112,114,77,97,121,74,117,110,74,117,108,65,117,103,83,101,112,79,99,116,78,111,118,68,101,99])) (some (.t 66)) (some (.t 68))),qO 70 (.bin .add (.t 63) (.t 69)),qO 71 (.bin .add (.t 70) (.c (.str [32]))),qM 72 4,qO 73 (.pcall 1 188 [.t 72]),qO 74 (.bin .add (.t 71) (.t 73)),qO 75 (.bin .add (.t 74) (.c (.str [32]))),qM 76 12,qO 77 (.bin .quo (.t 76) (.c (.int .i64 60))),qO 78 (.pcall 2 189 [.t 77]),qO 79 (.bin .add (.t 75) (.t 78)),qO 80 (.bin .add (.t 79) (.c (.str [58]))),qM 81 12,qO 82 (.bin .rem (.t 81) (.c (.int .i64 60))),qO 83 (.pcall 3 189 [.t 82]),qO 84 (.bin .add (.t 80) (.t 83)),qO 85 (.bin .add (.t 84) (.c (.str [32,43,48,48,48,48]))),qM 2 85]) .ret)))))))))
def rs_thread_shown:List IRes:=[.t 2]
theorem ck_thread_shown:chkF Tryz.prog Tryz.f112 ir_thread_shown rs_thread_shown 86=true:=by kernel_rfl
def ir_chaseref1_DateText_L0:IC:=(.seq (.seq (.reg [qM 10 6,qM 11 4,qM 12 5,qO 13 (.call 194 [.t 11,.t 12]),qO 14 (.bin .geq (.t 10) (.t 13))]) (.cond (.t 14) .skip (.exit 0))) (.block 1 (.seq (.reg [qM 15 6,qM 16 4,qM 17 5,qO 18 (.call 194 [.t 16,.t 17]),qO 19 (.bin .sub (.t 15) (.t 18)),qM 6 19]) (.seq (.reg [qM 20 5,qO 21 (.bin .add (.t 20) (.c (.int .i64 1))),qM 5 21]) (.seq (.reg [qM 22 5,qO 23 (.bin .gtr (.t 22) (.c (.int .i64 12)))]) (.cond (.t 23) (.reg [qM 24 4,qO 25 (.bin .add (.t 24) (.c (.int .i64 1))),qM 4 25,qO 5 (.mov (.c (.int .i64 1)))]) .skip))))))
def ir_chaseref1_DateText:IC:=(.seq (.reg [qO 2 (.mov (.c (.str [])))]) (.seq (.reg [qM 7 0,qO 8 (.bin .quo (.t 7) (.c (.int .i64 1440))),qM 3 8]) (.seq (.reg [qO 4 (.mov (.c (.int .i64 2024))),qO 5 (.mov (.c (.int .i64 1)))]) (.seq (.reg [qM 9 3,qM 6 9]) (.seq (.block 0 (.loop ir_chaseref1_DateText_L0)) (.seq (.drg [qO 26 (.pcall 0 195 []),qM 27 3,qO 28 (.bin .rem (.t 27) (.c (.int .i64 7))),qO 29 (.ixa 1 (.t 26) (.t 28)),qO 30 (.ld 1 false (.t 29)),qO 31 (.bin .add (.t 30) (.c (.str [44,32]))),qM 32 6,qO 33 (.bin .add (.t 32) (.c (.int .i64 1))),qO 34 (.pcall 1 188 [.t 33]),qO 35 (.bin .add (.t 31) (.t 34)),qO 36 (.bin .add (.t 35) (.c (.str [32]))),qO 37 (.pcall 2 196 []),qM 38 5,qO 39 (.bin .sub (.t 38) (.c (.int .i64 1))),qO 40 (.ixa 1 (.t 37) (.t 39)),qO 41 (.ld 1 false (.t 40)),qO 42 (.bin .add (.t 36) (.t 41)),qO 43 (.bin .add (.t 42) (.c (.str [32]))),qM 44 4,qO 45 (.pcall 3 188 [.t 44]),qO 46 (.bin .add (.t 43) (.t 45)),qO 47 (.bin .add (.t 46) (.c (.str [32]))),qM 48 0,qO 49 (.bin .rem (.t 48) (.c (.int .i64 1440))),qO 50 (.bin .quo (.t 49) (.c (.int .i64 60))),qO 51 (.pcall 4 197 [.t 50]),qO 52 (.bin .add (.t 47) (.t 51)),qO 53 (.bin .add (.t 52) (.c (.str [58]))),qM 54 0,qO 55 (.bin .rem (.t 54) (.c (.int .i64 60))),qO 56 (.pcall 5 197 [.t 55]),qO 57 (.bin .add (.t 53) (.t 56)),qO 58 (.bin .add (.t 57) (.c (.str [32,43,48,48,48,48]))),qM 2 58]) .ret))))))
def rs_chaseref1_DateText:List IRes:=[.t 2]
theorem ck_chaseref1_DateText:chkF Tryz.prog Tryz.f119 ir_chaseref1_DateText rs_chaseref1_DateText 59=true:=by kernel_rfl
def Dn (i:Nat):Int:=daysN (2024+(i / 12:Nat)) ((i % 12:Nat)+1) 1
theorem Dn_eq (i:Nat):Dn i=mS (2024+(i / 12:Nat)) (i % 12)+yS 2024 (i / 12):=by
 unfold Dn daysN
 have e1:(((i % 12:Nat):Int)+1 - 1).toNat=i % 12:=by omega
 have e2:(2024+((i / 12:Nat):Int) - 2024).toNat=i / 12:=by omega
 have e3:(2024 - (2024+((i / 12:Nat):Int))).toNat=0:=by omega
 rw [e1,e2,e3,yS]
 omega
theorem mS12 (y:Int):mS y 12=ylen y:=by
 simp only [mS,mlen,ylen]
 cases leapY y<;>decide
theorem Dn_next (i:Nat):Dn (i+1)=Dn i+mlen (2024+(i / 12:Nat)) ((i % 12:Nat)+1):=by
 rw [Dn_eq,Dn_eq]
 by_cases h:i % 12=11
 ·have e1:(i+1) / 12=i / 12+1:=by omega
  have e2:(i+1) % 12=0:=by omega
  have h12:=mS12 (2024+(i / 12:Nat))
  rw [mS] at h12
  rw [e1,e2,h,yS,mS,← h12]
  have e3:((11+1:Nat):Int)=((11:Nat):Int)+1:=rfl
  rw [e3]
  omega
 ·have e1:(i+1) / 12=i / 12:=by omega
  have e2:(i+1) % 12=i % 12+1:=by omega
  rw [e1,e2,mS]
  have e3:((i % 12+1:Nat):Int)=((i % 12:Nat):Int)+1:=by omega
  rw [e3]
  omega
theorem Dn_zero:Dn 0=0:=by decide
theorem Dn_mono:∀ (k i:Nat),Dn i+28 * (k:Int)≤Dn (i+k)
 |0,i=>by simp
 |k+1,i=>by
  have h1:=Dn_mono k i
  have h2:=Dn_next (i+k)
  have h3:=(mlen_b (2024+((i+k) / 12:Nat)) (((i+k) % 12:Nat)+1)).1
  rw [← Nat.add_assoc]
  omega
theorem Dn_ge (i:Nat):28 * (i:Int)≤Dn i:=by
 have:=Dn_mono i 0
 rw [Dn_zero,Nat.zero_add] at this
 omega
theorem Dn_lt {i j:Nat} (h:i < j):Dn i < Dn j:=by
 have:=Dn_mono (j - i) i
 rw [show i+(j - i)=j from by omega] at this
 omega
theorem Dn_uniq {i j:Nat} {n:Int} (h1:Dn i≤n) (h2:n < Dn (i+1)) (h3:Dn j≤n) (h4:n < Dn (j+1)):i=j:=by
 rcases Nat.lt_trichotomy i j with h|h|h
 ·have:Dn (i+1)≤Dn j:=by
   rcases Nat.lt_or_eq_of_le (Nat.succ_le_of_lt h) with h5|h5
   ·exact Int.le_of_lt (Dn_lt h5)
   ·rw [← h5];exact Int.le_refl _
  omega
 ·exact h
 ·have:Dn (j+1)≤Dn i:=by
   rcases Nat.lt_or_eq_of_le (Nat.succ_le_of_lt h) with h5|h5
   ·exact Int.le_of_lt (Dn_lt h5)
   ·rw [← h5];exact Int.le_refl _
  omega
theorem Dn_ex (n:Nat):∃ i,Dn i≤(n:Int)∧(n:Int) < Dn (i+1):=by
 have key:∀ k:Nat,(∃ i,Dn i≤(n:Int)∧(n:Int) < Dn (i+1))∨Dn k≤(n:Int):=by
  intro k
  induction k with
  |zero=>right;rw [Dn_zero];omega
  |succ k ih=>
   rcases ih with ih|ih
   ·exact .inl ih
   ·by_cases h:(n:Int) < Dn (k+1)
    ·exact .inl ⟨k,ih,h⟩
    ·right;omega
 rcases key (n+1) with h|h
 ·exact h
 ·have:=Dn_ge (n+1)
  omega
def dtText (m i:Nat):List UInt8:=
 ((((((((((dayL.getD (m / 1440 % 7) []++[44,32])++Lib.itoa (((m / 1440:Nat):Int) - Dn i+1))++[32])++monL.getD (i % 12) [])++[32])++Lib.itoa (2024+(i / 12:Nat)))++[32])++twoS (m % 1440 / 60))++[58])++twoS (m % 60))++[32,43,48,48,48,48]
theorem day_len (k:Nat):(dayL.getD k []).length≤3:=by
 cases h:dayL[k]? with
 |none=>simp [List.getD,h]
 |some x=>
  have:∀ x∈dayL,x.length≤3:=by decide
  have:=this x (List.mem_of_getElem? h)
  simpa [List.getD,h] using this
theorem mon_len (k:Nat):(monL.getD k []).length≤3:=by
 cases h:monL[k]? with
 |none=>simp [List.getD,h]
 |some x=>
  have:∀ x∈monL,x.length≤3:=by decide
  have:=this x (List.mem_of_getElem? h)
  simpa [List.getD,h] using this
theorem dtText_len {m i:Nat} (h0:-1000000≤((m / 1440:Nat):Int) - Dn i) (h1:((m / 1440:Nat):Int) - Dn i≤1000000) (hi:i≤1000000):(dtText m i).length≤80:=by
 unfold dtText
 have a1:=day_len (m / 1440 % 7)
 have a2:=mon_len (i % 12)
 have a3:=Lib.itoa_length_le (((m / 1440:Nat):Int) - Dn i+1) (by omega) (by omega)
 have a4:=Lib.itoa_length_le (2024+(i / 12:Nat)) (by omega) (by omega)
 simp only [List.length_append,List.length_cons,List.length_nil,twoS]
 omega
set_option maxHeartbeats 4000000 in
theorem DateText_ok (m i:Nat) (hm:m≤5761439) (hi1:Dn i≤((m / 1440:Nat):Int)) (hi2:((m / 1440:Nat):Int) < Dn (i+1)):PCall Tryz.prog E6 119 [int (m:Nat)] (·=.str (dtText m i)):=by
 have d1:((m:Nat):Int).tdiv 1440=((m / 1440:Nat):Int):=by rw [Int.tdiv_eq_ediv_of_nonneg (by omega)];rfl
 refine pcallF mixed Tryz.func119 ck_chaseref1_DateText ?_
 simp only [a0,l0,OS.ao,List.map_cons,List.map_nil,List.length_cons,List.length_nil,List.cons_append,List.nil_append,Nat.reduceSub,Nat.reduceAdd,List.replicate_succ,List.replicate_zero,ir_chaseref1_DateText,rs_chaseref1_DateText,ZZ,WW,Ze,reduceCtorEq,Nat.reduceAdd,Nat.reduceMul,Nat.reduceLeDiff,Nat.reduceLT,Nat.reduceEqDiff]
 simp only [ZZ,WW,Ze,reduceCtorEq,Nat.reduceAdd,Nat.reduceMul,Nat.reduceLeDiff,Nat.reduceLT,Nat.reduceEqDiff,d1]
 ((repeat' (with_reducible apply And.intro))<;>try ((exact sc_)))
 obtain ⟨nn,hnn⟩:∃ nn:Nat,nn=m / 1440:=⟨_,rfl⟩
 rw [← hnn] at hi1 hi2 d1 ⊢
 have hn4:nn≤4000:=by omega
 refine loop_intro (fun n fr L=>∃ (j:Nat) (yy:Int) (mm:Int) (cu:Int),((nn:Int) - Dn j).toNat=n∧(Dn j≤(nn:Int))∧(yy=2024+(j / 12:Nat))∧(mm=(j % 12:Nat)+1)∧(cu=(nn:Int) - Dn j)∧fr=[.p (int (m:Nat)),oo,oo,.p (int (nn:Nat)),.p (int yy),.p (int mm),.p (int cu),oo,oo,oo,oo,oo,oo,oo,oo,oo,oo,oo,oo,oo,oo,oo,oo,oo,oo,oo,oo,oo,oo,oo,oo,oo,oo,oo,oo,oo,oo,oo,oo,oo,oo,oo,oo,oo,oo,oo,oo,oo,oo,oo,oo,oo,oo,oo,oo,oo,oo,oo,oo]∧L=[]) (((nn:Int) - Dn 0).toNat) [.p (int (m:Nat)),oo,oo,.p (int (nn:Nat)),.p (int 2024),.p (int 1),.p (int ((nn:Nat))),oo,oo,oo,oo,oo,oo,oo,oo,oo,oo,oo,oo,oo,oo,oo,oo,oo,oo,oo,oo,oo,oo,oo,oo,oo,oo,oo,oo,oo,oo,oo,oo,oo,oo,oo,oo,oo,oo,oo,oo,oo,oo,oo,oo,oo,oo,oo,oo,oo,oo,oo,oo] [] (by (simp only [ZZ,WW,Ze,reduceCtorEq,Nat.reduceAdd,Nat.reduceMul,Nat.reduceLeDiff,Nat.reduceLT,Nat.reduceEqDiff];try trivial)) (by (simp only [ZZ,WW,Ze,reduceCtorEq,Nat.reduceAdd,Nat.reduceMul,Nat.reduceLeDiff,Nat.reduceLT,Nat.reduceEqDiff];try trivial)) ⟨0,2024,1,(nn:Nat),rfl,by rw [Dn_zero];omega,rfl,rfl,by rw [Dn_zero];omega,rfl,rfl⟩ ?_
 rintro n fr L ⟨j,yy,mm,cu,rfl,hj,hy,hmm,hcu,rfl,rfl⟩
 simp only [ir_chaseref1_DateText_L0,ZZ,WW,Ze,reduceCtorEq,Nat.reduceAdd,Nat.reduceMul,Nat.reduceLeDiff,Nat.reduceLT,Nat.reduceEqDiff]
 have hjg:=Dn_ge j
 have hnx:=Dn_next j
 rw [← hy,← hmm] at hnx
 have hmb:=mlen_b yy mm
 refine use1 (mlenR_ok yy mm (by omega) (by omega)) rfl (.inl rfl) ?_
 simp only [ZZ,WW,Ze,reduceCtorEq,Nat.reduceAdd,Nat.reduceMul,Nat.reduceLeDiff,Nat.reduceLT,Nat.reduceEqDiff]
 refine br ?_ ?_
 ·intro h
  have h:mlen yy mm≤cu:=of_decide_eq_true h
  simp only [ZZ,WW,Ze,reduceCtorEq,Nat.reduceAdd,Nat.reduceMul,Nat.reduceLeDiff,Nat.reduceLT,Nat.reduceEqDiff]
  refine use1 (mlenR_ok yy mm (by omega) (by omega)) rfl (.inl rfl) ?_
  simp only [ZZ,WW,Ze,reduceCtorEq,Nat.reduceAdd,Nat.reduceMul,Nat.reduceLeDiff,Nat.reduceLT,Nat.reduceEqDiff]
  ((repeat' (with_reducible apply And.intro))<;>try ((exact sc_)))
  refine br ?_ ?_
  ·intro h12
   have h12:12 < mm+1:=of_decide_eq_true h12
   simp only [ZZ,WW,Ze,reduceCtorEq,Nat.reduceAdd,Nat.reduceMul,Nat.reduceLeDiff,Nat.reduceLT,Nat.reduceEqDiff]
   ((repeat' (with_reducible apply And.intro))<;>try ((exact sc_)))
   refine end_round (((nn:Int) - Dn (j+1)).toNat) [.p (int (m:Nat)),oo,oo,.p (int (nn:Nat)),.p (int (yy+1)),.p (int (1)),.p (int (cu - mlen yy mm)),oo,oo,oo,oo,oo,oo,oo,oo,oo,oo,oo,oo,oo,oo,oo,oo,oo,oo,oo,oo,oo,oo,oo,oo,oo,oo,oo,oo,oo,oo,oo,oo,oo,oo,oo,oo,oo,oo,oo,oo,oo,oo,oo,oo,oo,oo,oo,oo,oo,oo,oo,oo] [] (by omega) (by (simp only [ZZ,WW,Ze,reduceCtorEq,Nat.reduceAdd,Nat.reduceMul,Nat.reduceLeDiff,Nat.reduceLT,Nat.reduceEqDiff];try trivial)) (by (simp only [ZZ,WW,Ze,reduceCtorEq,Nat.reduceAdd,Nat.reduceMul,Nat.reduceLeDiff,Nat.reduceLT,Nat.reduceEqDiff];try trivial)) ⟨j+1,yy+1,1,cu - mlen yy mm,rfl,by omega,by omega,by omega,by omega,rfl,rfl⟩
  ·intro h12
   have h12:¬ 12 < mm+1:=of_decide_eq_false h12
   simp only [ZZ,WW,Ze,reduceCtorEq,Nat.reduceAdd,Nat.reduceMul,Nat.reduceLeDiff,Nat.reduceLT,Nat.reduceEqDiff]
   ((repeat' (with_reducible apply And.intro))<;>try ((exact sc_)))
   refine end_round (((nn:Int) - Dn (j+1)).toNat) [.p (int (m:Nat)),oo,oo,.p (int (nn:Nat)),.p (int (yy)),.p (int (mm+1)),.p (int (cu - mlen yy mm)),oo,oo,oo,oo,oo,oo,oo,oo,oo,oo,oo,oo,oo,oo,oo,oo,oo,oo,oo,oo,oo,oo,oo,oo,oo,oo,oo,oo,oo,oo,oo,oo,oo,oo,oo,oo,oo,oo,oo,oo,oo,oo,oo,oo,oo,oo,oo,oo,oo,oo,oo,oo] [] (by omega) (by (simp only [ZZ,WW,Ze,reduceCtorEq,Nat.reduceAdd,Nat.reduceMul,Nat.reduceLeDiff,Nat.reduceLT,Nat.reduceEqDiff];try trivial)) (by (simp only [ZZ,WW,Ze,reduceCtorEq,Nat.reduceAdd,Nat.reduceMul,Nat.reduceLeDiff,Nat.reduceLT,Nat.reduceEqDiff];try trivial)) ⟨j+1,yy,mm+1,cu - mlen yy mm,rfl,by omega,by omega,by omega,by omega,rfl,rfl⟩
 ·intro h
  have h:¬ mlen yy mm≤cu:=of_decide_eq_false h
  have hji:j=i:=Dn_uniq hj (by omega) hi1 hi2
  subst hji
  have r1:((nn:Nat):Int).tmod 7=((nn % 7:Nat):Int):=by rw [Int.tmod_eq_emod_of_nonneg (by omega)];rfl
  have r2:((m:Nat):Int).tmod 1440=((m % 1440:Nat):Int):=by rw [Int.tmod_eq_emod_of_nonneg (by omega)];rfl
  have r3:((m % 1440:Nat):Int).tdiv 60=((m % 1440 / 60:Nat):Int):=by rw [Int.tdiv_eq_ediv_of_nonneg (by omega)];rfl
  have r4:((m:Nat):Int).tmod 60=((m % 60:Nat):Int):=by rw [Int.tmod_eq_emod_of_nonneg (by omega)];rfl
  have q1:((nn % 7:Nat):Int).toNat=nn % 7:=by omega
  have q2:(mm - 1).toNat=j % 12:=by omega
  have dl:dayL.length=7:=rfl
  have ml:monL.length=12:=rfl
  have t1:(strE dayL).getD (nn % 7) []=[.str (dayL.getD (nn % 7) [])]:=strE_get (by rw [List.getD,List.getElem?_eq_getElem (by omega)];rfl)
  have t2:(strE monL).getD (j % 12) []=[.str (monL.getD (j % 12) [])]:=strE_get (by rw [List.getD,List.getElem?_eq_getElem (by omega)];rfl)
  have a1:=day_len (nn % 7)
  have a2:=mon_len (j % 12)
  have a3:=Lib.itoa_length_le (cu+1) (by omega) (by omega)
  have a4:=Lib.itoa_length_le yy (by omega) (by omega)
  have k1:=Itoa_ok6 (cu+1) (by omega) (by omega)
  have k2:=Itoa_ok6 yy (by omega) (by omega)
  have k3:=twoR_ok (E:=E6) (m % 1440 / 60) (by omega)
  have k4:=twoR_ok (E:=E6) (m % 60) (by omega)
  have b3:(twoS (m % 1440 / 60)).length=2:=rfl
  have b4:(twoS (m % 60)).length=2:=rfl
  have hfin:dtText m j=((((((((((dayL.getD (nn % 7) []++[44,32])++Lib.itoa (cu+1))++[32])++monL.getD (j % 12) [])++[32])++Lib.itoa yy)++[32])++twoS (m % 1440 / 60))++[58])++twoS (m % 60))++[32,43,48,48,48,48]:=by
   rw [dtText,← hnn,← hcu,← hy]
  rw [hfin]
  generalize dayL.getD (nn % 7) []=s1 at *
  generalize monL.getD (j % 12) []=s2 at *
  generalize Lib.itoa (cu+1)=s3 at *
  generalize Lib.itoa yy=s4 at *
  generalize twoS (m % 1440 / 60)=s5 at *
  generalize twoS (m % 60)=s6 at *
  simp only [ZZ,WW,Ze,reduceCtorEq,Nat.reduceAdd,Nat.reduceMul,Nat.reduceLeDiff,Nat.reduceLT,Nat.reduceEqDiff]
  refine drg6 (x1:=.sl 1 (strE dayL)) (x2:=.str s3) (x3:=.sl 1 (strE monL)) (x4:=.str s4) (x5:=.str s5) (x6:=.str s6) ?_
  simp only [ZZ,WW,Ze,reduceCtorEq,Nat.reduceAdd,Nat.reduceMul,Nat.reduceLeDiff,Nat.reduceLT,Nat.reduceEqDiff,strE_len,r1,r2,r3,r4,q1,q2,t1,t2,dl,ml,List.length_append,List.length_cons,List.length_nil]
  refine ⟨usep dayNames_ok rfl (.inl rfl),by decide,⟨by omega,by omega⟩,by omega,by omega,i64_of (by omega) (by omega),usep k1 rfl (.inl rfl),by omega,by omega,usep monthNames_ok rfl (.inl rfl),i64_of (by omega) (by omega),⟨by omega,by omega⟩,by omega,by omega,by omega,usep k2 rfl (.inl rfl),by omega,by omega,by decide,⟨by decide,i64_of (by omega) (by omega)⟩,usep k3 rfl (.inl rfl),by omega,by omega,by decide,usep k4 rfl (.inl rfl),by omega,by omega⟩
theorem wk_at (k:Nat) (h:k < 7):(([77,111,110,84,117,101,87,101,100,84,104,117,70,114,105,83,97,116,83,117,110]:List UInt8).take (3 * k+3)).drop (3 * k)=dayL.getD k []:=by
 have:∀ i:Fin 7,(([77,111,110,84,117,101,87,101,100,84,104,117,70,114,105,83,97,116,83,117,110]:List UInt8).take (3 * i.val+3)).drop (3 * i.val)=dayL.getD i.val []:=by decide
 exact this ⟨k,h⟩
theorem mo_at (k:Nat) (h:k < 12):(([74,97,110,70,101,98,77,97,114,65,112,114,77,97,121,74,117,110,74,117,108,65,117,103,83,101,112,79,99,116,78,111,118,68,101,99]:List UInt8).take (3 * k+3)).drop (3 * k)=monL.getD k []:=by
 have:∀ i:Fin 12,(([74,97,110,70,101,98,77,97,114,65,112,114,77,97,121,74,117,110,74,117,108,65,117,103,83,101,112,79,99,116,78,111,118,68,101,99]:List UInt8).take (3 * i.val+3)).drop (3 * i.val)=monL.getD i.val []:=by decide
 exact this ⟨k,h⟩
theorem Dn_at (j r:Nat) (hr:r < 12):daysN (2024+(j:Nat)) ((r:Nat)+1) 1=Dn (12 * j+r):=by
 unfold Dn
 rw [show (12 * j+r) / 12=j from by omega,show (12 * j+r) % 12=r from by omega]
set_option maxHeartbeats 4000000 in
theorem shown_ok (m i:Nat) (hm:m≤5761439) (hi1:Dn i≤((m / 1440:Nat):Int)) (hi2:((m / 1440:Nat):Int) < Dn (i+1)):PCall Tryz.prog E6 112 [int (m:Nat)] (·=.str (dtText m i)):=by
 have d1:((m:Nat):Int).tdiv 1440=((m / 1440:Nat):Int):=by rw [Int.tdiv_eq_ediv_of_nonneg (by omega)];rfl
 refine pcallF mixed Tryz.func112 ck_thread_shown ?_
 simp only [a0,l0,OS.ao,List.map_cons,List.map_nil,List.length_cons,List.length_nil,List.cons_append,List.nil_append,Nat.reduceSub,Nat.reduceAdd,List.replicate_succ,List.replicate_zero,ir_thread_shown,rs_thread_shown,ZZ,WW,Ze,reduceCtorEq,Nat.reduceAdd,Nat.reduceMul,Nat.reduceLeDiff,Nat.reduceLT,Nat.reduceEqDiff]
 simp only [ZZ,WW,Ze,reduceCtorEq,Nat.reduceAdd,Nat.reduceMul,Nat.reduceLeDiff,Nat.reduceLT,Nat.reduceEqDiff,d1]
 ((repeat' (with_reducible apply And.intro))<;>try ((exact sc_)))
 obtain ⟨nn,hnn⟩:∃ nn:Nat,nn=m / 1440:=⟨_,rfl⟩
 rw [← hnn] at hi1 hi2 d1 ⊢
 have hn4:nn≤4000:=by omega
 refine loop_intro (fun n fr L=>∃ (j:Nat) (yy:Int),((nn:Int)+1 - Dn (12 * j)).toNat=n∧(Dn (12 * j)≤(nn:Int))∧(yy=2024+(j:Nat))∧fr=[.p (int (m:Nat)),oo,oo,.p (int (nn:Nat)),.p (int yy),.p (int 1),oo,oo,oo,oo,oo,oo,oo,oo,oo,oo,oo,oo,oo,oo,oo,oo,oo,oo,oo,oo,oo,oo,oo,oo,oo,oo,oo,oo,oo,oo,oo,oo,oo,oo,oo,oo,oo,oo,oo,oo,oo,oo,oo,oo,oo,oo,oo,oo,oo,oo,oo,oo,oo,oo,oo,oo,oo,oo,oo,oo,oo,oo,oo,oo,oo,oo,oo,oo,oo,oo,oo,oo,oo,oo,oo,oo,oo,oo,oo,oo]∧L=[]) (((nn:Int)+1 - Dn (12 * 0)).toNat) [.p (int (m:Nat)),oo,oo,.p (int (nn:Nat)),.p (int 2024),.p (int 1),oo,oo,oo,oo,oo,oo,oo,oo,oo,oo,oo,oo,oo,oo,oo,oo,oo,oo,oo,oo,oo,oo,oo,oo,oo,oo,oo,oo,oo,oo,oo,oo,oo,oo,oo,oo,oo,oo,oo,oo,oo,oo,oo,oo,oo,oo,oo,oo,oo,oo,oo,oo,oo,oo,oo,oo,oo,oo,oo,oo,oo,oo,oo,oo,oo,oo,oo,oo,oo,oo,oo,oo,oo,oo,oo,oo,oo,oo,oo,oo] [] (by (simp only [ZZ,WW,Ze,reduceCtorEq,Nat.reduceAdd,Nat.reduceMul,Nat.reduceLeDiff,Nat.reduceLT,Nat.reduceEqDiff];try trivial)) (by (simp only [ZZ,WW,Ze,reduceCtorEq,Nat.reduceAdd,Nat.reduceMul,Nat.reduceLeDiff,Nat.reduceLT,Nat.reduceEqDiff];try trivial)) ⟨0,2024,rfl,by rw [Dn_zero];omega,rfl,rfl,rfl⟩ ?_
 rintro n fr L ⟨j,yy,rfl,hj,hy,rfl,rfl⟩
 simp only [ir_thread_shown_L0,ZZ,WW,Ze,reduceCtorEq,Nat.reduceAdd,Nat.reduceMul,Nat.reduceLeDiff,Nat.reduceLT,Nat.reduceEqDiff]
 have hjg:=Dn_ge (12 * j)
 have hD:=days_ok (E:=E6) (yy+1) 1 1 (by omega) (by omega) (by decide) (by decide)
 have hin:inE 1 1 (mlen (yy+1) 1)=true:=by
  have:=mlen_b (yy+1) 1
  simp only [inE,Bool.and_eq_true,decide_eq_true_eq]
  omega
 have hDa:daysN (yy+1) 1 1=Dn (12 * (j+1)):=by
  have:=Dn_at (j+1) 0 (by decide)
  rw [hy]
  have e:(2024+((j:Nat):Int)+1)=2024+((j+1:Nat):Int):=by omega
  rw [e]
  exact this
 have hmo:=Dn_mono 12 (12 * j)
 rw [show 12 * j+12=12 * (j+1) from by omega] at hmo
 rw [if_pos hin,hDa] at hD
 ((repeat' (with_reducible apply And.intro))<;>try ((exact sc_)))
 refine use1 hD rfl (.inl rfl) ?_
 simp only [ZZ,WW,Ze,reduceCtorEq,Nat.reduceAdd,Nat.reduceMul,Nat.reduceLeDiff,Nat.reduceLT,Nat.reduceEqDiff]
 refine br ?_ ?_
 ·intro h
  have h:(nn:Int) < Dn (12 * (j+1)):=of_decide_eq_true h
  simp only [ZZ,WW,Ze,reduceCtorEq,Nat.reduceAdd,Nat.reduceMul,Nat.reduceLeDiff,Nat.reduceLT,Nat.reduceEqDiff]
  refine loop_intro (fun n fr L=>∃ (r:Nat) (mm:Int),12 - r=n∧(r < 12)∧(Dn (12 * j+r)≤(nn:Int))∧(mm=(r:Nat)+1)∧fr=[.p (int (m:Nat)),oo,oo,.p (int (nn:Nat)),.p (int yy),.p (int mm),oo,oo,oo,oo,oo,oo,oo,oo,oo,oo,oo,oo,oo,oo,oo,oo,oo,oo,oo,oo,oo,oo,oo,oo,oo,oo,oo,oo,oo,oo,oo,oo,oo,oo,oo,oo,oo,oo,oo,oo,oo,oo,oo,oo,oo,oo,oo,oo,oo,oo,oo,oo,oo,oo,oo,oo,oo,oo,oo,oo,oo,oo,oo,oo,oo,oo,oo,oo,oo,oo,oo,oo,oo,oo,oo,oo,oo,oo,oo,oo]∧L=[]) (12 - 0) [.p (int (m:Nat)),oo,oo,.p (int (nn:Nat)),.p (int yy),.p (int 1),oo,oo,oo,oo,oo,oo,oo,oo,oo,oo,oo,oo,oo,oo,oo,oo,oo,oo,oo,oo,oo,oo,oo,oo,oo,oo,oo,oo,oo,oo,oo,oo,oo,oo,oo,oo,oo,oo,oo,oo,oo,oo,oo,oo,oo,oo,oo,oo,oo,oo,oo,oo,oo,oo,oo,oo,oo,oo,oo,oo,oo,oo,oo,oo,oo,oo,oo,oo,oo,oo,oo,oo,oo,oo,oo,oo,oo,oo,oo,oo] [] (by (simp only [ZZ,WW,Ze,reduceCtorEq,Nat.reduceAdd,Nat.reduceMul,Nat.reduceLeDiff,Nat.reduceLT,Nat.reduceEqDiff];try trivial)) (by (simp only [ZZ,WW,Ze,reduceCtorEq,Nat.reduceAdd,Nat.reduceMul,Nat.reduceLeDiff,Nat.reduceLT,Nat.reduceEqDiff];try trivial)) ⟨0,1,rfl,by decide,hj,rfl,rfl,rfl⟩ ?_
  rintro n fr L ⟨r,mm,rfl,hr,hrj,hmm,rfl,rfl⟩
  simp only [ir_thread_shown_L1,ZZ,WW,Ze,reduceCtorEq,Nat.reduceAdd,Nat.reduceMul,Nat.reduceLeDiff,Nat.reduceLT,Nat.reduceEqDiff]
  refine br ?_ ?_
  ·intro hlt12
   have hlt12:mm < 12:=of_decide_eq_true hlt12
   have hD2:=days_ok (E:=E6) yy (mm+1) 1 (by omega) (by omega) (by omega) (by omega)
   have hin3:inE 1 1 (mlen yy (mm+1))=true:=by
    have:=mlen_b yy (mm+1)
    simp only [inE,Bool.and_eq_true,decide_eq_true_eq]
    omega
   have hDb:daysN yy (mm+1) 1=Dn (12 * j+(r+1)):=by
    have:=Dn_at j (r+1) (by omega)
    rw [hy,hmm]
    exact this
   rw [if_pos hin3,hDb] at hD2
   simp only [ZZ,WW,Ze,reduceCtorEq,Nat.reduceAdd,Nat.reduceMul,Nat.reduceLeDiff,Nat.reduceLT,Nat.reduceEqDiff]
   ((repeat' (with_reducible apply And.intro))<;>try ((exact sc_)))
   refine use1 hD2 rfl (.inl rfl) ?_
   simp only [ZZ,WW,Ze,reduceCtorEq,Nat.reduceAdd,Nat.reduceMul,Nat.reduceLeDiff,Nat.reduceLT,Nat.reduceEqDiff]
   refine br ?_ ?_
   ·intro hlt
    have hlt:(nn:Int) < Dn (12 * j+r+1):=of_decide_eq_true hlt
    simp only [ZZ,WW,Ze,reduceCtorEq,Nat.reduceAdd,Nat.reduceMul,Nat.reduceLeDiff,Nat.reduceLT,Nat.reduceEqDiff]
    have hix:12 * j+r=i:=Dn_uniq hrj hlt hi1 hi2
    subst hix
    have hF:=days_ok (E:=E6) yy mm 1 (by omega) (by omega) (by omega) (by omega)
    have hin2:inE 1 1 (mlen yy mm)=true:=by
     have:=mlen_b yy mm
     simp only [inE,Bool.and_eq_true,decide_eq_true_eq]
     omega
    have hFa:daysN yy mm 1=Dn (12 * j+r):=by rw [hy,hmm];exact Dn_at j r hr
    rw [if_pos hin2,hFa] at hF
    have r1:((nn:Nat):Int).tmod 7=((nn % 7:Nat):Int):=by rw [Int.tmod_eq_emod_of_nonneg (by omega)];rfl
    have r2:((m:Nat):Int).tmod 1440=((m % 1440:Nat):Int):=by rw [Int.tmod_eq_emod_of_nonneg (by omega)];rfl
    have r3:((m % 1440:Nat):Int).tdiv 60=((m % 1440 / 60:Nat):Int):=by rw [Int.tdiv_eq_ediv_of_nonneg (by omega)];rfl
    have r4:((m % 1440:Nat):Int).tmod 60=((m % 60:Nat):Int):=by rw [Int.tmod_eq_emod_of_nonneg (by omega)];omega
    obtain ⟨e1,he1⟩:∃ e1:Nat,e1=3 * (nn % 7):=⟨_,rfl⟩
    obtain ⟨e2,he2⟩:∃ e2:Nat,e2=3 * (nn % 7)+3:=⟨_,rfl⟩
    obtain ⟨e3,he3⟩:∃ e3:Nat,e3=3 * r:=⟨_,rfl⟩
    obtain ⟨e4,he4⟩:∃ e4:Nat,e4=3 * r+3:=⟨_,rfl⟩
    have q1:(3 * ((nn % 7:Nat):Int)).toNat=e1:=by omega
    have q2:(3 * ((nn % 7:Nat):Int)+3).toNat=e2:=by omega
    have q3:(3 * mm - 3).toNat=e3:=by omega
    have q4:(3 * mm).toNat=e4:=by omega
    have t1:=wk_at (nn % 7) (by omega)
    have t2:=mo_at r hr
    rw [← he2,← he1] at t1
    rw [← he4,← he3] at t2
    have hg2:=Dn_ge (12 * j+r)
    have a1:=day_len (nn % 7)
    have a2:=mon_len r
    have a3:=Lib.itoa_length_le ((nn:Int) - Dn (12 * j+r)+1) (by omega) (by omega)
    have a4:=Lib.itoa_length_le yy (by omega) (by omega)
    have k1:=Itoa_ok6 ((nn:Int) - Dn (12 * j+r)+1) (by omega) (by omega)
    have k2:=Itoa_ok6 yy (by omega) (by omega)
    have k3:=two_ok (m % 1440 / 60) (by omega)
    have k4:=two_ok (m % 60) (by omega)
    have b3:(twoS (m % 1440 / 60)).length=2:=rfl
    have b4:(twoS (m % 60)).length=2:=rfl
    have hfin:dtText m (12 * j+r)=((((((((((dayL.getD (nn % 7) []++[44,32])++Lib.itoa ((nn:Int) - Dn (12 * j+r)+1))++[32])++monL.getD r [])++[32])++Lib.itoa yy)++[32])++twoS (m % 1440 / 60))++[58])++twoS (m % 60))++[32,43,48,48,48,48]:=by
     rw [dtText,← hnn,show (12 * j+r) / 12=j from by omega,show (12 * j+r) % 12=r from by omega,← hy]
    rw [hfin]
    refine cut_re _ _ ReOk.refl ?_
    simp only [ZZ,WW,Ze,reduceCtorEq,Nat.reduceAdd,Nat.reduceMul,Nat.reduceLeDiff,Nat.reduceLT,Nat.reduceEqDiff]
    refine use1 hF rfl (.inl rfl) ?_
    generalize dayL.getD (nn % 7) []=s1 at *
    generalize monL.getD r []=s2 at *
    generalize Lib.itoa ((nn:Int) - Dn (12 * j+r)+1)=s3 at *
    generalize Lib.itoa yy=s4 at *
    generalize twoS (m % 1440 / 60)=s5 at *
    generalize twoS (m % 60)=s6 at *
    simp only [ZZ,WW,Ze,reduceCtorEq,Nat.reduceAdd,Nat.reduceMul,Nat.reduceLeDiff,Nat.reduceLT,Nat.reduceEqDiff,r2]
    ((repeat' (with_reducible apply And.intro))<;>try ((exact sc_)))
    refine drg4 (x1:=.str s3) (x2:=.str s4) (x3:=.str s5) (x4:=.str s6) ?_
    simp only [ZZ,WW,Ze,reduceCtorEq,Nat.reduceAdd,Nat.reduceMul,Nat.reduceLeDiff,Nat.reduceLT,Nat.reduceEqDiff,r1,r3,r4,q1,q2,q3,q4,t1,t2,List.length_append,List.length_cons,List.length_nil]
    refine ⟨by decide,i64_of (by omega) (by omega),by decide,i64_of (by omega) (by omega),i64_of (by omega) (by omega),⟨⟨by omega,by omega⟩,by omega,by omega⟩,by omega,i64_of (by omega) (by omega),i64_of (by omega) (by omega),usep k1 rfl (.inl rfl),by omega,by omega,i64_of (by omega) (by omega),i64_of (by omega) (by omega),i64_of (by omega) (by omega),⟨⟨by omega,by omega⟩,by omega,by omega⟩,by omega,by omega,usep k2 rfl (.inl rfl),by omega,by omega,⟨by decide,i64_of (by omega) (by omega)⟩,usep k3 rfl (.inl rfl),by omega,by omega,by decide,usep k4 rfl (.inl rfl),by omega,by omega⟩
   ·intro hlt
    have hlt:¬ (nn:Int) < Dn (12 * j+(r+1)):=of_decide_eq_false hlt
    simp only [ZZ,WW,Ze,reduceCtorEq,Nat.reduceAdd,Nat.reduceMul,Nat.reduceLeDiff,Nat.reduceLT,Nat.reduceEqDiff]
    ((repeat' (with_reducible apply And.intro))<;>try ((exact sc_)))
    refine end_round (12 - (r+1)) [.p (int (m:Nat)),oo,oo,.p (int (nn:Nat)),.p (int yy),.p (int (mm+1)),oo,oo,oo,oo,oo,oo,oo,oo,oo,oo,oo,oo,oo,oo,oo,oo,oo,oo,oo,oo,oo,oo,oo,oo,oo,oo,oo,oo,oo,oo,oo,oo,oo,oo,oo,oo,oo,oo,oo,oo,oo,oo,oo,oo,oo,oo,oo,oo,oo,oo,oo,oo,oo,oo,oo,oo,oo,oo,oo,oo,oo,oo,oo,oo,oo,oo,oo,oo,oo,oo,oo,oo,oo,oo,oo,oo,oo,oo,oo,oo] [] (by omega) (by (simp only [ZZ,WW,Ze,reduceCtorEq,Nat.reduceAdd,Nat.reduceMul,Nat.reduceLeDiff,Nat.reduceLT,Nat.reduceEqDiff];try trivial)) (by (simp only [ZZ,WW,Ze,reduceCtorEq,Nat.reduceAdd,Nat.reduceMul,Nat.reduceLeDiff,Nat.reduceLT,Nat.reduceEqDiff];try trivial)) ⟨r+1,mm+1,rfl,by omega,by omega,by omega,rfl,rfl⟩
  ·intro hge12
   have hge12:¬ mm < 12:=of_decide_eq_false hge12
   have hr11:r=11:=by omega
   have hlt:(nn:Int) < Dn (12 * j+r+1):=by rw [hr11];exact h
   simp only [ZZ,WW,Ze,reduceCtorEq,Nat.reduceAdd,Nat.reduceMul,Nat.reduceLeDiff,Nat.reduceLT,Nat.reduceEqDiff]
   have hix:12 * j+r=i:=Dn_uniq hrj hlt hi1 hi2
   subst hix
   have hF:=days_ok (E:=E6) yy mm 1 (by omega) (by omega) (by omega) (by omega)
   have hin2:inE 1 1 (mlen yy mm)=true:=by
    have:=mlen_b yy mm
    simp only [inE,Bool.and_eq_true,decide_eq_true_eq]
    omega
   have hFa:daysN yy mm 1=Dn (12 * j+r):=by rw [hy,hmm];exact Dn_at j r hr
   rw [if_pos hin2,hFa] at hF
   have r1:((nn:Nat):Int).tmod 7=((nn % 7:Nat):Int):=by rw [Int.tmod_eq_emod_of_nonneg (by omega)];rfl
   have r2:((m:Nat):Int).tmod 1440=((m % 1440:Nat):Int):=by rw [Int.tmod_eq_emod_of_nonneg (by omega)];rfl
   have r3:((m % 1440:Nat):Int).tdiv 60=((m % 1440 / 60:Nat):Int):=by rw [Int.tdiv_eq_ediv_of_nonneg (by omega)];rfl
   have r4:((m % 1440:Nat):Int).tmod 60=((m % 60:Nat):Int):=by rw [Int.tmod_eq_emod_of_nonneg (by omega)];omega
   obtain ⟨e1,he1⟩:∃ e1:Nat,e1=3 * (nn % 7):=⟨_,rfl⟩
   obtain ⟨e2,he2⟩:∃ e2:Nat,e2=3 * (nn % 7)+3:=⟨_,rfl⟩
   obtain ⟨e3,he3⟩:∃ e3:Nat,e3=3 * r:=⟨_,rfl⟩
   obtain ⟨e4,he4⟩:∃ e4:Nat,e4=3 * r+3:=⟨_,rfl⟩
   have q1:(3 * ((nn % 7:Nat):Int)).toNat=e1:=by omega
   have q2:(3 * ((nn % 7:Nat):Int)+3).toNat=e2:=by omega
   have q3:(3 * mm - 3).toNat=e3:=by omega
   have q4:(3 * mm).toNat=e4:=by omega
   have t1:=wk_at (nn % 7) (by omega)
   have t2:=mo_at r hr
   rw [← he2,← he1] at t1
   rw [← he4,← he3] at t2
   have hg2:=Dn_ge (12 * j+r)
   have a1:=day_len (nn % 7)
   have a2:=mon_len r
   have a3:=Lib.itoa_length_le ((nn:Int) - Dn (12 * j+r)+1) (by omega) (by omega)
   have a4:=Lib.itoa_length_le yy (by omega) (by omega)
   have k1:=Itoa_ok6 ((nn:Int) - Dn (12 * j+r)+1) (by omega) (by omega)
   have k2:=Itoa_ok6 yy (by omega) (by omega)
   have k3:=two_ok (m % 1440 / 60) (by omega)
   have k4:=two_ok (m % 60) (by omega)
   have b3:(twoS (m % 1440 / 60)).length=2:=rfl
   have b4:(twoS (m % 60)).length=2:=rfl
   have hfin:dtText m (12 * j+r)=((((((((((dayL.getD (nn % 7) []++[44,32])++Lib.itoa ((nn:Int) - Dn (12 * j+r)+1))++[32])++monL.getD r [])++[32])++Lib.itoa yy)++[32])++twoS (m % 1440 / 60))++[58])++twoS (m % 60))++[32,43,48,48,48,48]:=by
    rw [dtText,← hnn,show (12 * j+r) / 12=j from by omega,show (12 * j+r) % 12=r from by omega,← hy]
   rw [hfin]
   refine cut_re _ _ ReOk.refl ?_
   simp only [ZZ,WW,Ze,reduceCtorEq,Nat.reduceAdd,Nat.reduceMul,Nat.reduceLeDiff,Nat.reduceLT,Nat.reduceEqDiff]
   refine use1 hF rfl (.inl rfl) ?_
   generalize dayL.getD (nn % 7) []=s1 at *
   generalize monL.getD r []=s2 at *
   generalize Lib.itoa ((nn:Int) - Dn (12 * j+r)+1)=s3 at *
   generalize Lib.itoa yy=s4 at *
   generalize twoS (m % 1440 / 60)=s5 at *
   generalize twoS (m % 60)=s6 at *
   simp only [ZZ,WW,Ze,reduceCtorEq,Nat.reduceAdd,Nat.reduceMul,Nat.reduceLeDiff,Nat.reduceLT,Nat.reduceEqDiff,r2]
   ((repeat' (with_reducible apply And.intro))<;>try ((exact sc_)))
   refine drg4 (x1:=.str s3) (x2:=.str s4) (x3:=.str s5) (x4:=.str s6) ?_
   simp only [ZZ,WW,Ze,reduceCtorEq,Nat.reduceAdd,Nat.reduceMul,Nat.reduceLeDiff,Nat.reduceLT,Nat.reduceEqDiff,r1,r3,r4,q1,q2,q3,q4,t1,t2,List.length_append,List.length_cons,List.length_nil]
   refine ⟨by decide,i64_of (by omega) (by omega),by decide,i64_of (by omega) (by omega),i64_of (by omega) (by omega),⟨⟨by omega,by omega⟩,by omega,by omega⟩,by omega,i64_of (by omega) (by omega),i64_of (by omega) (by omega),usep k1 rfl (.inl rfl),by omega,by omega,i64_of (by omega) (by omega),i64_of (by omega) (by omega),i64_of (by omega) (by omega),⟨⟨by omega,by omega⟩,by omega,by omega⟩,by omega,by omega,usep k2 rfl (.inl rfl),by omega,by omega,⟨by decide,i64_of (by omega) (by omega)⟩,usep k3 rfl (.inl rfl),by omega,by omega,by decide,usep k4 rfl (.inl rfl),by omega,by omega⟩
 ·intro h
  have h:¬ (nn:Int) < Dn (12 * (j+1)):=of_decide_eq_false h
  simp only [ZZ,WW,Ze,reduceCtorEq,Nat.reduceAdd,Nat.reduceMul,Nat.reduceLeDiff,Nat.reduceLT,Nat.reduceEqDiff]
  ((repeat' (with_reducible apply And.intro))<;>try ((exact sc_)))
  refine end_round (((nn:Int)+1 - Dn (12 * (j+1))).toNat) [.p (int (m:Nat)),oo,oo,.p (int (nn:Nat)),.p (int (yy+1)),.p (int 1),oo,oo,oo,oo,oo,oo,oo,oo,oo,oo,oo,oo,oo,oo,oo,oo,oo,oo,oo,oo,oo,oo,oo,oo,oo,oo,oo,oo,oo,oo,oo,oo,oo,oo,oo,oo,oo,oo,oo,oo,oo,oo,oo,oo,oo,oo,oo,oo,oo,oo,oo,oo,oo,oo,oo,oo,oo,oo,oo,oo,oo,oo,oo,oo,oo,oo,oo,oo,oo,oo,oo,oo,oo,oo,oo,oo,oo,oo,oo,oo] [] (by omega) (by (simp only [ZZ,WW,Ze,reduceCtorEq,Nat.reduceAdd,Nat.reduceMul,Nat.reduceLeDiff,Nat.reduceLT,Nat.reduceEqDiff];try trivial)) (by (simp only [ZZ,WW,Ze,reduceCtorEq,Nat.reduceAdd,Nat.reduceMul,Nat.reduceLeDiff,Nat.reduceLT,Nat.reduceEqDiff];try trivial)) ⟨j+1,yy+1,rfl,by omega,by omega,rfl,rfl⟩
def dtT (D id:List UInt8):List UInt8:=[68,97,116,101,58,32]++D++[10,77,101,115,115,97,103,101,45,73,100,58,32]++idsT [id]++[10]
theorem dtT_eq (D id:List UInt8):[68,97,116,101,58,32]++D++[10,77,101,115,115,97,103,101,45,73,100,58,32,60]++id++[62,10]=dtT D id:=by
 simp [dtT,idsT,Lib.join]
def rfT (l:List (List UInt8)):List UInt8:=if l=[] then [] else [82,101,102,101,114,101,110,99,101,115,58,32]++idsT l++[10]
def sbT (s:List UInt8):List UInt8:=if s=[] then [] else [83,117,98,106,101,99,116,58,32]++s++[10]
def ltT (m:Ltr) (i:Nat):List UInt8:=fromT m.fr++toT m.tos++ccT m.ccs++dtT (dtText m.at_.toNat i) m.id++rfT m.refs++sbT m.sub++([10]++m.body)
structure LtP (m:Ltr) (i:Nat):Prop where
 b1:m.id.length≤30000
 b2:m.fr.1.length≤30000∧m.fr.2.length≤30000
 b4:m.tos.length≤1000
 b5:∀ a∈m.tos,a.1.length≤30000∧a.2.length≤30000
 b6:m.ccs.length≤1000
 b7:∀ a∈m.ccs,a.1.length≤30000∧a.2.length≤30000
 b8:m.refs.length≤1000
 b9:∀ r∈m.refs,r.length≤30000
 b10:m.sub.length≤30000
 b11:m.body.length≤30000
 c1:0≤m.at_∧m.at_≤5761439
 c2:Dn i≤((m.at_.toNat / 1440:Nat):Int)∧((m.at_.toNat / 1440:Nat):Int) < Dn (i+1)
structure LtL (m:Ltr) (i:Nat):Prop where
 l1:(adT m.fr.1 m.fr.2).length≤60003
 l2:(fromT m.fr).length≤60010
 l3:(adsT m.tos).length≤70000000
 l4:(toT m.tos).length≤70000010
 l5:(adsT m.ccs).length≤70000000
 l6:(ccT m.ccs).length≤70000010
 l7:(dtText m.at_.toNat i).length≤80
 l8:(idsT [m.id]).length≤40000000
 l9:(dtT (dtText m.at_.toNat i) m.id).length≤40000200
 l10:(idsT m.refs).length≤40000000
 l11:(rfT m.refs).length≤40000020
 l12:(sbT m.sub).length≤30020
theorem LtP.lens {m:Ltr} {i:Nat} (h:LtP m i):LtL m i:=by
 have l1:=adT_len m.fr h.b2.1 h.b2.2
 have l3:=adsT_len h.b4 (Nat.le_refl _) h.b5
 have l5:=adsT_len h.b6 (Nat.le_refl _) h.b7
 have l10:=idsT_len h.b8 (Nat.le_refl _) h.b9
 have l8:=idsT_len (l:=[m.id]) (N:=1000) (by simp) (Nat.le_refl _) (by simpa using h.b1)
 have hm:m.at_.toNat≤5761439:=by have:=h.c1;omega
 have hi:28 * (i:Int)≤Dn i:=Dn_ge i
 have hd:((m.at_.toNat / 1440:Nat):Int)≤5761439:=by omega
 have hn:=Dn_next i
 have hml:=(mlen_b (2024+(i / 12:Nat)) ((i % 12:Nat)+1)).2
 have l7:=dtText_len (m:=m.at_.toNat) (i:=i) (by have:=h.c2;omega) (by have:=h.c2;omega) (by have:=h.c2;omega)
 have b10:=h.b10
 refine ⟨l1,?_,l3,?_,l5,?_,l7,l8,?_,l10,?_,?_⟩
 ·simp only [fromT,List.length_append,List.length_cons,List.length_nil];omega
 ·unfold toT;split
  ·simp
  ·simp only [List.length_append,List.length_cons,List.length_nil];omega
 ·unfold ccT;split
  ·simp
  ·simp only [List.length_append,List.length_cons,List.length_nil];omega
 ·simp only [dtT,List.length_append,List.length_cons,List.length_nil];omega
 ·unfold rfT;split
  ·simp
  ·simp only [List.length_append,List.length_cons,List.length_nil];omega
 ·unfold sbT;split
  ·simp
  ·simp only [List.length_append,List.length_cons,List.length_nil];omega
def ir_thread_Print:IC:=(.seq (.reg [qO 1 (.box 60 (.t 0)),qO 2 (.mov (.c (.str []))),qO 3 (.mov (.c (.int .i64 0)))]) (.seq (.seq (.reg [qO 7 (.ld 9 true (.t 1)),qO 8 (.call 30 [.t 7]),qM 4 8]) (.seq (.reg [qM 9 4,qO 10 (.bin .neq (.t 9) (.c (.int .i64 0)))]) (.cond (.t 10) (.seq (.reg [qM 11 4,qO 2 (.mov (.c (.str []))),qM 3 11]) .ret) .skip))) (.seq (.reg [qO 5 (.mov (.f 110))]) (.seq (.reg [qO 12 (.fla 2 (.t 1)),qO 13 (.ld 2 true (.t 12)),qO 14 (.call 111 [.t 13]),qO 15 (.bin .add (.c (.str [70,114,111,109,58,32])) (.t 14)),qO 16 (.bin .add (.t 15) (.c (.str [10]))),qM 6 16]) (.seq (.seq (.reg [qO 17 (.fla 4 (.t 1)),qO 18 (.ld 1 false (.t 17)),qO 19 (.len (.t 18)),qO 20 (.bin .gtr (.t 19) (.c (.int .i64 0)))]) (.cond (.t 20) (.reg [qM 21 6,qM 22 5,qO 23 (.fla 4 (.t 1)),qO 24 (.ld 1 false (.t 23)),qO 25 (.callv (.t 22) [.t 24]),qO 26 (.bin .add (.c (.str [84,111,58,32])) (.t 25)),qO 27 (.bin .add (.t 26) (.c (.str [10]))),qO 28 (.bin .add (.t 21) (.t 27)),qM 6 28]) .skip)) (.cut (.seq (.seq (.reg [qO 29 (.fla 5 (.t 1)),qO 30 (.ld 1 false (.t 29)),qO 31 (.len (.t 30)),qO 32 (.bin .gtr (.t 31) (.c (.int .i64 0)))]) (.cond (.t 32) (.reg [qM 33 6,qM 34 5,qO 35 (.fla 5 (.t 1)),qO 36 (.ld 1 false (.t 35)),qO 37 (.callv (.t 34) [.t 36]),qO 38 (.bin .add (.c (.str [67,99,58,32])) (.t 37)),qO 39 (.bin .add (.t 38) (.c (.str [10]))),qO 40 (.bin .add (.t 33) (.t 39)),qM 6 40]) .skip)) (.cut (.seq (.drg [qM 41 6,qO 42 (.fla 1 (.t 1)),qO 43 (.ld 1 false (.t 42)),qO 44 (.pcall 0 112 [.t 43]),qO 45 (.bin .add (.c (.str [68,97,116,101,58,32])) (.t 44)),qO 46 (.bin .add (.t 45) (.c (.str [10,77,101,115,115,97,103,101,45,73,100,58,32]))),qO 47 (.fla 0 (.t 1)),qO 48 (.ld 1 false (.t 47)),qO 49 (.bsl 1 [.t 48]),qO 50 (.pcall 1 113 [.t 49]),qO 51 (.bin .add (.t 46) (.t 50)),qO 52 (.bin .add (.t 51) (.c (.str [10]))),qO 53 (.bin .add (.t 41) (.t 52)),qM 6 53]) (.seq (.seq (.reg [qO 54 (.fla 6 (.t 1)),qO 55 (.ld 1 false (.t 54)),qO 56 (.len (.t 55)),qO 57 (.bin .gtr (.t 56) (.c (.int .i64 0)))]) (.cond (.t 57) (.reg [qM 58 6,qO 59 (.fla 6 (.t 1)),qO 60 (.ld 1 false (.t 59)),qO 61 (.call 113 [.t 60]),qO 62 (.bin .add (.c (.str [82,101,102,101,114,101,110,99,101,115,58,32])) (.t 61)),qO 63 (.bin .add (.t 62) (.c (.str [10]))),qO 64 (.bin .add (.t 58) (.t 63)),qM 6 64]) .skip)) (.cut (.seq (.seq (.reg [qO 65 (.fla 7 (.t 1)),qO 66 (.ld 1 false (.t 65)),qO 67 (.bin .neq (.t 66) (.c (.str [])))]) (.cond (.t 67) (.reg [qM 68 6,qO 69 (.fla 7 (.t 1)),qO 70 (.ld 1 false (.t 69)),qO 71 (.bin .add (.c (.str [83,117,98,106,101,99,116,58,32])) (.t 70)),qO 72 (.bin .add (.t 71) (.c (.str [10]))),qO 73 (.bin .add (.t 68) (.t 72)),qM 6 73]) .skip)) (.cut (.seq (.reg [qM 74 6,qO 75 (.fla 8 (.t 1)),qO 76 (.ld 1 false (.t 75)),qO 77 (.bin .add (.c (.str [10])) (.t 76)),qO 78 (.bin .add (.t 74) (.t 77)),qM 6 78]) (.seq (.seq (.reg [qM 79 6,qO 80 (.sln (.t 79)),qO 81 (.bin .gtr (.t 80) (.c (.int .i64 200000)))]) (.cond (.t 81) (.seq (.reg [qO 2 (.mov (.c (.str []))),qO 3 (.mov (.c (.int .i64 2)))]) .ret) .skip)) (.seq (.reg [qM 82 6,qM 2 82,qO 3 (.mov (.c (.int .i64 0)))]) .ret))))))))))))))))
def rs_thread_Print:List IRes:=[.t 2,.t 3]
theorem ck_thread_Print:chkF Tryz.prog Tryz.f31 ir_thread_Print rs_thread_Print 83=true:=by kernel_rfl
abbrev fPL:FuncId:=110
set_option maxRecDepth 100000 in
theorem Print_ok (m:Ltr) (hm:LtB m) (i:Nat) (hP:letF m=0→LtP m i):PCall Tryz.prog E6 31 [.agg (ltV m)] (·=.tup [.str (if letF m=0∧¬ 200000 < ((ltT m i).length:Int) then ltT m i else []),int (if letF m=0 then if 200000 < ((ltT m i).length:Int) then 2 else 0 else letF m)]):=by
 have hfn:fnB Tryz.prog fPL=true:=by kernel_rfl
 refine pcallF mixed Tryz.func31 ck_thread_Print ?_
 simp only [a0,l0,OS.ao,List.map_cons,List.map_nil,List.length_cons,List.length_nil,List.cons_append,List.nil_append,Nat.reduceSub,Nat.reduceAdd,List.replicate_succ,List.replicate_zero,ir_thread_Print,rs_thread_Print,ZZ,WW,Ze,reduceCtorEq,Nat.reduceAdd,Nat.reduceMul,Nat.reduceLeDiff,Nat.reduceLT,Nat.reduceEqDiff]
 simp only [ltV,ZZ,WW,Ze,reduceCtorEq,Nat.reduceAdd,Nat.reduceMul,Nat.reduceLeDiff,Nat.reduceLT,Nat.reduceEqDiff]
 refine use1 (up6 (TCheck_ok m hm)) rfl (.inl rfl) ?_
 simp only [ZZ,WW,Ze,reduceCtorEq,Nat.reduceAdd,Nat.reduceMul,Nat.reduceLeDiff,Nat.reduceLT,Nat.reduceEqDiff]
 refine br ?_ ?_
 ·intro h
  have h0:¬ letF m=0:=by simpa using h
  simp only [ZZ,WW,Ze,reduceCtorEq,Nat.reduceAdd,Nat.reduceMul,Nat.reduceLeDiff,Nat.reduceLT,Nat.reduceEqDiff]
  simp [h0]
 intro h
 have h0:letF m=0:=by simpa using h
 have P:=hP h0
 obtain ⟨l1,l2,l3,l4,l5,l6,l7,l8,l9,l10,l11,l12⟩:=P.lens
 have hat:m.at_=((m.at_.toNat:Nat):Int):=by have:=P.c1;omega
 have hs:=shown_ok m.at_.toNat i (by have:=P.c1;omega) P.c2.1 P.c2.2
 rw [← hat] at hs
 clear h
 simp only [ZZ,WW,Ze,reduceCtorEq,Nat.reduceAdd,Nat.reduceMul,Nat.reduceLeDiff,Nat.reduceLT,Nat.reduceEqDiff]
 refine use1 (printed_ok m.fr.1 m.fr.2 (by have:=P.b2;omega) (by have:=P.b2;omega)) rfl (.inl rfl) ?_
 simp only [ZZ,WW,Ze,reduceCtorEq,Nat.reduceAdd,Nat.reduceMul,Nat.reduceLeDiff,Nat.reduceLT,Nat.reduceEqDiff,adrE_len]
 refine ⟨by omega,by omega,?_⟩
 have eF:70 :: 114 :: 111 :: 109 :: 58 :: 32 :: (adT m.fr.1 m.fr.2++[10])=fromT m.fr:=rfl
 rw [eF]
 refine br_join (fun fr L=>fr=[oo,.adr (.l 1) 0,oo,oo,oo,.fn fPL [],.p (.str (fromT m.fr++toT m.tos)),oo,oo,oo,oo,oo,oo,oo,oo,oo,oo,oo,oo,oo,oo,oo,oo,oo,oo,oo,oo,oo,oo,oo,oo,oo,oo,oo,oo,oo,oo,oo,oo,oo,oo,oo,oo,oo,oo,oo,oo,oo,oo,oo,oo,oo,oo,oo,oo,oo,oo,oo,oo,oo,oo,oo,oo,oo,oo,oo,oo,oo,oo,oo,oo,oo,oo,oo,oo,oo,oo,oo,oo,oo,oo,oo,oo]∧L=[(.l 1,.box [.p (.str m.id),.p (int m.at_),.p (.str m.fr.1),.p (.str m.fr.2),.p (.sl 2 (adrE m.tos)),.p (.sl 2 (adrE m.ccs)),.p (.sl 1 (strE m.refs)),.p (.str m.sub),.p (.str m.body)] tMail)]) ?_ ?_ ?_
 ·intro h
  have hne:m.tos≠[]:=fun e=>by rw [e] at h;simp at h
  have eT:fromT m.fr++84 :: 111 :: 58 :: 32 :: (adsT m.tos++[10])=fromT m.fr++toT m.tos:=by rw [toT,if_neg hne];rfl
  simp only [ZZ,WW,Ze,reduceCtorEq,Nat.reduceAdd,Nat.reduceMul,Nat.reduceLeDiff,Nat.reduceLT,Nat.reduceEqDiff,hfn]
  refine use1 (PrintList_ok m.tos P.b4 P.b5) rfl (.inl rfl) ?_
  simp only [ZZ,WW,Ze,reduceCtorEq,Nat.reduceAdd,Nat.reduceMul,Nat.reduceLeDiff,Nat.reduceLT,Nat.reduceEqDiff]
  refine ⟨by (try simp only [List.length_append,List.length_cons,List.length_nil] at *);omega,by (try simp only [List.length_append,List.length_cons,List.length_nil] at *);omega,by (try simp only [List.length_append,List.length_cons,List.length_nil] at *);omega,?_⟩
  rw [eT]
  exact to_mid [oo,.adr (.l 1) 0,oo,oo,oo,.fn fPL [],.p (.str (fromT m.fr++toT m.tos)),oo,oo,oo,oo,oo,oo,oo,oo,oo,oo,oo,oo,oo,oo,oo,oo,oo,oo,oo,oo,oo,oo,oo,oo,oo,oo,oo,oo,oo,oo,oo,oo,oo,oo,oo,oo,oo,oo,oo,oo,oo,oo,oo,oo,oo,oo,oo,oo,oo,oo,oo,oo,oo,oo,oo,oo,oo,oo,oo,oo,oo,oo,oo,oo,oo,oo,oo,oo,oo,oo,oo,oo,oo,oo,oo,oo] [(.l 1,.box [.p (.str m.id),.p (int m.at_),.p (.str m.fr.1),.p (.str m.fr.2),.p (.sl 2 (adrE m.tos)),.p (.sl 2 (adrE m.ccs)),.p (.sl 1 (strE m.refs)),.p (.str m.sub),.p (.str m.body)] tMail)] (by (simp only [ZZ,WW,Ze,reduceCtorEq,Nat.reduceAdd,Nat.reduceMul,Nat.reduceLeDiff,Nat.reduceLT,Nat.reduceEqDiff];try trivial)) zE_ ⟨rfl,rfl⟩
 ·intro h
  have hne:m.tos=[]:=by have:=of_decide_eq_false h;exact List.eq_nil_of_length_eq_zero (by omega)
  have eT:fromT m.fr=fromT m.fr++toT m.tos:=by rw [toT,if_pos hne,List.append_nil]
  simp only [ZZ,WW,Ze,reduceCtorEq,Nat.reduceAdd,Nat.reduceMul,Nat.reduceLeDiff,Nat.reduceLT,Nat.reduceEqDiff]
  exact to_mid [oo,.adr (.l 1) 0,oo,oo,oo,.fn fPL [],.p (.str (fromT m.fr++toT m.tos)),oo,oo,oo,oo,oo,oo,oo,oo,oo,oo,oo,oo,oo,oo,oo,oo,oo,oo,oo,oo,oo,oo,oo,oo,oo,oo,oo,oo,oo,oo,oo,oo,oo,oo,oo,oo,oo,oo,oo,oo,oo,oo,oo,oo,oo,oo,oo,oo,oo,oo,oo,oo,oo,oo,oo,oo,oo,oo,oo,oo,oo,oo,oo,oo,oo,oo,oo,oo,oo,oo,oo,oo,oo,oo,oo,oo] [(.l 1,.box [.p (.str m.id),.p (int m.at_),.p (.str m.fr.1),.p (.str m.fr.2),.p (.sl 2 (adrE m.tos)),.p (.sl 2 (adrE m.ccs)),.p (.sl 1 (strE m.refs)),.p (.str m.sub),.p (.str m.body)] tMail)] (by rw [← eT];(simp only [ZZ,WW,Ze,reduceCtorEq,Nat.reduceAdd,Nat.reduceMul,Nat.reduceLeDiff,Nat.reduceLT,Nat.reduceEqDiff];try trivial)) zE_ ⟨rfl,rfl⟩
 rintro fr L ⟨rfl,rfl⟩
 clear eF
 simp only [ZZ,WW,Ze,reduceCtorEq,Nat.reduceAdd,Nat.reduceMul,Nat.reduceLeDiff,Nat.reduceLT,Nat.reduceEqDiff,adrE_len]
 refine br_join (fun fr L=>fr=[oo,.adr (.l 1) 0,oo,oo,oo,.fn fPL [],.p (.str (fromT m.fr++toT m.tos++ccT m.ccs)),oo,oo,oo,oo,oo,oo,oo,oo,oo,oo,oo,oo,oo,oo,oo,oo,oo,oo,oo,oo,oo,oo,oo,oo,oo,oo,oo,oo,oo,oo,oo,oo,oo,oo,oo,oo,oo,oo,oo,oo,oo,oo,oo,oo,oo,oo,oo,oo,oo,oo,oo,oo,oo,oo,oo,oo,oo,oo,oo,oo,oo,oo,oo,oo,oo,oo,oo,oo,oo,oo,oo,oo,oo,oo,oo,oo]∧L=[(.l 1,.box [.p (.str m.id),.p (int m.at_),.p (.str m.fr.1),.p (.str m.fr.2),.p (.sl 2 (adrE m.tos)),.p (.sl 2 (adrE m.ccs)),.p (.sl 1 (strE m.refs)),.p (.str m.sub),.p (.str m.body)] tMail)]) ?_ ?_ ?_
 ·intro h
  have hne:m.ccs≠[]:=fun e=>by rw [e] at h;simp at h
  have eT:fromT m.fr++toT m.tos++67 :: 99 :: 58 :: 32 :: (adsT m.ccs++[10])=fromT m.fr++toT m.tos++ccT m.ccs:=by rw [ccT,if_neg hne];rfl
  simp only [ZZ,WW,Ze,reduceCtorEq,Nat.reduceAdd,Nat.reduceMul,Nat.reduceLeDiff,Nat.reduceLT,Nat.reduceEqDiff,hfn]
  refine use1 (PrintList_ok m.ccs P.b6 P.b7) rfl (.inl rfl) ?_
  simp only [ZZ,WW,Ze,reduceCtorEq,Nat.reduceAdd,Nat.reduceMul,Nat.reduceLeDiff,Nat.reduceLT,Nat.reduceEqDiff]
  refine ⟨by (try simp only [List.length_append,List.length_cons,List.length_nil] at *);omega,by (try simp only [List.length_append,List.length_cons,List.length_nil] at *);omega,by (try simp only [List.length_append,List.length_cons,List.length_nil] at *);omega,?_⟩
  rw [eT]
  exact to_mid [oo,.adr (.l 1) 0,oo,oo,oo,.fn fPL [],.p (.str (fromT m.fr++toT m.tos++ccT m.ccs)),oo,oo,oo,oo,oo,oo,oo,oo,oo,oo,oo,oo,oo,oo,oo,oo,oo,oo,oo,oo,oo,oo,oo,oo,oo,oo,oo,oo,oo,oo,oo,oo,oo,oo,oo,oo,oo,oo,oo,oo,oo,oo,oo,oo,oo,oo,oo,oo,oo,oo,oo,oo,oo,oo,oo,oo,oo,oo,oo,oo,oo,oo,oo,oo,oo,oo,oo,oo,oo,oo,oo,oo,oo,oo,oo,oo] [(.l 1,.box [.p (.str m.id),.p (int m.at_),.p (.str m.fr.1),.p (.str m.fr.2),.p (.sl 2 (adrE m.tos)),.p (.sl 2 (adrE m.ccs)),.p (.sl 1 (strE m.refs)),.p (.str m.sub),.p (.str m.body)] tMail)] (by (simp only [ZZ,WW,Ze,reduceCtorEq,Nat.reduceAdd,Nat.reduceMul,Nat.reduceLeDiff,Nat.reduceLT,Nat.reduceEqDiff];try trivial)) zE_ ⟨rfl,rfl⟩
 ·intro h
  have hne:m.ccs=[]:=by have:=of_decide_eq_false h;exact List.eq_nil_of_length_eq_zero (by omega)
  have eT:fromT m.fr++toT m.tos=fromT m.fr++toT m.tos++ccT m.ccs:=by rw [ccT,if_pos hne,List.append_nil]
  simp only [ZZ,WW,Ze,reduceCtorEq,Nat.reduceAdd,Nat.reduceMul,Nat.reduceLeDiff,Nat.reduceLT,Nat.reduceEqDiff]
  exact to_mid [oo,.adr (.l 1) 0,oo,oo,oo,.fn fPL [],.p (.str (fromT m.fr++toT m.tos++ccT m.ccs)),oo,oo,oo,oo,oo,oo,oo,oo,oo,oo,oo,oo,oo,oo,oo,oo,oo,oo,oo,oo,oo,oo,oo,oo,oo,oo,oo,oo,oo,oo,oo,oo,oo,oo,oo,oo,oo,oo,oo,oo,oo,oo,oo,oo,oo,oo,oo,oo,oo,oo,oo,oo,oo,oo,oo,oo,oo,oo,oo,oo,oo,oo,oo,oo,oo,oo,oo,oo,oo,oo,oo,oo,oo,oo,oo,oo] [(.l 1,.box [.p (.str m.id),.p (int m.at_),.p (.str m.fr.1),.p (.str m.fr.2),.p (.sl 2 (adrE m.tos)),.p (.sl 2 (adrE m.ccs)),.p (.sl 1 (strE m.refs)),.p (.str m.sub),.p (.str m.body)] tMail)] (by rw [← eT];(simp only [ZZ,WW,Ze,reduceCtorEq,Nat.reduceAdd,Nat.reduceMul,Nat.reduceLeDiff,Nat.reduceLT,Nat.reduceEqDiff];try trivial)) zE_ ⟨rfl,rfl⟩
 rintro fr L ⟨rfl,rfl⟩
 have hsL:(fromT m.fr++toT m.tos++ccT m.ccs).length≤200000000:=by simp only [List.length_append];omega
 have hLT:ltT m i=fromT m.fr++toT m.tos++ccT m.ccs++dtT (dtText m.at_.toNat i) m.id++rfT m.refs++sbT m.sub++([10]++m.body):=rfl
 rw [hLT]
 generalize fromT m.fr++toT m.tos++ccT m.ccs=S at *
 have hDT:dtT (dtText m.at_.toNat i) m.id=[68,97,116,101,58,32]++dtText m.at_.toNat i++[10,77,101,115,115,97,103,101,45,73,100,58,32]++idsT [m.id]++[10]:=rfl
 simp only [ZZ,WW,Ze,reduceCtorEq,Nat.reduceAdd,Nat.reduceMul,Nat.reduceLeDiff,Nat.reduceLT,Nat.reduceEqDiff]
 refine drg2 (x1:=.str (dtText m.at_.toNat i)) (x2:=.str (idsT [m.id])) ?_
 simp only [ZZ,WW,Ze,reduceCtorEq,Nat.reduceAdd,Nat.reduceMul,Nat.reduceLeDiff,Nat.reduceLT,Nat.reduceEqDiff]
 refine ⟨usep hs rfl (.inl rfl),by (try simp only [List.length_append,List.length_cons,List.length_nil] at *);omega,by (try simp only [List.length_append,List.length_cons,List.length_nil] at *);omega,usep (ids_ok [m.id] (by simp) (by simpa using P.b1)) rfl (.inl rfl),by (try simp only [List.length_append,List.length_cons,List.length_nil] at *);omega,by (try simp only [List.length_append,List.length_cons,List.length_nil] at *);omega,by (try simp only [List.length_append,List.length_cons,List.length_nil] at *);omega,?_⟩
 have eD:68 :: 97 :: 116 :: 101 :: 58 :: 32 :: (dtText m.at_.toNat i++[10,77,101,115,115,97,103,101,45,73,100,58,32]++idsT [m.id]++[10])=dtT (dtText m.at_.toNat i) m.id:=rfl
 rw [eD]
 clear eD hDT hs
 have hS2:(S++dtT (dtText m.at_.toNat i) m.id).length≤300000000:=by simp only [List.length_append];omega
 generalize S++dtT (dtText m.at_.toNat i) m.id=S2 at *
 refine br_join (fun fr L=>fr=[oo,.adr (.l 1) 0,oo,oo,oo,.fn fPL [],.p (.str (S2++rfT m.refs)),oo,oo,oo,oo,oo,oo,oo,oo,oo,oo,oo,oo,oo,oo,oo,oo,oo,oo,oo,oo,oo,oo,oo,oo,oo,oo,oo,oo,oo,oo,oo,oo,oo,oo,oo,oo,oo,oo,oo,oo,oo,oo,oo,oo,oo,oo,oo,oo,oo,oo,oo,oo,oo,oo,oo,oo,oo,oo,oo,oo,oo,oo,oo,oo,oo,oo,oo,oo,oo,oo,oo,oo,oo,oo,oo,oo]∧L=[(.l 1,.box [.p (.str m.id),.p (int m.at_),.p (.str m.fr.1),.p (.str m.fr.2),.p (.sl 2 (adrE m.tos)),.p (.sl 2 (adrE m.ccs)),.p (.sl 1 (strE m.refs)),.p (.str m.sub),.p (.str m.body)] tMail)]) ?_ ?_ ?_
 ·intro h
  have hne:m.refs≠[]:=fun e=>by rw [e] at h;simp [strE] at h
  have eT:S2++82 :: 101 :: 102 :: 101 :: 114 :: 101 :: 110 :: 99 :: 101 :: 115 :: 58 :: 32 :: (idsT m.refs++[10])=S2++rfT m.refs:=by rw [rfT,if_neg hne];rfl
  simp only [ZZ,WW,Ze,reduceCtorEq,Nat.reduceAdd,Nat.reduceMul,Nat.reduceLeDiff,Nat.reduceLT,Nat.reduceEqDiff]
  refine use1 (ids_ok m.refs P.b8 P.b9) rfl (.inl rfl) ?_
  simp only [ZZ,WW,Ze,reduceCtorEq,Nat.reduceAdd,Nat.reduceMul,Nat.reduceLeDiff,Nat.reduceLT,Nat.reduceEqDiff]
  refine ⟨by (try simp only [List.length_append,List.length_cons,List.length_nil] at *);omega,by (try simp only [List.length_append,List.length_cons,List.length_nil] at *);omega,by (try simp only [List.length_append,List.length_cons,List.length_nil] at *);omega,?_⟩
  rw [eT]
  exact to_mid [oo,.adr (.l 1) 0,oo,oo,oo,.fn fPL [],.p (.str (S2++rfT m.refs)),oo,oo,oo,oo,oo,oo,oo,oo,oo,oo,oo,oo,oo,oo,oo,oo,oo,oo,oo,oo,oo,oo,oo,oo,oo,oo,oo,oo,oo,oo,oo,oo,oo,oo,oo,oo,oo,oo,oo,oo,oo,oo,oo,oo,oo,oo,oo,oo,oo,oo,oo,oo,oo,oo,oo,oo,oo,oo,oo,oo,oo,oo,oo,oo,oo,oo,oo,oo,oo,oo,oo,oo,oo,oo,oo,oo] [(.l 1,.box [.p (.str m.id),.p (int m.at_),.p (.str m.fr.1),.p (.str m.fr.2),.p (.sl 2 (adrE m.tos)),.p (.sl 2 (adrE m.ccs)),.p (.sl 1 (strE m.refs)),.p (.str m.sub),.p (.str m.body)] tMail)] (by (simp only [ZZ,WW,Ze,reduceCtorEq,Nat.reduceAdd,Nat.reduceMul,Nat.reduceLeDiff,Nat.reduceLT,Nat.reduceEqDiff];try trivial)) zE_ ⟨rfl,rfl⟩
 ·intro h
  have hne:m.refs=[]:=by rw [strE_len] at h;have:=of_decide_eq_false h;exact List.eq_nil_of_length_eq_zero (by omega)
  have eT:S2=S2++rfT m.refs:=by rw [rfT,if_pos hne,List.append_nil]
  simp only [ZZ,WW,Ze,reduceCtorEq,Nat.reduceAdd,Nat.reduceMul,Nat.reduceLeDiff,Nat.reduceLT,Nat.reduceEqDiff]
  exact to_mid [oo,.adr (.l 1) 0,oo,oo,oo,.fn fPL [],.p (.str (S2++rfT m.refs)),oo,oo,oo,oo,oo,oo,oo,oo,oo,oo,oo,oo,oo,oo,oo,oo,oo,oo,oo,oo,oo,oo,oo,oo,oo,oo,oo,oo,oo,oo,oo,oo,oo,oo,oo,oo,oo,oo,oo,oo,oo,oo,oo,oo,oo,oo,oo,oo,oo,oo,oo,oo,oo,oo,oo,oo,oo,oo,oo,oo,oo,oo,oo,oo,oo,oo,oo,oo,oo,oo,oo,oo,oo,oo,oo,oo] [(.l 1,.box [.p (.str m.id),.p (int m.at_),.p (.str m.fr.1),.p (.str m.fr.2),.p (.sl 2 (adrE m.tos)),.p (.sl 2 (adrE m.ccs)),.p (.sl 1 (strE m.refs)),.p (.str m.sub),.p (.str m.body)] tMail)] (by rw [← eT];(simp only [ZZ,WW,Ze,reduceCtorEq,Nat.reduceAdd,Nat.reduceMul,Nat.reduceLeDiff,Nat.reduceLT,Nat.reduceEqDiff];try trivial)) zE_ ⟨rfl,rfl⟩
 rintro fr L ⟨rfl,rfl⟩
 have hS3:(S2++rfT m.refs).length≤400000000:=by simp only [List.length_append];omega
 generalize S2++rfT m.refs=S3 at *
 simp only [ZZ,WW,Ze,reduceCtorEq,Nat.reduceAdd,Nat.reduceMul,Nat.reduceLeDiff,Nat.reduceLT,Nat.reduceEqDiff]
 refine br_join (fun fr L=>fr=[oo,.adr (.l 1) 0,oo,oo,oo,.fn fPL [],.p (.str (S3++sbT m.sub)),oo,oo,oo,oo,oo,oo,oo,oo,oo,oo,oo,oo,oo,oo,oo,oo,oo,oo,oo,oo,oo,oo,oo,oo,oo,oo,oo,oo,oo,oo,oo,oo,oo,oo,oo,oo,oo,oo,oo,oo,oo,oo,oo,oo,oo,oo,oo,oo,oo,oo,oo,oo,oo,oo,oo,oo,oo,oo,oo,oo,oo,oo,oo,oo,oo,oo,oo,oo,oo,oo,oo,oo,oo,oo,oo,oo]∧L=[(.l 1,.box [.p (.str m.id),.p (int m.at_),.p (.str m.fr.1),.p (.str m.fr.2),.p (.sl 2 (adrE m.tos)),.p (.sl 2 (adrE m.ccs)),.p (.sl 1 (strE m.refs)),.p (.str m.sub),.p (.str m.body)] tMail)]) ?_ ?_ ?_
 ·intro h
  have hne:¬ m.sub=[]:=by simpa using h
  have eT:S3++83 :: 117 :: 98 :: 106 :: 101 :: 99 :: 116 :: 58 :: 32 :: (m.sub++[10])=S3++sbT m.sub:=by rw [sbT,if_neg hne];rfl
  have b10:=P.b10
  simp only [ZZ,WW,Ze,reduceCtorEq,Nat.reduceAdd,Nat.reduceMul,Nat.reduceLeDiff,Nat.reduceLT,Nat.reduceEqDiff]
  refine ⟨by (try simp only [List.length_append,List.length_cons,List.length_nil] at *);omega,by (try simp only [List.length_append,List.length_cons,List.length_nil] at *);omega,by (try simp only [List.length_append,List.length_cons,List.length_nil] at *);omega,?_⟩
  rw [eT]
  exact to_mid [oo,.adr (.l 1) 0,oo,oo,oo,.fn fPL [],.p (.str (S3++sbT m.sub)),oo,oo,oo,oo,oo,oo,oo,oo,oo,oo,oo,oo,oo,oo,oo,oo,oo,oo,oo,oo,oo,oo,oo,oo,oo,oo,oo,oo,oo,oo,oo,oo,oo,oo,oo,oo,oo,oo,oo,oo,oo,oo,oo,oo,oo,oo,oo,oo,oo,oo,oo,oo,oo,oo,oo,oo,oo,oo,oo,oo,oo,oo,oo,oo,oo,oo,oo,oo,oo,oo,oo,oo,oo,oo,oo,oo] [(.l 1,.box [.p (.str m.id),.p (int m.at_),.p (.str m.fr.1),.p (.str m.fr.2),.p (.sl 2 (adrE m.tos)),.p (.sl 2 (adrE m.ccs)),.p (.sl 1 (strE m.refs)),.p (.str m.sub),.p (.str m.body)] tMail)] (by (simp only [ZZ,WW,Ze,reduceCtorEq,Nat.reduceAdd,Nat.reduceMul,Nat.reduceLeDiff,Nat.reduceLT,Nat.reduceEqDiff];try trivial)) zE_ ⟨rfl,rfl⟩
 ·intro h
  have hne:m.sub=[]:=by simpa using h
  have eT:S3=S3++sbT m.sub:=by rw [sbT,if_pos hne,List.append_nil]
  simp only [ZZ,WW,Ze,reduceCtorEq,Nat.reduceAdd,Nat.reduceMul,Nat.reduceLeDiff,Nat.reduceLT,Nat.reduceEqDiff]
  exact to_mid [oo,.adr (.l 1) 0,oo,oo,oo,.fn fPL [],.p (.str (S3++sbT m.sub)),oo,oo,oo,oo,oo,oo,oo,oo,oo,oo,oo,oo,oo,oo,oo,oo,oo,oo,oo,oo,oo,oo,oo,oo,oo,oo,oo,oo,oo,oo,oo,oo,oo,oo,oo,oo,oo,oo,oo,oo,oo,oo,oo,oo,oo,oo,oo,oo,oo,oo,oo,oo,oo,oo,oo,oo,oo,oo,oo,oo,oo,oo,oo,oo,oo,oo,oo,oo,oo,oo,oo,oo,oo,oo,oo,oo] [(.l 1,.box [.p (.str m.id),.p (int m.at_),.p (.str m.fr.1),.p (.str m.fr.2),.p (.sl 2 (adrE m.tos)),.p (.sl 2 (adrE m.ccs)),.p (.sl 1 (strE m.refs)),.p (.str m.sub),.p (.str m.body)] tMail)] (by rw [← eT];(simp only [ZZ,WW,Ze,reduceCtorEq,Nat.reduceAdd,Nat.reduceMul,Nat.reduceLeDiff,Nat.reduceLT,Nat.reduceEqDiff];try trivial)) zE_ ⟨rfl,rfl⟩
 rintro fr L ⟨rfl,rfl⟩
 have hS4:(S3++sbT m.sub).length≤500000000:=by simp only [List.length_append];omega
 have b11:=P.b11
 generalize S3++sbT m.sub=S4 at *
 simp only [ZZ,WW,Ze,reduceCtorEq,Nat.reduceAdd,Nat.reduceMul,Nat.reduceLeDiff,Nat.reduceLT,Nat.reduceEqDiff]
 refine ⟨by omega,by omega,?_⟩
 refine br ?_ ?_
 ·intro h
  have h2:=of_decide_eq_true h
  simp only [ZZ,WW,Ze,reduceCtorEq,Nat.reduceAdd,Nat.reduceMul,Nat.reduceLeDiff,Nat.reduceLT,Nat.reduceEqDiff]
  simp only [h0,h2,not_true_eq_false,and_false,if_false,if_true]
 ·intro h
  have h2:=of_decide_eq_false h
  simp only [ZZ,WW,Ze,reduceCtorEq,Nat.reduceAdd,Nat.reduceMul,Nat.reduceLeDiff,Nat.reduceLT,Nat.reduceEqDiff]
  simp only [h0,h2,not_false_eq_true,and_self,if_true,if_false]
def ir_chaseref1_LetterText_L1:IC:=(.seq (.reg [qO 28 (.bin .lss (.t 27) (.t 26))]) (.seq (.cond (.t 28) .skip (.exit 2)) (.seq (.block 3 (.seq (.reg [qO 29 (.ixa 2 (.t 25) (.t 27)),qO 30 (.ld 2 true (.t 29)),qO 8 (.alc 56 [.str [],.str []]),⟨none,.st 2 (.t 8) (.t 30),none⟩]) (.reg [qM 31 6,qO 32 (.ld 2 true (.t 8)),qO 33 (.call 118 [.t 32]),qO 34 (.bsl 1 [.t 33]),qO 35 (.app 9 1 16 (.t 31) (.t 34)),qM 6 35]))) (.reg [qO 36 (.bin .add (.t 27) (.c (.int .i64 1))),qM 27 36]))))
def ir_chaseref1_LetterText_L0:IC:=(.seq (.reg [qO 21 (.bin .lss (.t 20) (.t 19))]) (.seq (.cond (.t 21) .skip (.exit 0)) (.seq (.block 1 (.seq (.reg [qM 22 20,qO 23 (.ixa 1 (.t 18) (.t 20)),qO 24 (.ld 1 false (.t 23)),qM 4 22,qM 5 24]) (.seq (.reg [qO 6 (.nilr 9 1)]) (.seq (.seq (.reg [qM 25 5,qO 26 (.len (.t 25)),qO 27 (.mov (.c (.int .i64 0)))]) (.block 2 (.loop ir_chaseref1_LetterText_L1))) (.seq (.reg [qM 37 6,qO 38 (.len (.t 37)),qO 39 (.bin .gtr (.t 38) (.c (.int .i64 0)))]) (.cond (.t 39) (.drg [qM 40 3,qO 41 (.bsl 1 [.c (.str [84,111]),.c (.str [67,99])]),qM 42 4,qO 43 (.ixa 1 (.t 41) (.t 42)),qO 44 (.ld 1 false (.t 43)),qO 45 (.bin .add (.t 44) (.c (.str [58,32]))),qM 46 6,qO 47 (.pcall 0 95 [.t 46,.c (.str [44,32])]),qO 48 (.bin .add (.t 45) (.t 47)),qO 49 (.bin .add (.t 48) (.c (.str [10]))),qO 50 (.bin .add (.t 40) (.t 49)),qM 3 50]) .skip)))))) (.cut (.reg [qO 51 (.bin .add (.t 20) (.c (.int .i64 1))),qM 20 51])))))
def ir_chaseref1_LetterText:IC:=(.seq (.reg [qO 1 (.box 60 (.t 0)),qO 2 (.mov (.c (.str [])))]) (.seq (.reg [qO 9 (.fla 2 (.t 1)),qO 10 (.ld 2 true (.t 9)),qO 11 (.call 118 [.t 10]),qO 12 (.bin .add (.c (.str [70,114,111,109,58,32])) (.t 11)),qO 13 (.bin .add (.t 12) (.c (.str [10]))),qM 3 13]) (.seq (.seq (.reg [qO 14 (.fla 4 (.t 1)),qO 15 (.ld 1 false (.t 14)),qO 16 (.fla 5 (.t 1)),qO 17 (.ld 1 false (.t 16)),qO 18 (.bsl 1 [.t 15,.t 17]),qO 19 (.len (.t 18)),qO 20 (.mov (.c (.int .i64 0)))]) (.block 0 (.loop ir_chaseref1_LetterText_L0))) (.seq (.drg [qM 52 3,qO 53 (.fla 1 (.t 1)),qO 54 (.ld 1 false (.t 53)),qO 55 (.pcall 0 119 [.t 54]),qO 56 (.bin .add (.c (.str [68,97,116,101,58,32])) (.t 55)),qO 57 (.bin .add (.t 56) (.c (.str [10,77,101,115,115,97,103,101,45,73,100,58,32,60]))),qO 58 (.fla 0 (.t 1)),qO 59 (.ld 1 false (.t 58)),qO 60 (.bin .add (.t 57) (.t 59)),qO 61 (.bin .add (.t 60) (.c (.str [62,10]))),qO 62 (.bin .add (.t 52) (.t 61)),qM 3 62]) (.seq (.seq (.reg [qO 63 (.fla 6 (.t 1)),qO 64 (.ld 1 false (.t 63)),qO 65 (.len (.t 64)),qO 66 (.bin .gtr (.t 65) (.c (.int .i64 0)))]) (.cond (.t 66) (.reg [qM 67 3,qO 68 (.fla 6 (.t 1)),qO 69 (.ld 1 false (.t 68)),qO 70 (.call 120 [.t 69]),qO 71 (.bin .add (.c (.str [82,101,102,101,114,101,110,99,101,115,58,32])) (.t 70)),qO 72 (.bin .add (.t 71) (.c (.str [10]))),qO 73 (.bin .add (.t 67) (.t 72)),qM 3 73]) .skip)) (.cut (.seq (.seq (.reg [qO 74 (.fla 7 (.t 1)),qO 75 (.ld 1 false (.t 74)),qO 76 (.bin .neq (.t 75) (.c (.str [])))]) (.cond (.t 76) (.reg [qM 77 3,qO 78 (.fla 7 (.t 1)),qO 79 (.ld 1 false (.t 78)),qO 80 (.bin .add (.c (.str [83,117,98,106,101,99,116,58,32])) (.t 79)),qO 81 (.bin .add (.t 80) (.c (.str [10]))),qO 82 (.bin .add (.t 77) (.t 81)),qM 3 82]) .skip)) (.cut (.seq (.reg [qM 83 3,qO 84 (.bin .add (.t 83) (.c (.str [10]))),qO 85 (.fla 8 (.t 1)),qO 86 (.ld 1 false (.t 85)),qO 87 (.bin .add (.t 84) (.t 86)),qM 2 87]) .ret)))))))))
def rs_chaseref1_LetterText:List IRes:=[.t 2]
theorem ck_chaseref1_LetterText:chkF Tryz.prog Tryz.f34 ir_chaseref1_LetterText rs_chaseref1_LetterText 88=true:=by kernel_rfl
def stT (m:Ltr) (k:Nat):List UInt8:=if k=0 then fromT m.fr else if k=1 then fromT m.fr++toT m.tos else fromT m.fr++toT m.tos++ccT m.ccs
set_option maxHeartbeats 8000000 in
set_option maxRecDepth 100000 in
theorem LetterText_ok (m:Ltr) (i:Nat) (P:LtP m i):PCall Tryz.prog E6 34 [.agg (ltV m)] (·=.str (ltT m i)):=by
 obtain ⟨l1,l2,l3,l4,l5,l6,l7,l8,l9,l10,l11,l12⟩:=P.lens
 have hat:m.at_=((m.at_.toNat:Nat):Int):=by have:=P.c1;omega
 have hs:=DateText_ok m.at_.toNat i (by have:=P.c1;omega) P.c2.1 P.c2.2
 rw [← hat] at hs
 refine pcallF mixed Tryz.func34 ck_chaseref1_LetterText ?_
 simp only [a0,l0,OS.ao,List.map_cons,List.map_nil,List.length_cons,List.length_nil,List.cons_append,List.nil_append,Nat.reduceSub,Nat.reduceAdd,List.replicate_succ,List.replicate_zero,ir_chaseref1_LetterText,rs_chaseref1_LetterText,ZZ,WW,Ze,reduceCtorEq,Nat.reduceAdd,Nat.reduceMul,Nat.reduceLeDiff,Nat.reduceLT,Nat.reduceEqDiff]
 simp only [ltV,ZZ,WW,Ze,reduceCtorEq,Nat.reduceAdd,Nat.reduceMul,Nat.reduceLeDiff,Nat.reduceLT,Nat.reduceEqDiff]
 refine use1 (AddressText_ok m.fr.1 m.fr.2 (by have:=P.b2;omega) (by have:=P.b2;omega)) rfl (.inl rfl) ?_
 simp only [ZZ,WW,Ze,reduceCtorEq,Nat.reduceAdd,Nat.reduceMul,Nat.reduceLeDiff,Nat.reduceLT,Nat.reduceEqDiff]
 refine ⟨by omega,by omega,?_⟩
 have eF:70 :: 114 :: 111 :: 109 :: 58 :: 32 :: (adT m.fr.1 m.fr.2++[10])=stT m 0:=rfl
 rw [eF]
 refine loop_intro (fun n fr L=>∃ (k:Nat),k≤2∧n=2 - k∧fr=[oo,.adr (.l 1) 0,oo,.p (.str (stT m k)),oo,oo,oo,oo,oo,oo,oo,oo,oo,oo,oo,oo,oo,oo,.p (.sl 1 [[.sl 2 (adrE m.tos)],[.sl 2 (adrE m.ccs)]]),.p (int ((2:Nat):Int)),.p (int (k:Nat)),oo,oo,oo,oo,oo,oo,oo,oo,oo,oo,oo,oo,oo,oo,oo,oo,oo,oo,oo,oo,oo,oo,oo,oo,oo,oo,oo,oo,oo,oo,oo,oo,oo,oo,oo,oo,oo,oo,oo,oo,oo,oo,oo,oo,oo,oo,oo,oo,oo,oo,oo,oo,oo,oo,oo,oo,oo,oo,oo,oo,oo,oo,oo,oo,oo,oo,oo]∧L=[(.l 1,.box [.p (.str m.id),.p (int m.at_),.p (.str m.fr.1),.p (.str m.fr.2),.p (.sl 2 (adrE m.tos)),.p (.sl 2 (adrE m.ccs)),.p (.sl 1 (strE m.refs)),.p (.str m.sub),.p (.str m.body)] tMail)]) (2) [oo,.adr (.l 1) 0,oo,.p (.str (stT m 0)),oo,oo,oo,oo,oo,oo,oo,oo,oo,oo,oo,oo,oo,oo,.p (.sl 1 [[.sl 2 (adrE m.tos)],[.sl 2 (adrE m.ccs)]]),.p (int ((2:Nat):Int)),.p (int (0:Nat)),oo,oo,oo,oo,oo,oo,oo,oo,oo,oo,oo,oo,oo,oo,oo,oo,oo,oo,oo,oo,oo,oo,oo,oo,oo,oo,oo,oo,oo,oo,oo,oo,oo,oo,oo,oo,oo,oo,oo,oo,oo,oo,oo,oo,oo,oo,oo,oo,oo,oo,oo,oo,oo,oo,oo,oo,oo,oo,oo,oo,oo,oo,oo,oo,oo,oo,oo] [(.l 1,.box [.p (.str m.id),.p (int m.at_),.p (.str m.fr.1),.p (.str m.fr.2),.p (.sl 2 (adrE m.tos)),.p (.sl 2 (adrE m.ccs)),.p (.sl 1 (strE m.refs)),.p (.str m.sub),.p (.str m.body)] tMail)] (by simp only [ZZ,WW,Ze,reduceCtorEq,Nat.reduceAdd,Nat.reduceMul,Nat.reduceLeDiff,Nat.reduceLT,Nat.reduceEqDiff];rfl) (by (simp only [ZZ,WW,Ze,reduceCtorEq,Nat.reduceAdd,Nat.reduceMul,Nat.reduceLeDiff,Nat.reduceLT,Nat.reduceEqDiff];try trivial)) ⟨0,by omega,by omega,rfl,rfl⟩ ?_
 rintro n fr L ⟨k,hk,rfl,rfl,rfl⟩
 simp only [ir_chaseref1_LetterText_L0,ZZ,WW,Ze,reduceCtorEq,Nat.reduceAdd,Nat.reduceMul,Nat.reduceLeDiff,Nat.reduceLT,Nat.reduceEqDiff]
 have hsk:(stT m k).length≤200000000:=by
  unfold stT
  split
  ·omega
  ·split
   ·simp only [List.length_append];omega
   ·simp only [List.length_append];omega
 refine br ?_ ?_
 ·intro h
  have hlt:k < 2:=by have:=of_decide_eq_true h;omega
  obtain ⟨l,hg,hl,hlb,hld,hnx⟩:∃ l:List AdT,([[PV.sl 2 (adrE m.tos)],[PV.sl 2 (adrE m.ccs)]]:List (List PV)).getD k []=[.sl 2 (adrE l)]∧l.length≤1000∧(∀ a∈l,a.1.length≤30000∧a.2.length≤30000)∧(adsT l).length≤70000000∧stT m (k+1)=stT m k++if l=[] then [] else (([[84,111],[67,99]]:List (List UInt8)).getD k [])++[58,32]++adsT l++[10]:=by
   match k,hlt with
   |0,_=>exact ⟨m.tos,rfl,P.b4,P.b5,l3,rfl⟩
   |1,_=>exact ⟨m.ccs,rfl,P.b6,P.b7,l5,rfl⟩
  have hnm:∃ nm:List UInt8,([[PV.str [84,111]],[PV.str [67,99]]]:List (List PV)).getD k []=[.str nm]∧nm.length=2∧([[84,111],[67,99]]:List (List UInt8)).getD k []=nm:=by
   match k,hlt with
   |0,_=>exact ⟨_,rfl,rfl,rfl⟩
   |1,_=>exact ⟨_,rfl,rfl,rfl⟩
  obtain ⟨nm,hgn,hnl,hne⟩:=hnm
  rw [hne] at hnx
  simp only [ZZ,WW,Ze,reduceCtorEq,Nat.reduceAdd,Nat.reduceMul,Nat.reduceLeDiff,Nat.reduceLT,Nat.reduceEqDiff,hg,adrE_len]
  refine ⟨⟨by omega,by omega⟩,by omega,?_⟩
  rw [show AO.row [] 9 1 true=AO.row (strE ((l.take 0).map fun a=>adT a.1 a.2)) 9 1 true from rfl]
  refine loop_intro (fun n fr L=>∃ (j:Nat),j≤l.length∧n=l.length - j∧fr=[oo,.adr (.l 1) 0,oo,.p (.str (stT m k)),.p (int (k:Nat)),oo,.row (.l 6),oo,oo,oo,oo,oo,oo,oo,oo,oo,oo,oo,.p (.sl 1 [[.sl 2 (adrE m.tos)],[.sl 2 (adrE m.ccs)]]),.p (int ((2:Nat):Int)),.p (int (k:Nat)),oo,oo,oo,oo,.p (.sl 2 (adrE l)),.p (int (l.length:Nat)),.p (int (j:Nat)),oo,oo,oo,oo,oo,oo,oo,oo,oo,oo,oo,oo,oo,oo,oo,oo,oo,oo,oo,oo,oo,oo,oo,oo,oo,oo,oo,oo,oo,oo,oo,oo,oo,oo,oo,oo,oo,oo,oo,oo,oo,oo,oo,oo,oo,oo,oo,oo,oo,oo,oo,oo,oo,oo,oo,oo,oo,oo,oo,oo]∧L=[(.l 1,.box [.p (.str m.id),.p (int m.at_),.p (.str m.fr.1),.p (.str m.fr.2),.p (.sl 2 (adrE m.tos)),.p (.sl 2 (adrE m.ccs)),.p (.sl 1 (strE m.refs)),.p (.str m.sub),.p (.str m.body)] tMail),(.l 6,.row (strE ((l.take j).map fun a=>adT a.1 a.2)) 9 1 true)]) (l.length) [oo,.adr (.l 1) 0,oo,.p (.str (stT m k)),.p (int (k:Nat)),oo,.row (.l 6),oo,oo,oo,oo,oo,oo,oo,oo,oo,oo,oo,.p (.sl 1 [[.sl 2 (adrE m.tos)],[.sl 2 (adrE m.ccs)]]),.p (int ((2:Nat):Int)),.p (int (k:Nat)),oo,oo,oo,oo,.p (.sl 2 (adrE l)),.p (int (l.length:Nat)),.p (int (0:Nat)),oo,oo,oo,oo,oo,oo,oo,oo,oo,oo,oo,oo,oo,oo,oo,oo,oo,oo,oo,oo,oo,oo,oo,oo,oo,oo,oo,oo,oo,oo,oo,oo,oo,oo,oo,oo,oo,oo,oo,oo,oo,oo,oo,oo,oo,oo,oo,oo,oo,oo,oo,oo,oo,oo,oo,oo,oo,oo,oo,oo] [(.l 1,.box [.p (.str m.id),.p (int m.at_),.p (.str m.fr.1),.p (.str m.fr.2),.p (.sl 2 (adrE m.tos)),.p (.sl 2 (adrE m.ccs)),.p (.sl 1 (strE m.refs)),.p (.str m.sub),.p (.str m.body)] tMail),(.l 6,.row (strE ((l.take 0).map fun a=>adT a.1 a.2)) 9 1 true)] (by simp only [ZZ,WW,Ze,reduceCtorEq,Nat.reduceAdd,Nat.reduceMul,Nat.reduceLeDiff,Nat.reduceLT,Nat.reduceEqDiff,adrE_len];try trivial) (by (simp only [ZZ,WW,Ze,reduceCtorEq,Nat.reduceAdd,Nat.reduceMul,Nat.reduceLeDiff,Nat.reduceLT,Nat.reduceEqDiff];try trivial)) ⟨0,by omega,by omega,rfl,rfl⟩ ?_
  rintro n fr L ⟨j,hj,rfl,rfl,rfl⟩
  simp only [ir_chaseref1_LetterText_L1,ZZ,WW,Ze,reduceCtorEq,Nat.reduceAdd,Nat.reduceMul,Nat.reduceLeDiff,Nat.reduceLT,Nat.reduceEqDiff]
  refine br ?_ ?_
  ·intro h
   have hlj:j < l.length:=by have:=of_decide_eq_true h;omega
   clear hgn hnx hne hnl hg hld eF hs hsk l1 l2 l3 l4 l5 l6 l7 l8 l9 l10 l11 l12 hat
   obtain ⟨x,hx⟩:∃ x,l[j]?=some x:=⟨_,List.getElem?_eq_getElem hlj⟩
   have hgx:=adrE_get hx
   have hbx:=hlb x (List.mem_of_getElem? hx)
   have hq:strE ((l.take j).map fun a=>adT a.1 a.2)++[[PV.str (adT x.1 x.2)]]=strE ((l.take (j+1)).map fun a=>adT a.1 a.2):=by rw [map_take_succ _ hx,strE_app];rfl
   simp only [ZZ,WW,Ze,reduceCtorEq,Nat.reduceAdd,Nat.reduceMul,Nat.reduceLeDiff,Nat.reduceLT,Nat.reduceEqDiff,hgx,adrE_len]
   ((repeat' (with_reducible apply And.intro))<;>try ((exact sc_)))
   refine use1 (AddressText_ok x.1 x.2 (by omega) (by omega)) rfl (.inl rfl) ?_
   simp only [ZZ,WW,Ze,reduceCtorEq,Nat.reduceAdd,Nat.reduceMul,Nat.reduceLeDiff,Nat.reduceLT,Nat.reduceEqDiff,strE_len]
   ((repeat' (with_reducible apply And.intro))<;>try ((exact sc_)))
   rw [hq]
   refine end_round (l.length - (j+1)) [oo,.adr (.l 1) 0,oo,.p (.str (stT m k)),.p (int (k:Nat)),oo,.row (.l 6),oo,oo,oo,oo,oo,oo,oo,oo,oo,oo,oo,.p (.sl 1 [[.sl 2 (adrE m.tos)],[.sl 2 (adrE m.ccs)]]),.p (int ((2:Nat):Int)),.p (int (k:Nat)),oo,oo,oo,oo,.p (.sl 2 (adrE l)),.p (int (l.length:Nat)),.p (int ((j+1):Nat)),oo,oo,oo,oo,oo,oo,oo,oo,oo,oo,oo,oo,oo,oo,oo,oo,oo,oo,oo,oo,oo,oo,oo,oo,oo,oo,oo,oo,oo,oo,oo,oo,oo,oo,oo,oo,oo,oo,oo,oo,oo,oo,oo,oo,oo,oo,oo,oo,oo,oo,oo,oo,oo,oo,oo,oo,oo,oo,oo,oo] [(.l 1,.box [.p (.str m.id),.p (int m.at_),.p (.str m.fr.1),.p (.str m.fr.2),.p (.sl 2 (adrE m.tos)),.p (.sl 2 (adrE m.ccs)),.p (.sl 1 (strE m.refs)),.p (.str m.sub),.p (.str m.body)] tMail),(.l 6,.row (strE ((l.take (j+1)).map fun a=>adT a.1 a.2)) 9 1 true)] (by omega) (by (simp only [ZZ,WW,Ze,reduceCtorEq,Nat.reduceAdd,Nat.reduceMul,Nat.reduceLeDiff,Nat.reduceLT,Nat.reduceEqDiff];try trivial)) (by (simp only [ZZ,WW,Ze,reduceCtorEq,Nat.reduceAdd,Nat.reduceMul,Nat.reduceLeDiff,Nat.reduceLT,Nat.reduceEqDiff];try trivial)) ⟨j+1,by omega,rfl,rfl,rfl⟩
  intro h
  have hge:l.length≤j:=by have:=of_decide_eq_false h;omega
  rw [List.take_of_length_le hge]
  simp only [ZZ,WW,Ze,reduceCtorEq,Nat.reduceAdd,Nat.reduceMul,Nat.reduceLeDiff,Nat.reduceLT,Nat.reduceEqDiff,strE_len,List.length_map]
  refine br ?_ ?_
  ·intro h2
   have hn0:l≠[]:=fun e=>by rw [e] at h2;simp at h2
   rw [if_neg hn0] at hnx
   refine drg1 (x1:=.str (adsT l)) ?_
   simp only [ZZ,WW,Ze,reduceCtorEq,Nat.reduceAdd,Nat.reduceMul,Nat.reduceLeDiff,Nat.reduceLT,Nat.reduceEqDiff,hgn]
   have g2:(nm++[58,32]++adsT l++[10]).length≤100000000:=by simp only [List.length_append,List.length_cons,List.length_nil];omega
   have g3:(nm++[58,32]++adsT l).length≤100000000:=by simp only [List.length_append,List.length_cons,List.length_nil];omega
   have g4:(nm++[58,32]).length=4:=by simp only [List.length_append,List.length_cons,List.length_nil];omega
   refine ⟨⟨by omega,by omega⟩,by omega,by omega,usep (Join_ok (l.map fun a=>adT a.1 a.2) [44,32] (by simp;omega) (by unfold adsT at hld;omega)) rfl (.inr rfl),by omega,by omega,by omega,?_⟩
   clear g2 g3 g4 hgn hne hnl hg hld eF hs l1 l2 l3 l4 l5 l6 l7 l8 l9 l10 l11 l12 hat
   rw [← hnx]
   refine cut_same zE_ ?_
   simp only [ZZ,WW,Ze,reduceCtorEq,Nat.reduceAdd,Nat.reduceMul,Nat.reduceLeDiff,Nat.reduceLT,Nat.reduceEqDiff]
   refine ⟨i64_of (by omega) (by omega),?_⟩
   refine end_round (2 - (k+1)) [oo,.adr (.l 1) 0,oo,.p (.str (stT m (k+1))),oo,oo,oo,oo,oo,oo,oo,oo,oo,oo,oo,oo,oo,oo,.p (.sl 1 [[.sl 2 (adrE m.tos)],[.sl 2 (adrE m.ccs)]]),.p (int ((2:Nat):Int)),.p (int ((k+1):Nat)),oo,oo,oo,oo,oo,oo,oo,oo,oo,oo,oo,oo,oo,oo,oo,oo,oo,oo,oo,oo,oo,oo,oo,oo,oo,oo,oo,oo,oo,oo,oo,oo,oo,oo,oo,oo,oo,oo,oo,oo,oo,oo,oo,oo,oo,oo,oo,oo,oo,oo,oo,oo,oo,oo,oo,oo,oo,oo,oo,oo,oo,oo,oo,oo,oo,oo,oo] [(.l 1,.box [.p (.str m.id),.p (int m.at_),.p (.str m.fr.1),.p (.str m.fr.2),.p (.sl 2 (adrE m.tos)),.p (.sl 2 (adrE m.ccs)),.p (.sl 1 (strE m.refs)),.p (.str m.sub),.p (.str m.body)] tMail)] (by omega) (by (simp only [ZZ,WW,Ze,reduceCtorEq,Nat.reduceAdd,Nat.reduceMul,Nat.reduceLeDiff,Nat.reduceLT,Nat.reduceEqDiff];try trivial)) (by (simp only [ZZ,WW,Ze,reduceCtorEq,Nat.reduceAdd,Nat.reduceMul,Nat.reduceLeDiff,Nat.reduceLT,Nat.reduceEqDiff];try trivial)) ⟨k+1,by omega,rfl,rfl,rfl⟩
  ·intro h2
   have hn0:l=[]:=by have:=of_decide_eq_false h2;exact List.eq_nil_of_length_eq_zero (by omega)
   rw [if_pos hn0,List.append_nil] at hnx
   clear hgn hne hnl hg hld eF hs l1 l2 l3 l4 l5 l6 l7 l8 l9 l10 l11 l12 hat
   simp only [ZZ,WW,Ze,reduceCtorEq,Nat.reduceAdd,Nat.reduceMul,Nat.reduceLeDiff,Nat.reduceLT,Nat.reduceEqDiff]
   refine cut_same zE_ ?_
   simp only [ZZ,WW,Ze,reduceCtorEq,Nat.reduceAdd,Nat.reduceMul,Nat.reduceLeDiff,Nat.reduceLT,Nat.reduceEqDiff]
   refine ⟨i64_of (by omega) (by omega),?_⟩
   rw [← hnx]
   refine end_round (2 - (k+1)) [oo,.adr (.l 1) 0,oo,.p (.str (stT m (k+1))),oo,oo,oo,oo,oo,oo,oo,oo,oo,oo,oo,oo,oo,oo,.p (.sl 1 [[.sl 2 (adrE m.tos)],[.sl 2 (adrE m.ccs)]]),.p (int ((2:Nat):Int)),.p (int ((k+1):Nat)),oo,oo,oo,oo,oo,oo,oo,oo,oo,oo,oo,oo,oo,oo,oo,oo,oo,oo,oo,oo,oo,oo,oo,oo,oo,oo,oo,oo,oo,oo,oo,oo,oo,oo,oo,oo,oo,oo,oo,oo,oo,oo,oo,oo,oo,oo,oo,oo,oo,oo,oo,oo,oo,oo,oo,oo,oo,oo,oo,oo,oo,oo,oo,oo,oo,oo,oo] [(.l 1,.box [.p (.str m.id),.p (int m.at_),.p (.str m.fr.1),.p (.str m.fr.2),.p (.sl 2 (adrE m.tos)),.p (.sl 2 (adrE m.ccs)),.p (.sl 1 (strE m.refs)),.p (.str m.sub),.p (.str m.body)] tMail)] (by omega) (by (simp only [ZZ,WW,Ze,reduceCtorEq,Nat.reduceAdd,Nat.reduceMul,Nat.reduceLeDiff,Nat.reduceLT,Nat.reduceEqDiff];try trivial)) (by (simp only [ZZ,WW,Ze,reduceCtorEq,Nat.reduceAdd,Nat.reduceMul,Nat.reduceLeDiff,Nat.reduceLT,Nat.reduceEqDiff];try trivial)) ⟨k+1,by omega,rfl,rfl,rfl⟩
 intro h
 have hge:k=2:=by have:=of_decide_eq_false h;omega
 subst hge
 have e2:stT m 2=fromT m.fr++toT m.tos++ccT m.ccs:=rfl
 rw [e2] at hsk ⊢
 have hLT:ltT m i=fromT m.fr++toT m.tos++ccT m.ccs++dtT (dtText m.at_.toNat i) m.id++rfT m.refs++sbT m.sub++([10]++m.body):=rfl
 rw [hLT]
 generalize fromT m.fr++toT m.tos++ccT m.ccs=S at *
 simp only [ZZ,WW,Ze,reduceCtorEq,Nat.reduceAdd,Nat.reduceMul,Nat.reduceLeDiff,Nat.reduceLT,Nat.reduceEqDiff]
 refine drg1 (x1:=.str (dtText m.at_.toNat i)) ?_
 simp only [ZZ,WW,Ze,reduceCtorEq,Nat.reduceAdd,Nat.reduceMul,Nat.reduceLeDiff,Nat.reduceLT,Nat.reduceEqDiff]
 have b1:=P.b1
 refine ⟨usep hs rfl (.inl rfl),by (try simp only [List.length_append,List.length_cons,List.length_nil] at *);omega,by (try simp only [List.length_append,List.length_cons,List.length_nil] at *);omega,by (try simp only [List.length_append,List.length_cons,List.length_nil] at *);omega,by (try simp only [List.length_append,List.length_cons,List.length_nil] at *);omega,by (try simp only [List.length_append,List.length_cons,List.length_nil] at *);omega,?_⟩
 have eD:68 :: 97 :: 116 :: 101 :: 58 :: 32 :: (dtText m.at_.toNat i++[10,77,101,115,115,97,103,101,45,73,100,58,32,60]++m.id++[62,10])=dtT (dtText m.at_.toNat i) m.id:=dtT_eq _ _
 rw [eD]
 clear eD hs
 have hS2:(S++dtT (dtText m.at_.toNat i) m.id).length≤300000000:=by simp only [List.length_append];omega
 generalize S++dtT (dtText m.at_.toNat i) m.id=S2 at *
 refine br_join (fun fr L=>fr=[oo,.adr (.l 1) 0,oo,.p (.str (S2++rfT m.refs)),oo,oo,oo,oo,oo,oo,oo,oo,oo,oo,oo,oo,oo,oo,oo,oo,oo,oo,oo,oo,oo,oo,oo,oo,oo,oo,oo,oo,oo,oo,oo,oo,oo,oo,oo,oo,oo,oo,oo,oo,oo,oo,oo,oo,oo,oo,oo,oo,oo,oo,oo,oo,oo,oo,oo,oo,oo,oo,oo,oo,oo,oo,oo,oo,oo,oo,oo,oo,oo,oo,oo,oo,oo,oo,oo,oo,oo,oo,oo,oo,oo,oo,oo,oo]∧L=[(.l 1,.box [.p (.str m.id),.p (int m.at_),.p (.str m.fr.1),.p (.str m.fr.2),.p (.sl 2 (adrE m.tos)),.p (.sl 2 (adrE m.ccs)),.p (.sl 1 (strE m.refs)),.p (.str m.sub),.p (.str m.body)] tMail)]) ?_ ?_ ?_
 ·intro h
  have hne:m.refs≠[]:=fun e=>by rw [e] at h;simp [strE] at h
  have eT:S2++82 :: 101 :: 102 :: 101 :: 114 :: 101 :: 110 :: 99 :: 101 :: 115 :: 58 :: 32 :: (idsT m.refs++[10])=S2++rfT m.refs:=by rw [rfT,if_neg hne];rfl
  simp only [ZZ,WW,Ze,reduceCtorEq,Nat.reduceAdd,Nat.reduceMul,Nat.reduceLeDiff,Nat.reduceLT,Nat.reduceEqDiff]
  refine use1 (idList_ok m.refs P.b8 P.b9 hne) rfl (.inl rfl) ?_
  simp only [ZZ,WW,Ze,reduceCtorEq,Nat.reduceAdd,Nat.reduceMul,Nat.reduceLeDiff,Nat.reduceLT,Nat.reduceEqDiff]
  refine ⟨by (try simp only [List.length_append,List.length_cons,List.length_nil] at *);omega,by (try simp only [List.length_append,List.length_cons,List.length_nil] at *);omega,by (try simp only [List.length_append,List.length_cons,List.length_nil] at *);omega,?_⟩
  rw [eT]
  exact to_mid [oo,.adr (.l 1) 0,oo,.p (.str (S2++rfT m.refs)),oo,oo,oo,oo,oo,oo,oo,oo,oo,oo,oo,oo,oo,oo,oo,oo,oo,oo,oo,oo,oo,oo,oo,oo,oo,oo,oo,oo,oo,oo,oo,oo,oo,oo,oo,oo,oo,oo,oo,oo,oo,oo,oo,oo,oo,oo,oo,oo,oo,oo,oo,oo,oo,oo,oo,oo,oo,oo,oo,oo,oo,oo,oo,oo,oo,oo,oo,oo,oo,oo,oo,oo,oo,oo,oo,oo,oo,oo,oo,oo,oo,oo,oo,oo] [(.l 1,.box [.p (.str m.id),.p (int m.at_),.p (.str m.fr.1),.p (.str m.fr.2),.p (.sl 2 (adrE m.tos)),.p (.sl 2 (adrE m.ccs)),.p (.sl 1 (strE m.refs)),.p (.str m.sub),.p (.str m.body)] tMail)] (by (simp only [ZZ,WW,Ze,reduceCtorEq,Nat.reduceAdd,Nat.reduceMul,Nat.reduceLeDiff,Nat.reduceLT,Nat.reduceEqDiff];try trivial)) zE_ ⟨rfl,rfl⟩
 ·intro h
  have hne:m.refs=[]:=by rw [strE_len] at h;have:=of_decide_eq_false h;exact List.eq_nil_of_length_eq_zero (by omega)
  have eT:S2=S2++rfT m.refs:=by rw [rfT,if_pos hne,List.append_nil]
  simp only [ZZ,WW,Ze,reduceCtorEq,Nat.reduceAdd,Nat.reduceMul,Nat.reduceLeDiff,Nat.reduceLT,Nat.reduceEqDiff]
  exact to_mid [oo,.adr (.l 1) 0,oo,.p (.str (S2++rfT m.refs)),oo,oo,oo,oo,oo,oo,oo,oo,oo,oo,oo,oo,oo,oo,oo,oo,oo,oo,oo,oo,oo,oo,oo,oo,oo,oo,oo,oo,oo,oo,oo,oo,oo,oo,oo,oo,oo,oo,oo,oo,oo,oo,oo,oo,oo,oo,oo,oo,oo,oo,oo,oo,oo,oo,oo,oo,oo,oo,oo,oo,oo,oo,oo,oo,oo,oo,oo,oo,oo,oo,oo,oo,oo,oo,oo,oo,oo,oo,oo,oo,oo,oo,oo,oo] [(.l 1,.box [.p (.str m.id),.p (int m.at_),.p (.str m.fr.1),.p (.str m.fr.2),.p (.sl 2 (adrE m.tos)),.p (.sl 2 (adrE m.ccs)),.p (.sl 1 (strE m.refs)),.p (.str m.sub),.p (.str m.body)] tMail)] (by rw [← eT];(simp only [ZZ,WW,Ze,reduceCtorEq,Nat.reduceAdd,Nat.reduceMul,Nat.reduceLeDiff,Nat.reduceLT,Nat.reduceEqDiff];try trivial)) zE_ ⟨rfl,rfl⟩
 rintro fr L ⟨rfl,rfl⟩
 have hS3:(S2++rfT m.refs).length≤400000000:=by simp only [List.length_append];omega
 generalize S2++rfT m.refs=S3 at *
 simp only [ZZ,WW,Ze,reduceCtorEq,Nat.reduceAdd,Nat.reduceMul,Nat.reduceLeDiff,Nat.reduceLT,Nat.reduceEqDiff]
 refine br_join (fun fr L=>fr=[oo,.adr (.l 1) 0,oo,.p (.str (S3++sbT m.sub)),oo,oo,oo,oo,oo,oo,oo,oo,oo,oo,oo,oo,oo,oo,oo,oo,oo,oo,oo,oo,oo,oo,oo,oo,oo,oo,oo,oo,oo,oo,oo,oo,oo,oo,oo,oo,oo,oo,oo,oo,oo,oo,oo,oo,oo,oo,oo,oo,oo,oo,oo,oo,oo,oo,oo,oo,oo,oo,oo,oo,oo,oo,oo,oo,oo,oo,oo,oo,oo,oo,oo,oo,oo,oo,oo,oo,oo,oo,oo,oo,oo,oo,oo,oo]∧L=[(.l 1,.box [.p (.str m.id),.p (int m.at_),.p (.str m.fr.1),.p (.str m.fr.2),.p (.sl 2 (adrE m.tos)),.p (.sl 2 (adrE m.ccs)),.p (.sl 1 (strE m.refs)),.p (.str m.sub),.p (.str m.body)] tMail)]) ?_ ?_ ?_
 ·intro h
  have hne:¬ m.sub=[]:=by simpa using h
  have eT:S3++83 :: 117 :: 98 :: 106 :: 101 :: 99 :: 116 :: 58 :: 32 :: (m.sub++[10])=S3++sbT m.sub:=by rw [sbT,if_neg hne];rfl
  have b10:=P.b10
  simp only [ZZ,WW,Ze,reduceCtorEq,Nat.reduceAdd,Nat.reduceMul,Nat.reduceLeDiff,Nat.reduceLT,Nat.reduceEqDiff]
  refine ⟨by (try simp only [List.length_append,List.length_cons,List.length_nil] at *);omega,by (try simp only [List.length_append,List.length_cons,List.length_nil] at *);omega,by (try simp only [List.length_append,List.length_cons,List.length_nil] at *);omega,?_⟩
  rw [eT]
  exact to_mid [oo,.adr (.l 1) 0,oo,.p (.str (S3++sbT m.sub)),oo,oo,oo,oo,oo,oo,oo,oo,oo,oo,oo,oo,oo,oo,oo,oo,oo,oo,oo,oo,oo,oo,oo,oo,oo,oo,oo,oo,oo,oo,oo,oo,oo,oo,oo,oo,oo,oo,oo,oo,oo,oo,oo,oo,oo,oo,oo,oo,oo,oo,oo,oo,oo,oo,oo,oo,oo,oo,oo,oo,oo,oo,oo,oo,oo,oo,oo,oo,oo,oo,oo,oo,oo,oo,oo,oo,oo,oo,oo,oo,oo,oo,oo,oo] [(.l 1,.box [.p (.str m.id),.p (int m.at_),.p (.str m.fr.1),.p (.str m.fr.2),.p (.sl 2 (adrE m.tos)),.p (.sl 2 (adrE m.ccs)),.p (.sl 1 (strE m.refs)),.p (.str m.sub),.p (.str m.body)] tMail)] (by (simp only [ZZ,WW,Ze,reduceCtorEq,Nat.reduceAdd,Nat.reduceMul,Nat.reduceLeDiff,Nat.reduceLT,Nat.reduceEqDiff];try trivial)) zE_ ⟨rfl,rfl⟩
 ·intro h
  have hne:m.sub=[]:=by simpa using h
  have eT:S3=S3++sbT m.sub:=by rw [sbT,if_pos hne,List.append_nil]
  simp only [ZZ,WW,Ze,reduceCtorEq,Nat.reduceAdd,Nat.reduceMul,Nat.reduceLeDiff,Nat.reduceLT,Nat.reduceEqDiff]
  exact to_mid [oo,.adr (.l 1) 0,oo,.p (.str (S3++sbT m.sub)),oo,oo,oo,oo,oo,oo,oo,oo,oo,oo,oo,oo,oo,oo,oo,oo,oo,oo,oo,oo,oo,oo,oo,oo,oo,oo,oo,oo,oo,oo,oo,oo,oo,oo,oo,oo,oo,oo,oo,oo,oo,oo,oo,oo,oo,oo,oo,oo,oo,oo,oo,oo,oo,oo,oo,oo,oo,oo,oo,oo,oo,oo,oo,oo,oo,oo,oo,oo,oo,oo,oo,oo,oo,oo,oo,oo,oo,oo,oo,oo,oo,oo,oo,oo] [(.l 1,.box [.p (.str m.id),.p (int m.at_),.p (.str m.fr.1),.p (.str m.fr.2),.p (.sl 2 (adrE m.tos)),.p (.sl 2 (adrE m.ccs)),.p (.sl 1 (strE m.refs)),.p (.str m.sub),.p (.str m.body)] tMail)] (by rw [← eT];(simp only [ZZ,WW,Ze,reduceCtorEq,Nat.reduceAdd,Nat.reduceMul,Nat.reduceLeDiff,Nat.reduceLT,Nat.reduceEqDiff];try trivial)) zE_ ⟨rfl,rfl⟩
 rintro fr L ⟨rfl,rfl⟩
 have hS4:(S3++sbT m.sub).length≤500000000:=by simp only [List.length_append];omega
 have b11:=P.b11
 generalize S3++sbT m.sub=S4 at *
 simp only [ZZ,WW,Ze,reduceCtorEq,Nat.reduceAdd,Nat.reduceMul,Nat.reduceLeDiff,Nat.reduceLT,Nat.reduceEqDiff]
 refine ⟨by (try simp only [List.length_append,List.length_cons,List.length_nil] at *);omega,by (try simp only [List.length_append,List.length_cons,List.length_nil] at *);omega,?_⟩
 rw [List.append_assoc]
 rfl
end Go.Proofs.YtehfjlpenlffmaaGreatDoor
namespace Go.Proofs.YtehfjlpenlffmaaGreatDoor
open Go.Lib Go.MapKept Go.Maps Go.RowKit Go.Shelf Go.Sort
open Go.WideElems (Fit rd rg pl rd_val)
def Rz:Value→Option (DataW Unit×List MemPlace):=fun _=>some (.nil,[])
theorem ins_perm (x:Lit×DataW Unit):∀ l,(DataW.insert x l).Perm (x :: l)
 |[]=>List.Perm.refl _
 |y :: r=>by
  rw [DataW.insert]
  split
  ·exact List.Perm.refl _
  ·exact ((ins_perm x r).cons y).trans (List.Perm.swap x y r)
theorem fold_perm:∀ l:List (Lit×DataW Unit),(l.foldr DataW.insert []).Perm l
 |[]=>List.Perm.refl _
 |x :: r=>(ins_perm x _).trans ((fold_perm r).cons x)
theorem keys_own {w:World} {b:Nat} {ks:List (List UInt8)} {ents:Array MapEntry} {clock:Nat} (hb:w.heap[b]?=some (.map ents clock)) (hm:MapOk ks ents clock) (hk:∀ k∈ks,k.length≤maxLen) (hn:ks.length≤maxLen) :
  ∃ D:DataW Unit,w.ownsMap Tryz.prog 9 Rz b ks.length D∧(strKeys D).Perm ks∧Maps.size D=ks.length:=by
 obtain ⟨h1,h2⟩:=hm
 have hsz:ents.size=ks.length:=by
  have:=congrArg List.length h1
  simpa using this
 have hkey:∀ x∈ents.toList,∃ s∈ks,x.key=.string ⟨s.toArray⟩:=by
  intro x hx
  have:x.key∈ents.toList.map (·.key):=List.mem_map_of_mem hx
  rw [h1] at this
  obtain ⟨s,hs,e⟩:=List.mem_map.1 this
  exact ⟨s,hs,e.symm⟩
 have hrd:∀ x∈ents.toList,∀ s∈ks,x.key=.string ⟨s.toArray⟩→WideElems.rd (H:=Unit) Tryz.prog 9 Rz x=some (Lit.string s,DataW.nil):=by
  intro x hx s hs e
  have:=WideMaps.keyOf_string_mk (P:=Tryz.prog) (k:=9) (s:=⟨s.toArray⟩) Tryz.underlying9 (by have:=hk s hs;simpa [ByteArray.size] using this)
  simp only [WideElems.rd,e,this,Rz,Option.bind_some,Option.map_some]
 refine ⟨_,⟨ents,clock,hb,⟨by omega,h2,fun x hx=>?_⟩,by omega,rfl⟩,?_,?_⟩
 ·obtain ⟨s,hs,e⟩:=hkey x hx
  exact ⟨_,hrd x hx s hs e⟩
 ·simp only [strKeys]
  refine ((fold_perm _).map _).trans ?_
  rw [List.map_map]
  have:∀ (es:List MapEntry) (ks':List (List UInt8)),(∀ x∈es,x∈ents.toList)→(∀ k∈ks',k∈ks)→es.map (·.key)=ks'.map (fun s=>Value.string ⟨s.toArray⟩)→es.map ((fun p:Lit×DataW Unit=>strOf p.1) ∘ rg Tryz.prog 9 Rz)=ks':=by
   intro es
   induction es with
   |nil=>intro ks' _ _ h;cases ks' with|nil=>rfl|cons k r=>simp at h
   |cons x r ih=>
    intro ks' h1 h2 h
    cases ks' with
    |nil=>simp at h
    |cons k r'=>
     simp only [List.map_cons,List.cons.injEq] at h
     have e:=hrd x (h1 x (by simp)) k (h2 k (by simp)) h.1
     rw [List.map_cons,ih r' (fun y hy=>h1 y (by simp [hy])) (fun y hy=>h2 y (by simp [hy])) h.2]
     simp only [Function.comp_apply,rg,e,Option.getD_some,strOf]
  exact List.Perm.of_eq (this ents.toList ks (fun _ h=>h) (fun _ h=>h) h1)
 ·rw [Maps.size_eq,(fold_perm _).length_eq,List.length_map]
  simpa using hsz
set_option maxRecDepth 100000 in
theorem Sorted_keysB {E:Envt} (ks:List (List UInt8)) (vs0:List PV) (hn:ks.length≤100000000) (hk:∀ k∈ks,k.length≤1000000000) :
  PCall Tryz.prog E 114 [.clo 192 [.ptr [.mpv ks vs0]]] (·=.sl 1 (strE (ks.mergeSort fun x y=>decide (x≤y)))):=by
 intro w U vs hU hE hEb hA
 simp only [PRepL,PRep,PRepC] at hA
 obtain ⟨v,r,rfl,⟨cs,rfl,vp,rp,rfl,⟨Bm,rfl,hBm,hUm,⟨vm,hcm,_,b,rfl,hbl,hUb,ents,clock,hb,hm,hv⟩,_⟩,rfl⟩,rfl⟩:=hA
 obtain ⟨D,hown,hperm,hsize⟩:=keys_own hb hm (fun k h=>by have:=hk k h;unfold maxLen;omega) (by unfold maxLen;omega)
 have hfk:fnB Tryz.prog 192=true:=by kernel_rfl
 have hfs:fnB Tryz.prog 191=true:=by kernel_rfl
 have hseq:=AnyZ.keys_gives Tryz.layKeysItB Fence.wide (6 - 1 - 1 - 1) trivial rfl (by decide) Bm b ks.length D w hBm hcm hown
 have hsort:AnyZ.SortsIn Tryz.prog Tryz.laySorted_ren Fence.wide (6 - 1):=⟨fun blk off cap ss W hH hblk hsz=>callsIn_wide.2 (AnyM.slices_Sort_string Tryz.laySort blk off cap ss W hH hblk hsz),fun p cap W=>callsIn_wide.2 (AnyM.slices_Sort_string_none Tryz.laySort p cap W)⟩
 have hc:=callsIn_wide.1 (AnyZ.sorted_in Tryz.laySorted Fence.wide 6 trivial trivial trivial trivial rfl (by decide) hsort (fun args w=>run_enter hfs args w) 192 #[.pointer (some ⟨Bm,0,none⟩)] trivial (fun args w=>run_enter hfk args w) _ (Maps.size D) (by rw [hsize];unfold maxLen;omega) (by rw [hsize];omega) w hseq)
 refine hc.mono ?_
 rintro e w' ⟨v,ss,rfl,hS,hrow,hnil,hbw⟩
 have hms:(ss.mergeSort fun x y=>decide (x≤y))=ks.mergeSort fun x y=>decide (x≤y):=mergeSort_of_perm (hS.trans hperm)
 have hsl:ss.length=ks.length:=(hS.trans hperm).length_eq
 rw [hms] at hrow
 refine ⟨v,_,rfl,rfl,?_,grow_below hbw⟩
 have hml:(ks.mergeSort fun x y=>decide (x≤y)).length=ss.length:=by rw [List.length_mergeSort,hsl]
 generalize (ks.mergeSort fun x y=>decide (x≤y))=m at *
 rcases hrow.2 with ⟨rfl,hz⟩|⟨g,cap,cur,rfl,hbase,hg,hn1,hc1,hcs,htk⟩
 ·have:m=[]:=List.eq_nil_of_length_eq_zero (by omega)
  subst this
  exact ⟨none,0,rfl,by simp [strE],fun h=>absurd rfl h⟩
 ·refine ⟨some ⟨g,0,none⟩,cap,by rw [strE_len,hml],by rw [strE_len,hml];exact hn1,fun _=>⟨g,0,rfl,(Array.getElem?_eq_some_iff.1 hg).1,fun h=>by have:=hU g h;omega,?_⟩⟩
  refine repE_sE m 0 fun i u hu=>?_
  have:=hrow.cells (g:=g) rfl i u hu
  rw [Nat.zero_add]
  rwa [show ({ block:=g,off:=0,spot:=none }:Addr).add i=⟨g,i,none⟩ from by cases i<;>simp [Addr.add]] at this
theorem KeysB_ok {E:Envt} (ks:List (List UInt8)) (vs0:List PV):PCall Tryz.prog E 115 [.mpv ks vs0] (·=.clo 192 [.ptr [.mpv ks vs0]]):=by
 intro w U vs hU hE hEb hA
 simp only [PRepL,PRep] at hA
 obtain ⟨v,r,rfl,⟨b,rfl,hbl,hUb,ents,clock,hb,hm,hv⟩,rfl⟩:=hA
 have hc:=callsIn_wide.1 (AnyZ.keys_in Tryz.layKeysB Fence.wide 6 trivial rfl (some b) w)
 refine hc.mono ?_
 rintro e w' ⟨rfl,rfl⟩
 have hk:Keeps w (w.alloc (.cells #[.map (some b)] (Tryz.layKeysB_ren.t 23))) U U:=keeps_alloc w U _
 refine ⟨_,_,rfl,rfl,?_,grow_alloc w _ _⟩
 refine ⟨[.pointer (some ⟨w.heap.size,0,none⟩)],rfl,_,_,rfl,⟨w.heap.size,rfl,by simp,fun h=>by have:=hU _ h;omega,⟨.map (some b),?_,rfl,?_⟩,trivial⟩,rfl⟩
 ·rw [Lib.cell_of_heap (heap_alloc_new w _)]
  rfl
 ·exact PRep.mono hk (.mpv ks vs0) _ ⟨b,rfl,hbl,hUb,ents,clock,hb,hm,hv⟩
end Go.Proofs.YtehfjlpenlffmaaGreatDoor
namespace Go.Proofs.YtehfjlpenlffmaaGreatDoor
open Go.RowKit
theorem le_trW {a b c:List UInt8} (h1:a≤b) (h2:b≤c):a≤c:=List.le_trans h1 h2
theorem le_asW {a b:List UInt8} (h1:a≤b) (h2:b≤a):a=b:=List.le_antisymm h1 h2
theorem srt_pwW (l:List (List UInt8)):(l.mergeSort fun x y=>decide (x≤y)).Pairwise (fun x y=>x≤y):=by
 have:=List.pairwise_mergeSort (le:=fun x y:List UInt8=>decide (x≤y)) (fun a b c h1 h2=>by simp only [decide_eq_true_eq] at *;exact le_trW h1 h2) (fun a b=>by simp only [Bool.or_eq_true,decide_eq_true_eq];exact List.le_total a b) l
 exact this.imp fun h=>of_decide_eq_true h
theorem sorted_uniqW {a b:List (List UInt8)} (ha:a.Pairwise (fun x y=>x≤y)) (hb:b.Pairwise (fun x y=>x≤y)) (na:a.Nodup) (nb:b.Nodup) (hm:∀ x,x∈a↔x∈b):a=b:=
 List.Perm.eq_of_pairwise (le:=fun x y:List UInt8=>x≤y) (fun x y _ _ h1 h2=>le_asW h1 h2) ha hb ((List.perm_ext_iff_of_nodup na nb).2 hm)
theorem cmp_keepsW (m:List (List UInt8)) (j:Nat) (hj:j < m.length):Lib.keeps m.toArray j=true↔j=0∨m[j]≠m[j - 1]'(by omega):=by
 unfold Lib.keeps
 rw [decide_eq_true_iff,getElem!_pos m.toArray j (by simpa using hj),getElem!_pos m.toArray (j - 1) (by simp;omega)]
 simp
theorem cmp_ltW {m:List (List UInt8)} (hp:m.Pairwise (fun x y=>x≤y)):(Lib.compact m).Pairwise (fun x y=>x≤y∧x≠y):=by
 unfold Lib.compact Lib.compactUpTo
 rw [List.pairwise_map]
 have hr:((List.range m.length).filter (Lib.keeps m.toArray)).Pairwise (fun i j=>i < j):=List.pairwise_lt_range.sublist List.filter_sublist
 refine hr.imp_of_mem ?_
 intro i j hi hj hij
 simp only [List.mem_filter,List.mem_range] at hi hj
 rw [getElem!_pos m.toArray i (by simpa using hi.1),getElem!_pos m.toArray j (by simpa using hj.1)]
 simp only [List.getElem_toArray]
 rw [List.pairwise_iff_getElem] at hp
 have h1:=hp i j hi.1 hj.1 hij
 refine ⟨h1,fun e=>?_⟩
 have h2:=((cmp_keepsW m j hj.1).1 hj.2).resolve_left (by omega)
 rcases Nat.lt_or_ge i (j - 1) with h3|h3
 ·have a1:=hp i (j - 1) hi.1 (by omega) h3
  have a2:=hp (j - 1) j (by omega) hj.1 (by omega)
  rw [← e] at a2
  exact h2 (e ▸ le_asW a1 a2)
 ·have:i=j - 1:=by omega
  subst this
  exact h2 e.symm
theorem sortF_pwW (l:List (List UInt8)):(sortF l).Pairwise (fun x y=>x≤y):=(cmp_ltW (srt_pwW l)).imp fun h=>h.1
theorem sortF_ndW (l:List (List UInt8)):(sortF l).Nodup:=by
 rw [List.nodup_iff_pairwise_ne]
 exact (cmp_ltW (srt_pwW l)).imp fun h=>h.2
def kysW (kv:List (List UInt8×PV)):List (List UInt8):=kv.map (·.1)
theorem kys_putW:∀ (kv:List (List UInt8×PV)) (s:List UInt8) (v:PV),kysW (mpS kv s v)=if s∈kysW kv then kysW kv else kysW kv++[s]
 |[],s,v=>by simp [mpS,kysW]
 |p :: r,s,v=>by
  simp only [mpS]
  by_cases h:p.1=s
  ·rw [if_pos h]
   simp [kysW,h]
  ·rw [if_neg h]
   have ih:=kys_putW r s v
   have h2:¬ s=p.1:=fun e=>h e.symm
   simp only [kysW,List.map_cons,List.mem_cons,h2,false_or] at ih ⊢
   rw [ih]
   by_cases hs:s∈List.map (fun x:List UInt8×PV=>x.1) r<;>simp [hs]
def KysI (kv:List (List UInt8×PV)) (W:List (List UInt8)):Prop:=(kysW kv).Nodup∧∀ x,x∈kysW kv↔x∈W
theorem KysI.nil:KysI [] []:=⟨by simp [kysW],fun x=>by simp [kysW]⟩
theorem KysI.put {kv:List (List UInt8×PV)} {W:List (List UInt8)} (h:KysI kv W) (s:List UInt8) (v:PV):KysI (mpS kv s v) (W++[s]):=by
 obtain ⟨h1,h2⟩:=h
 refine ⟨?_,fun x=>?_⟩
 ·rw [kys_putW]
  split
  ·exact h1
  ·rename_i hs
   rw [List.nodup_append]
   exact ⟨h1,by simp,by intro a ha b hb;simp at hb;subst hb;rintro rfl;exact hs ha⟩
 ·rw [kys_putW]
  split
  ·rename_i hs
   rw [h2,List.mem_append,List.mem_singleton]
   constructor
   ·exact .inl
   ·rintro (h|rfl)
    ·exact h
    ·exact (h2 x).1 hs
  ·rw [List.mem_append,List.mem_append,h2]
theorem KysI.sorted {kv:List (List UInt8×PV)} {W:List (List UInt8)} (h:KysI kv W):((kysW kv).mergeSort fun x y=>decide (x≤y))=sortF W:=by
 refine sorted_uniqW (srt_pwW _) (sortF_pwW _) ((List.mergeSort_perm _ _).nodup_iff.2 h.1) (sortF_ndW _) fun x=>?_
 rw [(List.mergeSort_perm _ _).mem_iff,h.2,sortF_memW]
theorem KysI.len {kv:List (List UInt8×PV)} {W:List (List UInt8)} (h:KysI kv W):kv.length≤W.length:=by
 have h1:=congrArg List.length h.sorted
 rw [List.length_mergeSort] at h1
 have h2:=sortF_leW W
 have h3:(kysW kv).length=kv.length:=by simp [kysW]
 omega
def ir_thread_Parties:IC:=(.seq (.reg [qO 1 (.box 60 (.t 0)),qO 2 (.mov (.c (.nl 1))),qO 3 (.mov (.c (.int .i64 0)))]) (.seq (.seq (.reg [qO 5 (.ld 9 true (.t 1)),qO 6 (.call 30 [.t 5]),qM 4 6]) (.seq (.reg [qM 7 4,qO 8 (.bin .neq (.t 7) (.c (.int .i64 0)))]) (.cond (.t 8) (.seq (.reg [qM 9 4,qO 2 (.mov (.c (.nl 1))),qM 3 9]) .ret) .skip))) (.seq (.reg [qO 10 (.ld 9 true (.t 1)),qO 11 (.call 116 [.t 10]),qO 12 (.call 115 [.t 11]),qO 13 (.call 114 [.t 12]),qM 2 13,qO 3 (.mov (.c (.int .i64 0)))]) .ret)))
def rs_thread_Parties:List IRes:=[.t 2,.t 3]
theorem ck_thread_Parties:chkF Tryz.prog Tryz.f32 ir_thread_Parties rs_thread_Parties 14=true:=by kernel_rfl
theorem partiesK_ok {E:Envt} (m:Ltr) (hm:LtB m):PCall Tryz.prog E 116 [.agg (ltV m)] (fun x=>∃ kv:List (List UInt8×PV),x=.mpv (kv.map (·.1)) (kv.map (·.2))∧KysI kv (ptsOf m)):=by
 obtain ⟨b1,b2,b3,b4,b5,b6,b7,b8,b9,b10,b11⟩:=hm
 refine pcallF mixed Tryz.func116 ck_thread_parties ?_
 simp only [a0,l0,OS.ao,List.map_cons,List.map_nil,List.length_cons,List.length_nil,List.cons_append,List.nil_append,Nat.reduceSub,Nat.reduceAdd,List.replicate_succ,List.replicate_zero,ir_thread_parties,rs_thread_parties,ZZ,WW,Ze,reduceCtorEq,Nat.reduceAdd,Nat.reduceMul,Nat.reduceLeDiff,Nat.reduceLT,Nat.reduceEqDiff]
 simp only [ltV,ZZ,WW,Ze,reduceCtorEq,Nat.reduceAdd,Nat.reduceMul,Nat.reduceLeDiff,Nat.reduceLT,Nat.reduceEqDiff]
 refine useF (ConcatA_ok [m.tos,m.ccs] (by simp) (by simp [lenSA];omega)) rfl rfl ?_
 rintro es rfl
 rw [cat2]
 have hAl:(m.tos++m.ccs).length≤200000:=by simp;omega
 unfold ptsOf
 generalize m.tos++m.ccs=A at *
 simp only [ZZ,WW,Ze,reduceCtorEq,Nat.reduceAdd,Nat.reduceMul,Nat.reduceLeDiff,Nat.reduceLT,Nat.reduceEqDiff,adrE_len]
 refine loop_intro (fun n fr L=>∃ (k:Nat) (kv:List (List UInt8×PV)),k≤A.length∧n=A.length - k∧(KysI kv (m.fr.2 :: (A.take k).map (·.2)))∧fr=[oo,oo,oo,.mp (.l 6),oo,oo,oo,oo,oo,oo,oo,oo,oo,oo,oo,oo,.row (.l 16),.p (int (A.length:Nat)),.p (int (k:Nat)),oo,oo,oo,oo,oo,oo,oo,oo]∧L=[(.l 6,.map kv 9 4),(.l 16,.row (adrE A) tAdr 2 true)]) (A.length) [oo,oo,oo,.mp (.l 6),oo,oo,oo,oo,oo,oo,oo,oo,oo,oo,oo,oo,.row (.l 16),.p (int (A.length:Nat)),.p (int (0:Nat)),oo,oo,oo,oo,oo,oo,oo,oo] [(.l 6,.map (mpS [] m.fr.2 (.bool true)) 9 4),(.l 16,.row (adrE A) tAdr 2 true)] (by simp only [ZZ,WW,Ze,reduceCtorEq,Nat.reduceAdd,Nat.reduceMul,Nat.reduceLeDiff,Nat.reduceLT,Nat.reduceEqDiff,adrE_len];try trivial) (by (simp only [ZZ,WW,Ze,reduceCtorEq,Nat.reduceAdd,Nat.reduceMul,Nat.reduceLeDiff,Nat.reduceLT,Nat.reduceEqDiff];try trivial)) ⟨0,mpS [] m.fr.2 (.bool true),by omega,by omega,by simpa using KysI.nil.put m.fr.2 (.bool true),rfl,rfl⟩ ?_
 rintro n fr L ⟨k,kv,hk,rfl,hkv,rfl,rfl⟩
 simp only [ir_thread_parties_L0,ZZ,WW,Ze,reduceCtorEq,Nat.reduceAdd,Nat.reduceMul,Nat.reduceLeDiff,Nat.reduceLT,Nat.reduceEqDiff]
 refine br ?_ ?_
 ·intro h
  have hlt:k < A.length:=by have:=of_decide_eq_true h;omega
  obtain ⟨x,hx⟩:∃ x,A[k]?=some x:=⟨_,List.getElem?_eq_getElem hlt⟩
  have hg:=adrE_get hx
  simp only [ZZ,WW,Ze,reduceCtorEq,Nat.reduceAdd,Nat.reduceMul,Nat.reduceLeDiff,Nat.reduceLT,Nat.reduceEqDiff,hg,adrE_len]
  ((repeat' (with_reducible apply And.intro))<;>try ((exact sc_)))
  refine end_round (A.length - (k+1)) [oo,oo,oo,.mp (.l 6),oo,oo,oo,oo,oo,oo,oo,oo,oo,oo,oo,oo,.row (.l 16),.p (int (A.length:Nat)),.p (int ((k+1):Nat)),oo,oo,oo,oo,oo,oo,oo,oo] [(.l 6,.map (mpS kv x.2 (.bool true)) 9 4),(.l 16,.row (adrE A) tAdr 2 true)] (by omega) (by (simp only [ZZ,WW,Ze,reduceCtorEq,Nat.reduceAdd,Nat.reduceMul,Nat.reduceLeDiff,Nat.reduceLT,Nat.reduceEqDiff];try trivial)) (by (simp only [ZZ,WW,Ze,reduceCtorEq,Nat.reduceAdd,Nat.reduceMul,Nat.reduceLeDiff,Nat.reduceLT,Nat.reduceEqDiff];try trivial)) ⟨k+1,mpS kv x.2 (.bool true),by omega,rfl,by rw [map_take_succ _ hx];exact hkv.put x.2 (.bool true),rfl,rfl⟩
 intro h
 have hge:A.length≤k:=by have:=of_decide_eq_false h;omega
 rw [List.take_of_length_le hge] at hkv
 simp only [ZZ,WW,Ze,reduceCtorEq,Nat.reduceAdd,Nat.reduceMul,Nat.reduceLeDiff,Nat.reduceLT,Nat.reduceEqDiff]
 exact ⟨kv,rfl,hkv⟩
theorem Parties_ok (m:Ltr) (hm:LtB m):PCall Tryz.prog E6 32 [.agg (ltV m)] (·=.tup [.sl 1 (strE (if letF m=0 then sortF (ptsOf m) else [])),int (letF m)]):=by
 have hlen:∀ s∈ptsOf m,s.length≤1000000000:=by
  obtain ⟨b1,b2,b3,b4,b5,b6,b7,b8,b9,b10,b11⟩:=hm
  intro s hs
  rcases List.mem_cons.1 hs with rfl|hs
  ·omega
  ·obtain ⟨a,ha,rfl⟩:=List.mem_map.1 hs
   rcases List.mem_append.1 ha with ha|ha
   ·have:=(b5 a ha).2;omega
   ·have:=(b7 a ha).2;omega
 have hpl:(ptsOf m).length≤1000000:=by
  obtain ⟨b1,b2,b3,b4,b5,b6,b7,b8,b9,b10,b11⟩:=hm
  simp [ptsOf]
  omega
 refine pcallF mixed Tryz.func32 ck_thread_Parties ?_
 simp only [a0,l0,OS.ao,List.map_cons,List.map_nil,List.length_cons,List.length_nil,List.cons_append,List.nil_append,Nat.reduceSub,Nat.reduceAdd,List.replicate_succ,List.replicate_zero,ir_thread_Parties,rs_thread_Parties,ZZ,WW,Ze,reduceCtorEq,Nat.reduceAdd,Nat.reduceMul,Nat.reduceLeDiff,Nat.reduceLT,Nat.reduceEqDiff]
 simp only [ltV,ZZ,WW,Ze,reduceCtorEq,Nat.reduceAdd,Nat.reduceMul,Nat.reduceLeDiff,Nat.reduceLT,Nat.reduceEqDiff]
 refine use1 (up6 (TCheck_ok m hm)) rfl (.inl rfl) ?_
 simp only [ZZ,WW,Ze,reduceCtorEq,Nat.reduceAdd,Nat.reduceMul,Nat.reduceLeDiff,Nat.reduceLT,Nat.reduceEqDiff]
 refine br ?_ ?_
 ·intro h
  have h0:¬ letF m=0:=by simpa using h
  simp only [ZZ,WW,Ze,reduceCtorEq,Nat.reduceAdd,Nat.reduceMul,Nat.reduceLeDiff,Nat.reduceLT,Nat.reduceEqDiff]
  simp [h0,strE]
 intro h
 have h0:letF m=0:=by simpa using h
 simp only [ZZ,WW,Ze,reduceCtorEq,Nat.reduceAdd,Nat.reduceMul,Nat.reduceLeDiff,Nat.reduceLT,Nat.reduceEqDiff]
 refine use (partiesK_ok m hm) rfl (.inl rfl) ?_
 rintro _ ⟨kv,rfl,hkv⟩
 have hks:=hkv.sorted
 have hks2:∀ s∈kv.map (·.1),s.length≤1000000000:=fun s hs=>hlen s ((hkv.2 s).1 hs)
 simp only [ZZ,WW,Ze,reduceCtorEq,Nat.reduceAdd,Nat.reduceMul,Nat.reduceLeDiff,Nat.reduceLT,Nat.reduceEqDiff]
 refine use1 (KeysB_ok (kv.map (·.1)) (kv.map (·.2))) rfl (.inl rfl) ?_
 simp only [ZZ,WW,Ze,reduceCtorEq,Nat.reduceAdd,Nat.reduceMul,Nat.reduceLeDiff,Nat.reduceLT,Nat.reduceEqDiff]
 refine use1 (Sorted_keysB (kv.map (·.1)) (kv.map (·.2)) (by have:=hkv.len;simp;omega) hks2) rfl (.inl rfl) ?_
 unfold kysW at hks
 rw [hks]
 simp only [ZZ,WW,Ze,reduceCtorEq,Nat.reduceAdd,Nat.reduceMul,Nat.reduceLeDiff,Nat.reduceLT,Nat.reduceEqDiff]
 rw [if_pos h0,h0]
end Go.Proofs.YtehfjlpenlffmaaGreatDoor
