import Derived.Test.YtinffddgojhdfaaGreatDoorZ13
import Derived.Test.YtinffddgojhdfaaGreatDoorZ11
set_option linter.unusedVariables false
set_option linter.unusedSimpArgs false
set_option linter.defProp false
namespace Go.Proofs.YtinffddgojhdfaaGreatDoor
open Nat renaming le_trans→ya,lt_or_ge→zV,reduceAdd→zd,reduceEqDiff→zb,reduceLT→zf,reduceLeDiff→za,reduceMul→ze,reduceSub→zu
open List renaming cons_append→zp,getElem?_eq_getElem→zm,getElem?_eq_some_iff→zw,getElem?_of_mem→yc,length_cons→zn,length_nil→zr,map_cons→zl,map_nil→zt,mem_append→zz,mem_cons→zH,mem_of_getElem?→zB,mem_singleton→zL,nil_append→zq,replicate_succ→zk,replicate_zero→zo,take_of_length_le→zJ,take_succ_eq_append_getElem→zQ
open Go.RowKit
def qep:IC:=(.seq (.reg [qO 75 (.bin .lss (.t 74) (.t 73))]) (.seq (.cond (.t 75) .skip (.exit 2)) (.seq (.block 3 (.seq (.reg [qO 76 (.ixa 12 (.t 72) (.t 74)),qO 77 (.ld 12 true (.t 76)),qO 16 (.alc 45 [.str [],.int .i64 0,.int .i64 0,.int .i64 0,.str [],.str [],.str [],.int .i64 0,.int .i64 0,.str [],.int .i64 0,.str []]),⟨none,.st 12 (.t 16) (.t 77),none⟩]) (.seq (.reg [qO 78 (.fla 0 (.t 16)),qO 79 (.fla 1 (.t 78)),qO 80 (.ld 1 false (.t 79)),qM 81 8,qO 82 (.fla 0 (.t 16)),qO 83 (.fla 0 (.t 82)),qO 84 (.ld 1 false (.t 83)),qO 85 (.mpl false (.int .i64 0) (.t 81) (.t 84)),qO 86 (.bin .gtr (.t 80) (.t 85))]) (.cond (.t 86) (.reg [qM 87 14,qO 88 (.ld 12 true (.t 16)),qO 89 (.bsl 12 [.t 88]),qO 90 (.app 45 12 144 (.t 87) (.t 89)),qM 14 90]) .skip)))) (.cut (.reg [qO 91 (.bin .add (.t 74) (.c (.int .i64 1))),qM 74 91])))))
def qeq:IC:=(.seq (.reg [qO 28 (.bin .lss (.t 27) (.t 26))]) (.seq (.cond (.t 28) .skip (.exit 0)) (.seq (.block 1 (.seq (.reg [qM 29 27,qO 30 (.ixa 2 (.t 25) (.t 27)),qO 31 (.ld 2 true (.t 30)),qO 10 (.alc 43 [.str [],.int .i64 0]),qM 9 29,⟨none,.st 2 (.t 10) (.t 31),none⟩]) (.seq (.reg [qM 33 7,qO 34 (.ld 2 true (.t 10)),qO 35 (.mplk true [.s,.i] (.agg [.str [],.int .i64 0,.int .i64 0,.int .i64 0,.str [],.str [],.str [],.int .i64 0,.int .i64 0,.str [],.int .i64 0,.str []]) (.t 33) (.t 34)),qM 32 35,qO 36 (.ext 0 (.t 32)),qO 37 (.ext 1 (.t 32)),qO 11 (.alc 45 [.str [],.int .i64 0,.int .i64 0,.int .i64 0,.str [],.str [],.str [],.int .i64 0,.int .i64 0,.str [],.int .i64 0,.str []]),⟨none,.st 12 (.t 11) (.t 36),none⟩,qM 12 37]) (.seq (.seq (.drg [qO 38 (.fla 0 (.t 10)),qO 39 (.ld 1 false (.t 38)),qO 40 (.pcall 0 42 [.t 39]),qO 41 (.not (.t 40)),qO 42 (.pcall 1 41 [.t 41,.c (.int .i64 5)]),qM 43 9,qO 44 (.bin .gtr (.t 43) (.c (.int .i64 0))),qM 45 44,⟨some 46,.fla 0 (.t 10),(some (45,true))⟩,⟨some 47,.ld 1 false (.t 46),(some (45,true))⟩,⟨some 48,.mov (.t 1),(some (45,true))⟩,⟨some 49,.mov (.t 9),(some (45,true))⟩,⟨some 50,.mx (.t 49) (.c (.int .i64 1)),(some (45,true))⟩,⟨some 51,.bin .sub (.t 50) (.c (.int .i64 1)),(some (45,true))⟩,⟨some 52,.ixa 2 (.t 48) (.t 51),(some (45,true))⟩,⟨some 53,.fla 0 (.t 52),(some (45,true))⟩,⟨some 54,.ld 1 false (.t 53),(some (45,true))⟩,⟨some 55,.bin .leq (.t 47) (.t 54),(some (45,true))⟩,qO 56 (.pick (.t 45) (.t 55) (.c (.bool false))),qO 57 (.pcall 2 41 [.t 56,.c (.int .i64 7)]),qM 58 12,qO 59 (.not (.t 58)),qO 60 (.pcall 3 41 [.t 59,.c (.int .i64 8)]),qO 61 (.bsl 1 [.t 42,.t 57,.t 60]),qO 62 (.pcall 4 40 [.t 61]),qM 13 62]) (.seq (.reg [qM 63 13,qO 64 (.bin .neq (.t 63) (.c (.int .i64 0)))]) (.cond (.t 64) (.seq (.reg [qM 65 13,qO 4 (.mov (.c (.nl 12))),qM 5 65]) .ret) .skip))) (.reg [qM 66 8,qO 67 (.fla 0 (.t 10)),qO 68 (.ld 1 false (.t 67)),qO 69 (.fla 1 (.t 10)),qO 70 (.ld 1 false (.t 69)),⟨none,.mpu (.t 66) (.t 68) (.t 70),none⟩]))))) (.reg [qO 71 (.bin .add (.t 27) (.c (.int .i64 1))),qM 27 71]))))
def qf1:IC:=(.seq (.reg [qO 4 (.mov (.c (.nl 12))),qO 5 (.mov (.c (.int .i64 0)))]) (.seq (.seq (.reg [qM 17 0,qO 18 (.call 59 [.t 17]),qM 6 18]) (.seq (.reg [qM 19 6,qO 20 (.bin .neq (.t 19) (.c (.int .i64 0)))]) (.cond (.t 20) (.seq (.reg [qM 21 6,qO 4 (.mov (.c (.nl 12))),qM 5 21]) .ret) .skip))) (.seq (.reg [qM 22 0,qO 23 (.call 48 [.t 22]),qM 7 23]) (.seq (.reg [qO 24 (.mkm 9 3),qM 8 24]) (.seq (.seq (.reg [qM 25 1,qO 26 (.len (.t 25)),qO 27 (.mov (.c (.int .i64 0)))]) (.block 0 (.loop qeq))) (.seq (.reg [qO 14 (.nilr 45 12)]) (.seq (.seq (.reg [qM 72 0,qO 73 (.len (.t 72)),qO 74 (.mov (.c (.int .i64 0)))]) (.block 2 (.loop qep))) (.seq (.reg [qM 92 14,qM 4 92,qO 5 (.mov (.c (.int .i64 0)))]) .ret))))))))
def qfM:List IRes:=[.t 4,.t 5]
theorem qjg:chkF Tryz.prog Tryz.f29 qf1 qfM 93=true:=by kernel_rfl
def qb0:IC:=(.seq (.reg [qO 49 (.bin .lss (.t 48) (.t 47))]) (.seq (.cond (.t 49) .skip (.exit 2)) (.seq (.block 3 (.seq (.reg [qO 50 (.ixa 12 (.t 46) (.t 48)),qO 51 (.ld 12 true (.t 50)),qO 12 (.alc 45 [.str [],.int .i64 0,.int .i64 0,.int .i64 0,.str [],.str [],.str [],.int .i64 0,.int .i64 0,.str [],.int .i64 0,.str []]),⟨none,.st 12 (.t 12) (.t 51),none⟩]) (.seq (.reg [qM 52 1,qO 53 (.mkf 69 [.t 12]),qO 54 (.call 68 [.t 52,.t 53]),qO 55 (.not (.t 54))]) (.cond (.t 55) (.reg [qM 56 10,qO 57 (.ld 12 true (.t 12)),qO 58 (.bsl 12 [.t 57]),qO 59 (.app 45 12 144 (.t 56) (.t 58)),qM 10 59]) .skip)))) (.cut (.reg [qO 60 (.bin .add (.t 48) (.c (.int .i64 1))),qM 48 60])))))
def qb1:IC:=(.seq (.reg [qO 16 (.bin .lss (.t 15) (.t 14))]) (.seq (.cond (.t 16) .skip (.exit 0)) (.seq (.block 1 (.seq (.reg [qM 17 15,qO 18 (.ixa 2 (.t 13) (.t 15)),qO 19 (.ld 2 true (.t 18)),qO 7 (.alc 43 [.str [],.int .i64 0]),qM 6 17,⟨none,.st 2 (.t 7) (.t 19),none⟩]) (.seq (.seq (.reg [qO 20 (.fla 0 (.t 7)),qO 21 (.ld 1 false (.t 20)),qO 22 (.call 24 [.t 21]),qO 23 (.not (.t 22))]) (.cond (.t 23) (.seq (.reg [qO 4 (.mov (.c (.nl 12))),qO 5 (.mov (.c (.int .i64 5)))]) .ret) .skip)) (.seq (.seq (.drg [qM 24 6,qO 25 (.bin .gtr (.t 24) (.c (.int .i64 0))),qM 26 25,⟨some 27,.fla 0 (.t 7),(some (26,true))⟩,⟨some 28,.ld 1 false (.t 27),(some (26,true))⟩,⟨some 29,.mov (.t 1),(some (26,true))⟩,⟨some 30,.mov (.t 6),(some (26,true))⟩,⟨some 31,.bin .sub (.t 30) (.c (.int .i64 1)),(some (26,true))⟩,⟨some 32,.ixa 2 (.t 29) (.t 31),(some (26,true))⟩,⟨some 33,.fla 0 (.t 32),(some (26,true))⟩,⟨some 34,.ld 1 false (.t 33),(some (26,true))⟩,⟨some 35,.bin .leq (.t 28) (.t 34),(some (26,true))⟩,qO 36 (.pick (.t 26) (.t 35) (.c (.bool false)))]) (.cond (.t 36) (.seq (.reg [qO 4 (.mov (.c (.nl 12))),qO 5 (.mov (.c (.int .i64 7)))]) .ret) .skip)) (.seq (.reg [qM 38 0,qO 39 (.ld 2 true (.t 7)),qO 40 (.call 52 [.t 38,.t 39]),qM 37 40,qO 41 (.ext 0 (.t 37)),qO 42 (.ext 1 (.t 37)),qO 8 (.alc 45 [.str [],.int .i64 0,.int .i64 0,.int .i64 0,.str [],.str [],.str [],.int .i64 0,.int .i64 0,.str [],.int .i64 0,.str []]),⟨none,.st 12 (.t 8) (.t 41),none⟩,qM 9 42]) (.seq (.reg [qM 43 9,qO 44 (.not (.t 43))]) (.cond (.t 44) (.seq (.reg [qO 4 (.mov (.c (.nl 12))),qO 5 (.mov (.c (.int .i64 8)))]) .ret) .skip))))))) (.reg [qO 45 (.bin .add (.t 15) (.c (.int .i64 1))),qM 15 45]))))
def qcU:IC:=(.seq (.reg [qO 4 (.mov (.c (.nl 12))),qO 5 (.mov (.c (.int .i64 0)))]) (.seq (.seq (.reg [qM 13 1,qO 14 (.len (.t 13)),qO 15 (.mov (.c (.int .i64 0)))]) (.block 0 (.loop qb1))) (.seq (.reg [qO 10 (.nilr 45 12)]) (.seq (.seq (.reg [qM 46 0,qO 47 (.len (.t 46)),qO 48 (.mov (.c (.int .i64 0)))]) (.block 2 (.loop qb0))) (.seq (.reg [qM 61 10,qM 4 61,qO 5 (.mov (.c (.int .i64 0)))]) .ret)))))
def qcH:List IRes:=[.t 4,.t 5]
theorem qfa:chkF Tryz.prog Tryz.f31 qcU qcH 62=true:=by kernel_rfl
def qcg:IC:=(.seq (.reg [qO 2 (.box 43 (.t 0)),qO 3 (.mov (.c (.bool false)))]) (.seq (.reg [qO 4 (.fla 0 (.t 2)),qO 5 (.ld 1 false (.t 4)),qO 6 (.fla 0 (.t 1)),qO 7 (.fla 0 (.t 6)),qO 8 (.ld 1 false (.t 7)),qO 9 (.bin .eql (.t 5) (.t 8)),qM 10 9,⟨some 11,.fla 0 (.t 1),(some (10,true))⟩,⟨some 12,.fla 1 (.t 11),(some (10,true))⟩,⟨some 13,.ld 1 false (.t 12),(some (10,true))⟩,⟨some 14,.fla 1 (.t 2),(some (10,true))⟩,⟨some 15,.ld 1 false (.t 14),(some (10,true))⟩,⟨some 16,.bin .leq (.t 13) (.t 15),(some (10,true))⟩,qO 17 (.pick (.t 10) (.t 16) (.c (.bool false))),qM 3 17]) .ret))
def qb9:List IRes:=[.t 3]
theorem qeB:chkF Tryz.prog Tryz.f69 qcg qb9 18=true:=by kernel_rfl
def qaF:IC:=(.seq (.reg [qO 9 (.bin .lss (.t 8) (.t 7))]) (.seq (.cond (.t 9) .skip (.exit 0)) (.seq (.block 1 (.seq (.reg [qM 10 8,qM 5 10]) (.seq (.reg [qM 11 1,qM 12 0,qM 13 5,qO 14 (.ixa 2 (.t 12) (.t 13)),qO 15 (.ld 2 true (.t 14)),qO 16 (.callv (.t 11) [.t 15])]) (.cond (.t 16) (.seq (.reg [qM 17 5,qM 4 17]) .ret) .skip)))) (.reg [qO 18 (.bin .add (.t 8) (.c (.int .i64 1))),qM 8 18]))))
def qaQ:IC:=(.seq (.reg [qO 4 (.mov (.c (.int .i64 0)))]) (.seq (.seq (.reg [qM 6 0,qO 7 (.len (.t 6)),qO 8 (.mov (.c (.int .i64 0)))]) (.block 0 (.loop qaF))) (.seq (.reg [qO 4 (.mov (.c (.int .i64 (-1))))]) .ret)))
def qaP:List IRes:=[.t 4]
theorem qbR:chkF Tryz.prog Tryz.f103 qaQ qaP 19=true:=by kernel_rfl
def qaG:IC:=(.seq (.reg [qO 4 (.mov (.c (.bool false)))]) (.seq (.reg [qM 5 0,qM 6 1,qO 7 (.call 103 [.t 5,.t 6]),qO 8 (.bin .geq (.t 7) (.c (.int .i64 0))),qM 4 8]) .ret))
def qaD:List IRes:=[.t 4]
theorem qbH:chkF Tryz.prog Tryz.f68 qaG qaD 9=true:=by kernel_rfl
theorem qpJ:∀ a b:List UInt8,bytesLess a b=decide (Lib.compareBytes a b < 0)
 |[],[]=>by simp [Lib.compareBytes,bytesLess,Op.bytesLess]
 |[],_ :: _=>by simp [Lib.compareBytes,bytesLess,Op.bytesLess]
 |_ :: _,[]=>by simp [Lib.compareBytes,bytesLess,Op.bytesLess]
 |a :: xs,b :: bs=>by
  have ih:=qpJ xs bs
  simp only [bytesLess] at ih
  simp only [Lib.compareBytes,bytesLess,Op.bytesLess,ih]
  by_cases h:a < b
  ·simp [h]
  ·by_cases h2:b < a
   ·have:¬ a=b:=by intro e;subst e;exact h h2
    simp [h,h2,this]
   ·have:a=b:=UInt8.toNat.inj (by rw [UInt8.lt_iff_toNat_lt] at h h2;omega)
    subst this
    simp [h]
def leT (a b:List UInt8):Bool:=bytesLess a b || decide (a=b)
def qfV (seen:List Stp) (k:Nat):Stp:=(seen[k - 1]?).getD ([],0)
def sinE (l:List Dd) (seen:List Stp) (k:Nat):Int:=match seen[k]? with
 |some p=>if keyB p.1=false then 5 else if (decide (0 < (k:Int)) && leT p.1 (qfV seen k).1)=true then 7 else if (qbF l p.1 p.2).isSome=false then 8 else 0
 |none=>0
def sinF (l:List Dd) (seen:List Stp):Int:=(qhR (sinE l seen) seen.length 0).2
theorem qph (l:List Dd) (seen:List Stp) {k:Nat} {p:Stp} (h:seen[k]?=some p):qaI [qaK (!keyB p.1) 5,qaK (decide (0 < (k:Int)) && leT p.1 (qfV seen k).1) 7,qaK (!(qbF l p.1 p.2).isSome) 8]=sinE l seen k:=by
 unfold sinE
 rw [h]
 show _=if keyB p.1=false then 5 else if (decide (0 < (k:Int)) && leT p.1 (qfV seen k).1)=true then 7 else if (qbF l p.1 p.2).isSome=false then 8 else 0
 generalize (decide (0 < (k:Int)) && leT p.1 (qfV seen k).1)=c
 cases keyB p.1<;>cases c<;>cases (qbF l p.1 p.2).isSome<;>simp [qaI,qaK]
def refB (seen:List Stp) (d:Dd):Bool:=!(seen.any fun p=>decide (p.1=d.site) && decide (d.no≤p.2))
def upN (s:List UInt8) (n:Int) (p:Stp):Int:=if p.1=s then p.2 else n
def upF (seen:List Stp) (s:List UInt8):Int:=seen.foldl (upN s) 0
def upM (seen:List Stp):List (List UInt8×PV):=seen.foldl (fun kv p=>mpS kv p.1 (int p.2)) []
theorem qqJ {l:List Stp} {k:Nat} {p:Stp} (h:l[k]?=some p):upM (l.take (k+1))=mpS (upM (l.take k)) p.1 (int p.2):=by
 obtain ⟨hk,he⟩:=zw.1 h
 rw [zQ hk,he,upM,List.foldl_append]
 rfl
theorem qnE:∀ (r:List Stp) (s:List UInt8),mpD (upM r.reverse) s (int 0)=int (upF r.reverse s)
 |[],s=>rfl
 |p :: r,s=>by
  have ih:=qnE r s
  rw [List.reverse_cons]
  have e1:upM (r.reverse++[p])=mpS (upM r.reverse) p.1 (int p.2):=by simp [upM]
  have e2:upF (r.reverse++[p]) s=upN s (upF r.reverse s) p:=by simp [upF]
  rw [e1,e2]
  unfold mpD upN
  rw [qkO]
  by_cases h:p.1=s
  ·rw [if_pos h,if_pos h];rfl
  ·rw [if_neg h,if_neg h];exact ih
theorem qsy (l:List Stp) (s:List UInt8):mpD (upM l) s (int 0)=int (upF l s):=by
 have:=qnE l.reverse s
 rwa [List.reverse_reverse] at this
def prgB (seen:List Stp) (d:Dd):Bool:=decide (upF seen d.site < d.no)
theorem qqI (s:List UInt8):∀ (seen:List Stp),(∀ p∈seen,p.1≠s)∧upF seen s=0∨∃ p∈seen,p.1=s∧upF seen s=p.2
 |seen=>by
  have:∀ (l:List Stp) (n:Int),(∀ p∈l,p.1≠s)∧l.foldl (upN s) n=n∨∃ p∈l,p.1=s∧l.foldl (upN s) n=p.2:=by
   intro l
   induction l with
   |nil=>intro n;exact .inl ⟨by simp,rfl⟩
   |cons q l ih=>
    intro n
    rw [List.foldl_cons]
    rcases ih (upN s n q) with ⟨h1,h2⟩|⟨p,hp,h1,h2⟩
    ·by_cases hq:q.1=s
     ·refine .inr ⟨q,by simp,hq,?_⟩
      rw [h2,upN,if_pos hq]
     ·refine .inl ⟨fun p hp=>?_,?_⟩
      ·rcases zH.1 hp with rfl|hp
       ·exact hq
       ·exact h1 p hp
      ·rw [h2,upN,if_neg hq]
    ·exact .inr ⟨p,by simp [hp],h1,h2⟩
  exact this seen 0
theorem qpg {l:List Dd} {seen:List Stp} (h:∀ j,j < seen.length→sinE l seen j=0):∀ (i j:Nat) (p q:Stp),i < j→seen[i]?=some p→seen[j]?=some q→Lib.compareBytes p.1 q.1 < 0:=by
 have tr:=CmpP.cb.tr
 have an:=CmpP.cb.anti
 have adj:∀ j p q,seen[j]?=some p→seen[j+1]?=some q→Lib.compareBytes p.1 q.1 < 0:=by
  intro j p q hp hq
  have hj:=(zw.1 hq).1
  have h1:=h (j+1) hj
  unfold sinE at h1
  rw [hq] at h1
  have h1:(if keyB q.1=false then 5 else if (decide (0 < ((j+1:Nat):Int)) && leT q.1 (qfV seen (j+1)).1)=true then 7 else if (qbF l q.1 q.2).isSome=false then 8 else 0:Int)=0:=h1
  split at h1
  ·omega
  ·split at h1
   ·omega
   ·rename_i h2
    have hpv:qfV seen (j+1)=p:=by unfold qfV;simp [hp]
    rw [hpv,show decide (0 < ((j+1:Nat):Int))=true by simp,Bool.true_and,leT,qpJ] at h2
    simp only [Bool.or_eq_true,decide_eq_true_eq,not_or] at h2
    have a1:=an p.1 q.1
    have a2:=an q.1 p.1
    rcases Int.lt_trichotomy (Lib.compareBytes p.1 q.1) 0 with h3|h3|h3
    ·exact h3
    ·exact absurd (qlb h3).symm h2.2
    ·omega
 intro i j p q hij hp hq
 induction j generalizing q with
 |zero=>omega
 |succ j ih=>
  have hj:=(zw.1 hq).1
  obtain ⟨r,hr⟩:∃ r,seen[j]?=some r:=⟨_,zm (by omega)⟩
  have h2:=adj j r q hr hq
  rcases zV i j with h1|h1
  ·have h3:=ih r h1 hr
   have h4:=tr p.1 r.1 q.1 (by omega) (by omega)
   rcases Int.lt_or_eq_of_le h4 with h5|h5
   ·exact h5
   ·exfalso
    have e:=qlb h5
    have:=an r.1 q.1
    have:=an q.1 r.1
    rw [e] at h3
    omega
  ·have:i=j:=by omega
   subst this
   rw [hp] at hr;cases hr
   exact h2
theorem qqW {l:List Dd} {seen:List Stp} (h:∀ j,j < seen.length→sinE l seen j=0) {d:Dd} (hd:1≤d.no):prgB seen d=refB seen d:=by
 have hu:∀ p∈seen,∀ q∈seen,p.1=q.1→p=q:=by
  intro p hp q hq e
  obtain ⟨i,hi⟩:=yc hp
  obtain ⟨j,hj⟩:=yc hq
  have self:=qnn q.1
  rcases Nat.lt_trichotomy i j with h1|h1|h1
  ·have:=qpg h i j p q h1 hi hj
   rw [e] at this;omega
  ·subst h1;rw [hi] at hj;cases hj;rfl
  ·have:=qpg h j i q p h1 hj hi
   rw [e] at this;omega
 unfold prgB refB
 rw [Bool.eq_iff_iff]
 simp only [decide_eq_true_eq,Bool.not_eq_true',List.any_eq_false,Bool.and_eq_true,not_and]
 rcases qqI d.site seen with ⟨h1,h2⟩|⟨p,hp,h1,h2⟩
 ·rw [h2]
  exact ⟨fun _ q hq e=>absurd e (h1 q hq),fun _=>by omega⟩
 ·rw [h2]
  constructor
  ·intro h3 q hq e
   have:=hu q hq p hp (e.trans h1.symm)
   subst this
   omega
  ·intro h3
   have:=h3 p hp h1
   omega
def sinV (l:List Dd) (seen:List Stp):List Dd×Int:=if sinF l seen=0 then (l.filter (refB seen),0) else ([],sinF l seen)
def sinW (l:List Dd) (seen:List Stp):List Dd×Int:=if ¬ (ckdF l).2=0 then ([],(ckdF l).2) else if sinF l seen=0 then (l.filter (prgB seen),0) else ([],sinF l seen)
theorem qi5 {α:Type} (f:α→Bool) {l:List α} {k:Nat} {d:α} (h:l[k]?=some d):(l.take (k+1)).filter f=if f d=true then (l.take k).filter f++[d] else (l.take k).filter f:=by
 obtain ⟨hk,he⟩:=zw.1 h
 rw [zQ hk,he,List.filter_append]
 by_cases hf:f d=true
 ·rw [if_pos hf];simp [hf]
 ·rw [if_neg hf];simp [hf]
section
variable {E:Envt}
theorem qlp (l:List Stp) (f:FuncId) (ps:List PV) (q:Stp→Bool) (hl:l.length≤1000000000) (hfn:Unit→fnB Tryz.prog f=true) (hps:Zl [] (ps.map .p)=true) (hf:∀ x∈l,PCall Tryz.prog E f (.agg (spC x) :: ps) (·=.bool (q x))) (hn:∀ x:Stp,Zbh [] (.p (.agg (spC x)) :: ps.map .p)=some (.agg (spC x) :: ps)) (hr:∀ x:Stp,Zbj (.p (.agg (spC x)) :: ps.map .p)=true):PCall Tryz.prog E 103 [.sl 2 (spE l),.clo f ps] (·=int (idxF q l)):=by
 refine qah mixed Tryz.func103 qbR ?_
 simp only [a0,l0,OS.ao,zl,zt,zn,zr,zp,zq,zu,zd,zk,zo,qaQ,qaP,ZZ,WW,Ze,reduceCtorEq,zd,ze,za,zf,zb]
 simp only [ZZ,WW,Ze,reduceCtorEq,zd,ze,za,zf,zb,qa3]
 refine qaf (fun n fr L=>∃ (k:Nat),k≤l.length∧n=l.length - k∧(∀ x∈l.take k,q x=false)∧fr=[.p (.sl 2 (spE l)),.p (.clo f ps),oo,oo,oo,oo,oo,.p (int (l.length:Nat)),.p (int (k:Nat)),oo,oo,oo,oo,oo,oo,oo,oo,oo,oo]∧L=[]) (l.length) [.p (.sl 2 (spE l)),.p (.clo f ps),oo,oo,oo,oo,oo,.p (int (l.length:Nat)),.p (int (0:Nat)),oo,oo,oo,oo,oo,oo,oo,oo,oo,oo] [] (by simp only [qa3,ZZ,WW,Ze,reduceCtorEq,zd,ze,za,zf,zb];try trivial) (by (simp only [ZZ,WW,Ze,reduceCtorEq,zd,ze,za,zf,zb];try trivial)) ⟨0,by omega,by omega,by simp,rfl,rfl⟩ ?_
 rintro n fr L ⟨k,hk,rfl,hno,rfl,rfl⟩
 simp only [qaF,ZZ,WW,Ze,reduceCtorEq,zd,ze,za,zf,zb]
 refine br ?_ ?_
 ·intro h
  have hlt:k < l.length:=by have:=of_decide_eq_true h;omega
  obtain ⟨x,hx⟩:∃ x,l[k]?=some x:=⟨_,zm hlt⟩
  have hg:=qgL hx
  have ht:(spC x).take 2=spC x:=rfl
  have hd:(spC x).drop 0=spC x:=rfl
  simp only [ZZ,WW,Ze,reduceCtorEq,zd,ze,za,zf,zb,hg,qa3,hfn (),ht,hd]
  refine ⟨⟨by omega,by omega⟩,by omega,hps,?_⟩
  refine use1 (hf x (zB hx)) (hn x) (.inl (hr x)) ?_
  simp only [ZZ,WW,Ze,reduceCtorEq,zd,ze,za,zf,zb]
  refine br ?_ ?_
  ·intro hq
   simp only [ZZ,WW,Ze,reduceCtorEq,zd,ze,za,zf,zb]
   rw [qn2 hx hq hno]
  ·intro hq
   simp only [ZZ,WW,Ze,reduceCtorEq,zd,ze,za,zf,zb]
   ((repeat' (with_reducible apply And.intro))<;>try ((exact sc_)))
   refine qae (l.length - (k+1)) [.p (.sl 2 (spE l)),.p (.clo f ps),oo,oo,oo,oo,oo,.p (int (l.length:Nat)),.p (int ((k+1):Nat)),oo,oo,oo,oo,oo,oo,oo,oo,oo,oo] [] (by omega) (by (simp only [ZZ,WW,Ze,reduceCtorEq,zd,ze,za,zf,zb];try trivial)) (by (simp only [ZZ,WW,Ze,reduceCtorEq,zd,ze,za,zf,zb];try trivial)) ⟨k+1,by omega,rfl,by rw [zQ hlt];intro y hy;rcases zz.1 hy with hy|hy;exact hno y hy;rw [zL] at hy;rw [hy,(zw.1 hx).2];exact hq,rfl,rfl⟩
 ·intro h
  have hge:l.length≤k:=by have:=of_decide_eq_false h;omega
  rw [zJ hge] at hno
  simp only [ZZ,WW,Ze,reduceCtorEq,zd,ze,za,zf,zb]
  rw [ql2 hno]
theorem qvQ (l:List Stp) (f:FuncId) (ps:List PV) (q:Stp→Bool) (hl:l.length≤1000000000) (hfn:Unit→fnB Tryz.prog f=true) (hps:Zl [] (ps.map .p)=true) (hf:∀ x∈l,PCall Tryz.prog E f (.agg (spC x) :: ps) (·=.bool (q x))) (hn:∀ x:Stp,Zbh [] (.p (.agg (spC x)) :: ps.map .p)=some (.agg (spC x) :: ps)) (hr:∀ x:Stp,Zbj (.p (.agg (spC x)) :: ps.map .p)=true):PCall Tryz.prog E 68 [.sl 2 (spE l),.clo f ps] (·=.bool (l.any q)):=by
 refine qah mixed Tryz.func68 qbH ?_
 simp only [a0,l0,OS.ao,zl,zt,zn,zr,zp,zq,zu,zd,zk,zo,qaG,qaD,ZZ,WW,Ze,reduceCtorEq,zd,ze,za,zf,zb]
 refine use1 (qlp l f ps q hl hfn hps hf hn hr) rfl (.inr rfl) ?_
 simp only [ZZ,WW,Ze,reduceCtorEq,zd,ze,za,zf,zb]
 rw [qrr]
abbrev fSD1:FuncId:=69
theorem qpf (p:Stp) (d:Dd):PCall Tryz.prog E fSD1 [.agg (spC p),.ptr (ddC d)] (·=.bool (decide (p.1=d.site) && decide (d.no≤p.2))):=by
 refine qah mixed Tryz.func69 qeB ?_
 simp only [a0,l0,OS.ao,zl,zt,zn,zr,zp,zq,zu,zd,zk,zo,qcg,qb9,ZZ,WW,Ze,reduceCtorEq,zd,ze,za,zf,zb]
 simp only [spC,ddC,ZZ,WW,Ze,reduceCtorEq,zd,ze,za,zf,zb]
 try ((repeat' (with_reducible apply And.intro))<;>try ((exact sc_)))
set_option maxRecDepth 100000 in
set_option maxHeartbeats 4000000 in
theorem qlo (l:List Dd) (seen:List Stp) (hl:l.length≤1000000) (hsl:seen.length≤1000000) (hsB:∀ p∈seen,p.1.length≤1000) :
  PCall Tryz.prog E0 31 [.sl 12 (ddE l),.sl 2 (spE seen)] (·=.tup [.sl 12 (ddE (sinV l seen).1),int (sinV l seen).2]):=by
 unfold sinV
 refine qah mixed Tryz.func31 qfa ?_
 simp only [a0,l0,OS.ao,zl,zt,zn,zr,zp,zq,zu,zd,zk,zo,qcU,qcH,ZZ,WW,Ze,reduceCtorEq,zd,ze,za,zf,zb]
 simp only [ZZ,WW,Ze,reduceCtorEq,zd,ze,za,zf,zb,qa3]
 refine qaf (fun n fr L=>∃ (k:Nat),k≤seen.length∧n=seen.length - k∧(∀ j,j < k→sinE l seen j=0)∧fr=[.p (.sl 12 (ddE l)),.p (.sl 2 (spE seen)),oo,oo,oo,oo,oo,oo,oo,oo,oo,oo,oo,.p (.sl 2 (spE seen)),.p (int (seen.length:Nat)),.p (int (k:Nat)),oo,oo,oo,oo,oo,oo,oo,oo,oo,oo,oo,oo,oo,oo,oo,oo,oo,oo,oo,oo,oo,oo,oo,oo,oo,oo,oo,oo,oo,oo,oo,oo,oo,oo,oo,oo,oo,oo,oo,oo,oo,oo,oo,oo,oo,oo]∧L=[]) (seen.length) [.p (.sl 12 (ddE l)),.p (.sl 2 (spE seen)),oo,oo,oo,oo,oo,oo,oo,oo,oo,oo,oo,.p (.sl 2 (spE seen)),.p (int (seen.length:Nat)),.p (int (0:Nat)),oo,oo,oo,oo,oo,oo,oo,oo,oo,oo,oo,oo,oo,oo,oo,oo,oo,oo,oo,oo,oo,oo,oo,oo,oo,oo,oo,oo,oo,oo,oo,oo,oo,oo,oo,oo,oo,oo,oo,oo,oo,oo,oo,oo,oo,oo] [] (by simp only [qa3,ZZ,WW,Ze,reduceCtorEq,zd,ze,za,zf,zb];try trivial) (by (simp only [ZZ,WW,Ze,reduceCtorEq,zd,ze,za,zf,zb];try trivial)) ⟨0,by omega,by omega,by omega,rfl,rfl⟩ ?_
 rintro n fr L ⟨k,hk,rfl,hno,rfl,rfl⟩
 simp only [qb1,ZZ,WW,Ze,reduceCtorEq,zd,ze,za,zf,zb]
 refine br ?_ ?_
 ·intro h
  have hlt:k < seen.length:=by have:=of_decide_eq_true h;omega
  obtain ⟨p,hp⟩:∃ p,seen[k]?=some p:=⟨_,zm hlt⟩
  have hg:=qgL hp
  have hpl:=hsB p (zB hp)
  have hkm:((k:Int) - 1).toNat=k - 1:=by omega
  have hpv:seen[k - 1]?=some (qfV seen k):=by unfold qfV;rw [zm (by omega)];rfl
  have hg2:=qgL hpv
  have hs:sinE l seen k=if keyB p.1=false then 5 else if (decide (0 < (k:Int)) && leT p.1 (qfV seen k).1)=true then 7 else if (qbF l p.1 p.2).isSome=false then 8 else 0:=by unfold sinE;rw [hp]
  generalize qfV seen k=q at *
  simp only [ZZ,WW,Ze,reduceCtorEq,zd,ze,za,zf,zb,hg,qa3,spC]
  refine ⟨⟨by omega,by omega⟩,hlt,?_⟩
  refine use1 (qgv p.1 (by omega)) rfl (.inl rfl) ?_
  simp only [ZZ,WW,Ze,reduceCtorEq,zd,ze,za,zf,zb]
  refine br ?_ ?_
  ·intro h1
   have h1:keyB p.1=false:=by simpa using h1
   rw [if_pos h1] at hs
   have hh:sinF l seen=5:=by rw [sinF,qdL hlt hno (by rw [hs];decide),hs]
   rw [hh,if_neg (by decide)]
   simp only [ZZ,WW,Ze,reduceCtorEq,zd,ze,za,zf,zb]
   rfl
  intro h1
  have h1:keyB p.1=true:=by simpa using h1
  rw [if_neg (by rw [h1];simp)] at hs
  simp only [ZZ,WW,Ze,reduceCtorEq,zd,ze,za,zf,zb]
  refine drg0 ?_
  have hle:(bytesLess p.1 q.1 || decide (p.1=q.1))=leT p.1 q.1:=rfl
  simp only [ZZ,WW,Ze,reduceCtorEq,zd,ze,za,zf,zb,qa3,hkm,hg2,spC,hle]
  refine ⟨fun hc=>⟨hc,qai (by omega) (by omega)⟩,fun hc=>⟨hc,hc,by have:=of_decide_eq_true hc;omega,by omega⟩,fun hc=>⟨hc,by omega⟩,?_⟩
  refine br ?_ ?_
  ·intro h2
   rw [if_pos h2] at hs
   have hh:sinF l seen=7:=by rw [sinF,qdL hlt hno (by rw [hs];decide),hs]
   rw [hh,if_neg (by decide)]
   simp only [ZZ,WW,Ze,reduceCtorEq,zd,ze,za,zf,zb]
   rfl
  intro h2
  rw [if_neg (by rw [h2];simp)] at hs
  simp only [ZZ,WW,Ze,reduceCtorEq,zd,ze,za,zf,zb]
  refine use1 (qhz l p.1 p.2 (by omega)) rfl (.inl rfl) ?_
  cases hx:qbF l p.1 p.2 with
  |none=>
   rw [hx] at hs
   have hs:sinE l seen k=8:=hs
   have hh:sinF l seen=8:=by rw [sinF,qdL hlt hno (by rw [hs];decide),hs]
   rw [hh,if_neg (by decide)]
   simp only [ZZ,WW,Ze,reduceCtorEq,zd,ze,za,zf,zb,Option.getD_none,Option.isSome_none,dd0,ddC]
   rfl
  |some x=>
   rw [hx] at hs
   have hs:sinE l seen k=0:=hs
   simp only [ZZ,WW,Ze,reduceCtorEq,zd,ze,za,zf,zb,Option.getD_some,Option.isSome_some,ddC]
   refine ⟨qai (by omega) (by omega),?_⟩
   refine qae (seen.length - (k+1)) [.p (.sl 12 (ddE l)),.p (.sl 2 (spE seen)),oo,oo,oo,oo,oo,oo,oo,oo,oo,oo,oo,.p (.sl 2 (spE seen)),.p (int (seen.length:Nat)),.p (int ((k+1):Nat)),oo,oo,oo,oo,oo,oo,oo,oo,oo,oo,oo,oo,oo,oo,oo,oo,oo,oo,oo,oo,oo,oo,oo,oo,oo,oo,oo,oo,oo,oo,oo,oo,oo,oo,oo,oo,oo,oo,oo,oo,oo,oo,oo,oo,oo,oo] [] (by omega) (by (simp only [ZZ,WW,Ze,reduceCtorEq,zd,ze,za,zf,zb];try trivial)) (by (simp only [ZZ,WW,Ze,reduceCtorEq,zd,ze,za,zf,zb];try trivial)) ⟨k+1,by omega,rfl,by intro j hj;rcases zV j k with h'|h';exact hno j h';rw [show j=k by omega,hs],rfl,rfl⟩
 ·intro h
  have hge:seen.length≤k:=by have:=of_decide_eq_false h;omega
  have hh:sinF l seen=0:=by rw [sinF,qeI (g:=sinE l seen) (N:=seen.length) (fun j hj=>hno j (by omega))]
  rw [hh,if_pos rfl]
  simp only [ZZ,WW,Ze,reduceCtorEq,zd,ze,za,zf,zb,qab]
  refine qaf (fun n fr L=>∃ (k:Nat),k≤l.length∧n=l.length - k∧fr=[.p (.sl 12 (ddE l)),.p (.sl 2 (spE seen)),oo,oo,oo,oo,oo,oo,oo,oo,.row (.l 10),oo,oo,oo,oo,oo,oo,oo,oo,oo,oo,oo,oo,oo,oo,oo,oo,oo,oo,oo,oo,oo,oo,oo,oo,oo,oo,oo,oo,oo,oo,oo,oo,oo,oo,oo,.p (.sl 12 (ddE l)),.p (int (l.length:Nat)),.p (int (k:Nat)),oo,oo,oo,oo,oo,oo,oo,oo,oo,oo,oo,oo,oo]∧L=[(.l 10,.row (ddE ((l.take k).filter (refB seen))) tDd 12 true)]) (l.length) [.p (.sl 12 (ddE l)),.p (.sl 2 (spE seen)),oo,oo,oo,oo,oo,oo,oo,oo,.row (.l 10),oo,oo,oo,oo,oo,oo,oo,oo,oo,oo,oo,oo,oo,oo,oo,oo,oo,oo,oo,oo,oo,oo,oo,oo,oo,oo,oo,oo,oo,oo,oo,oo,oo,oo,oo,.p (.sl 12 (ddE l)),.p (int (l.length:Nat)),.p (int (0:Nat)),oo,oo,oo,oo,oo,oo,oo,oo,oo,oo,oo,oo,oo] [(.l 10,.row (ddE ((l.take 0).filter (refB seen))) tDd 12 true)] (by simp only [qab,ZZ,WW,Ze,reduceCtorEq,zd,ze,za,zf,zb];try trivial) (by simp only [List.take_zero,List.filter_nil,qh3,ZZ,WW,Ze,reduceCtorEq,zd,ze,za,zf,zb];try trivial) ⟨0,by omega,by omega,rfl,rfl⟩ ?_
  rintro n fr L ⟨k,hk,rfl,rfl,rfl⟩
  simp only [qb0,ZZ,WW,Ze,reduceCtorEq,zd,ze,za,zf,zb]
  refine br ?_ ?_
  ·intro h
   have hlt:k < l.length:=by have:=of_decide_eq_true h;omega
   obtain ⟨d,hd⟩:∃ d,l[k]?=some d:=⟨_,zm hlt⟩
   have hg:=qaU hd
   have hn:=qi5 (refB seen) hd
   have hfl:((l.take k).filter (refB seen)).length≤l.length:=ya (List.length_filter_le _ _) (List.length_take_le' _ _)
   have hfn:fnB Tryz.prog fSD1=true:=by kernel_rfl
   have hr:refB seen d=!(seen.any fun p=>decide (p.1=d.site) && decide (d.no≤p.2)):=rfl
   generalize (l.take k).filter (refB seen)=out at *
   simp only [ZZ,WW,Ze,reduceCtorEq,zd,ze,za,zf,zb,hg,qab,ddC,hfn]
   refine ⟨⟨by omega,by omega⟩,hlt,?_⟩
   refine use1 (qvQ seen fSD1 [.ptr (ddC d)] (fun p=>decide (p.1=d.site) && decide (d.no≤p.2)) (by omega) (fun _=>hfn) rfl (fun x hx=>qpf x d) (fun x=>rfl) (fun x=>rfl)) rfl (.inr rfl) ?_
   simp only [ZZ,WW,Ze,reduceCtorEq,zd,ze,za,zf,zb]
   rw [← hr]
   refine br ?_ ?_
   ·intro h2
    rw [if_pos h2] at hn
    have hn2:ddE ((l.take (k+1)).filter (refB seen))=ddE out++[ddC d]:=by rw [hn,← qjb];rfl
    simp only [ZZ,WW,Ze,reduceCtorEq,zd,ze,za,zf,zb,qab]
    refine ⟨by omega,?_⟩
    refine qag zE_ ?_
    simp only [ZZ,WW,Ze,reduceCtorEq,zd,ze,za,zf,zb]
    refine ⟨qai (by omega) (by omega),?_⟩
    refine qae (l.length - (k+1)) [.p (.sl 12 (ddE l)),.p (.sl 2 (spE seen)),oo,oo,oo,oo,oo,oo,oo,oo,.row (.l 10),oo,oo,oo,oo,oo,oo,oo,oo,oo,oo,oo,oo,oo,oo,oo,oo,oo,oo,oo,oo,oo,oo,oo,oo,oo,oo,oo,oo,oo,oo,oo,oo,oo,oo,oo,.p (.sl 12 (ddE l)),.p (int (l.length:Nat)),.p (int ((k+1):Nat)),oo,oo,oo,oo,oo,oo,oo,oo,oo,oo,oo,oo,oo] [(.l 10,.row (ddE ((l.take (k+1)).filter (refB seen))) tDd 12 true)] (by omega) (by (simp only [ZZ,WW,Ze,reduceCtorEq,zd,ze,za,zf,zb];try trivial)) (by rw [hn2];simp only [ZZ,WW,Ze,reduceCtorEq,zd,ze,za,zf,zb,ddC]) ⟨k+1,by omega,rfl,rfl,rfl⟩
   ·intro h2
    rw [if_neg (by rw [h2];simp)] at hn
    simp only [ZZ,WW,Ze,reduceCtorEq,zd,ze,za,zf,zb]
    refine qag zE_ ?_
    simp only [ZZ,WW,Ze,reduceCtorEq,zd,ze,za,zf,zb]
    refine ⟨qai (by omega) (by omega),?_⟩
    refine qae (l.length - (k+1)) [.p (.sl 12 (ddE l)),.p (.sl 2 (spE seen)),oo,oo,oo,oo,oo,oo,oo,oo,.row (.l 10),oo,oo,oo,oo,oo,oo,oo,oo,oo,oo,oo,oo,oo,oo,oo,oo,oo,oo,oo,oo,oo,oo,oo,oo,oo,oo,oo,oo,oo,oo,oo,oo,oo,oo,oo,.p (.sl 12 (ddE l)),.p (int (l.length:Nat)),.p (int ((k+1):Nat)),oo,oo,oo,oo,oo,oo,oo,oo,oo,oo,oo,oo,oo] [(.l 10,.row (ddE ((l.take (k+1)).filter (refB seen))) tDd 12 true)] (by omega) (by (simp only [ZZ,WW,Ze,reduceCtorEq,zd,ze,za,zf,zb];try trivial)) (by rw [hn];simp only [ZZ,WW,Ze,reduceCtorEq,zd,ze,za,zf,zb]) ⟨k+1,by omega,rfl,rfl,rfl⟩
  ·intro h
   have hge:l.length≤k:=by have:=of_decide_eq_false h;omega
   rw [zJ hge]
   simp only [ZZ,WW,Ze,reduceCtorEq,zd,ze,za,zf,zb]
end
set_option maxRecDepth 100000 in
set_option maxHeartbeats 4000000 in
theorem qqn (l:List Dd) (seen:List Stp) (hB:DdsB l) (hl:l.length≤1000000) (hsl:seen.length≤1000000) (hsB:∀ p∈seen,p.1.length≤1000) :
  PCall Tryz.prog ED 29 [.sl 12 (ddE l),.sl 2 (spE seen)] (·=.tup [.sl 12 (ddE (sinW l seen).1),int (sinW l seen).2]):=by
 unfold sinW
 refine qah mixed Tryz.func29 qjg ?_
 simp only [a0,l0,OS.ao,zl,zt,zn,zr,zp,zq,zu,zd,zk,zo,qf1,qfM,ZZ,WW,Ze,reduceCtorEq,zd,ze,za,zf,zb]
 refine use1 (qdp l hB (by omega)) rfl (.inl rfl) ?_
 simp only [ZZ,WW,Ze,reduceCtorEq,zd,ze,za,zf,zb]
 refine br ?_ ?_
 ·intro h
  have h:¬ (ckdF l).2=0:=by simpa using h
  rw [if_pos h]
  simp only [ZZ,WW,Ze,reduceCtorEq,zd,ze,za,zf,zb]
  rfl
 intro h
 have h:(ckdF l).2=0:=by simpa using h
 rw [if_neg (fun e=>e h)]
 have hR:=(qpm h).2.1
 simp only [ZZ,WW,Ze,reduceCtorEq,zd,ze,za,zf,zb]
 refine use1 (qjk l (by omega)) rfl (.inl rfl) ?_
 simp only [ZZ,WW,Ze,reduceCtorEq,zd,ze,za,zf,zb,qa3]
 refine qaf (fun n fr L=>∃ (k:Nat),k≤seen.length∧n=seen.length - k∧(∀ j,j < k→sinE l seen j=0)∧fr=[.p (.sl 12 (ddE l)),.p (.sl 2 (spE seen)),oo,oo,oo,oo,oo,.p (stP l),.mp (.l 24),oo,oo,oo,oo,oo,oo,oo,oo,oo,oo,oo,oo,oo,oo,oo,oo,.p (.sl 2 (spE seen)),.p (int (seen.length:Nat)),.p (int (k:Nat)),oo,oo,oo,oo,oo,oo,oo,oo,oo,oo,oo,oo,oo,oo,oo,oo,oo,oo,oo,oo,oo,oo,oo,oo,oo,oo,oo,oo,oo,oo,oo,oo,oo,oo,oo,oo,oo,oo,oo,oo,oo,oo,oo,oo,oo,oo,oo,oo,oo,oo,oo,oo,oo,oo,oo,oo,oo,oo,oo,oo,oo,oo,oo,oo,oo]∧L=[(.l 24,.map (upM (seen.take k)) 9 3)]) (seen.length) [.p (.sl 12 (ddE l)),.p (.sl 2 (spE seen)),oo,oo,oo,oo,oo,.p (stP l),.mp (.l 24),oo,oo,oo,oo,oo,oo,oo,oo,oo,oo,oo,oo,oo,oo,oo,oo,.p (.sl 2 (spE seen)),.p (int (seen.length:Nat)),.p (int (0:Nat)),oo,oo,oo,oo,oo,oo,oo,oo,oo,oo,oo,oo,oo,oo,oo,oo,oo,oo,oo,oo,oo,oo,oo,oo,oo,oo,oo,oo,oo,oo,oo,oo,oo,oo,oo,oo,oo,oo,oo,oo,oo,oo,oo,oo,oo,oo,oo,oo,oo,oo,oo,oo,oo,oo,oo,oo,oo,oo,oo,oo,oo,oo,oo,oo,oo] [(.l 24,.map (upM (seen.take 0)) 9 3)] (by simp only [qa3,ZZ,WW,Ze,reduceCtorEq,zd,ze,za,zf,zb];try trivial) (by simp only [List.take_zero,upM,List.foldl_nil,ZZ,WW,Ze,reduceCtorEq,zd,ze,za,zf,zb];try trivial) ⟨0,by omega,by omega,by omega,rfl,rfl⟩ ?_
 rintro n fr L ⟨k,hk,rfl,hno,rfl,rfl⟩
 simp only [qeq,ZZ,WW,Ze,reduceCtorEq,zd,ze,za,zf,zb]
 refine br ?_ ?_
 ·intro h
  have hlt:k < seen.length:=by have:=of_decide_eq_true h;omega
  obtain ⟨p,hp⟩:∃ p,seen[k]?=some p:=⟨_,zm hlt⟩
  have hg:=qgL hp
  have hpl:=hsB p (zB hp)
  have hmx:((max (k:Int) 1) - 1).toNat=k - 1:=by omega
  have hpv:seen[k - 1]?=some (qfV seen k):=by unfold qfV;rw [zm (by omega)];rfl
  have hg2:=qgL hpv
  have hs:=qph l seen hp
  have hup:=qqJ hp
  have hle:(bytesLess p.1 (qfV seen k).1 || decide (p.1=(qfV seen k).1))=leT p.1 (qfV seen k).1:=rfl
  generalize qfV seen k=q at *
  have hK:qby [.str p.1,int p.2]=stK p.1 p.2:=rfl
  have hF:=qkq l p.1 p.2
  rw [qlZ hR] at hF
  have hsome:mpD (stM l) (stK p.1 p.2) (.agg (ddC dd0))=.agg (ddC ((qbF l p.1 p.2).getD dd0))∧(mpF (stM l) (stK p.1 p.2)).isSome=(qbF l p.1 p.2).isSome:=by
   rw [mpD,hF]
   cases qbF l p.1 p.2<;>exact ⟨rfl,rfl⟩
  obtain ⟨hs1,hs2⟩:=hsome
  simp only [ddC,dd0] at hs1
  simp only [stP,ZZ,WW,Ze,reduceCtorEq,zd,ze,za,zf,zb]
  simp only [ZZ,WW,Ze,reduceCtorEq,zd,ze,za,zf,zb,hg,qa3,spC,hK,qnB,hs1,hs2,ddC]
  generalize (qbF l p.1 p.2).isSome=is at *
  generalize hcc:(decide (0 < (k:Int)) && leT p.1 q.1)=cc at *
  refine ⟨⟨by omega,by omega⟩,hlt,[.bool (keyB p.1),int (qaK (!keyB p.1) 5),int (qaK cc 7),int (qaK (!is) 8),int (qaI [qaK (!keyB p.1) 5,qaK cc 7,qaK (!is) 8])],?_⟩
  simp only [ZZ,WW,Ze,reduceCtorEq,zd,ze,za,zf,zb,qa3,hmx,hg2,spC,hle,hcc]
  refine ⟨usep (upD (qki p.1 (by omega))) rfl (.inl rfl),usep (qbT (!keyB p.1) 5) rfl (.inl rfl),fun hc=>⟨hc,qai (by omega) (by omega)⟩,fun hc=>⟨hc,hc,by omega,by omega⟩,fun hc=>⟨hc,by omega⟩,usep (qbT cc 7) rfl (.inl rfl),usep (qbT (!is) 8) rfl (.inl rfl),usep (qgw [qaK (!keyB p.1) 5,qaK cc 7,qaK (!is) 8] (by simp)) rfl (.inl rfl),?_⟩
  rw [hs]
  refine br ?_ ?_
  ·intro h6
   have h6:¬ sinE l seen k=0:=by simpa using h6
   have hh:sinF l seen=sinE l seen k:=by rw [sinF,qdL hlt hno h6]
   rw [hh,if_neg h6]
   simp only [ZZ,WW,Ze,reduceCtorEq,zd,ze,za,zf,zb]
   rfl
  ·intro h6
   have h6:sinE l seen k=0:=by simpa using h6
   simp only [ZZ,WW,Ze,reduceCtorEq,zd,ze,za,zf,zb]
   refine ⟨qai (by omega) (by omega),?_⟩
   refine qae (seen.length - (k+1)) [.p (.sl 12 (ddE l)),.p (.sl 2 (spE seen)),oo,oo,oo,oo,oo,.p (stP l),.mp (.l 24),oo,oo,oo,oo,oo,oo,oo,oo,oo,oo,oo,oo,oo,oo,oo,oo,.p (.sl 2 (spE seen)),.p (int (seen.length:Nat)),.p (int ((k+1):Nat)),oo,oo,oo,oo,oo,oo,oo,oo,oo,oo,oo,oo,oo,oo,oo,oo,oo,oo,oo,oo,oo,oo,oo,oo,oo,oo,oo,oo,oo,oo,oo,oo,oo,oo,oo,oo,oo,oo,oo,oo,oo,oo,oo,oo,oo,oo,oo,oo,oo,oo,oo,oo,oo,oo,oo,oo,oo,oo,oo,oo,oo,oo,oo,oo,oo] [(.l 24,.map (upM (seen.take (k+1))) 9 3)] (by omega) (by (simp only [ZZ,WW,Ze,reduceCtorEq,zd,ze,za,zf,zb];try trivial)) (by rw [hup];simp only [ZZ,WW,Ze,reduceCtorEq,zd,ze,za,zf,zb]) ⟨k+1,by omega,rfl,by intro j hj;rcases zV j k with h'|h';exact hno j h';rw [show j=k by omega,h6],rfl,rfl⟩
 ·intro h
  have hge:seen.length≤k:=by have:=of_decide_eq_false h;omega
  have hh:sinF l seen=0:=by rw [sinF,qeI (g:=sinE l seen) (N:=seen.length) (fun j hj=>hno j (by omega))]
  rw [hh,if_pos rfl,zJ hge]
  simp only [ZZ,WW,Ze,reduceCtorEq,zd,ze,za,zf,zb,qab]
  refine qaf (fun n fr L=>∃ (k:Nat),k≤l.length∧n=l.length - k∧fr=[oo,oo,oo,oo,oo,oo,oo,oo,.mp (.l 24),oo,oo,oo,oo,oo,.row (.l 14),oo,oo,oo,oo,oo,oo,oo,oo,oo,oo,oo,oo,oo,oo,oo,oo,oo,oo,oo,oo,oo,oo,oo,oo,oo,oo,oo,oo,oo,oo,oo,oo,oo,oo,oo,oo,oo,oo,oo,oo,oo,oo,oo,oo,oo,oo,oo,oo,oo,oo,oo,oo,oo,oo,oo,oo,oo,.p (.sl 12 (ddE l)),.p (int (l.length:Nat)),.p (int (k:Nat)),oo,oo,oo,oo,oo,oo,oo,oo,oo,oo,oo,oo,oo,oo,oo,oo,oo,oo]∧L=[(.l 24,.map (upM seen) 9 3),(.l 14,.row (ddE ((l.take k).filter (prgB seen))) tDd 12 true)]) (l.length) [oo,oo,oo,oo,oo,oo,oo,oo,.mp (.l 24),oo,oo,oo,oo,oo,.row (.l 14),oo,oo,oo,oo,oo,oo,oo,oo,oo,oo,oo,oo,oo,oo,oo,oo,oo,oo,oo,oo,oo,oo,oo,oo,oo,oo,oo,oo,oo,oo,oo,oo,oo,oo,oo,oo,oo,oo,oo,oo,oo,oo,oo,oo,oo,oo,oo,oo,oo,oo,oo,oo,oo,oo,oo,oo,oo,.p (.sl 12 (ddE l)),.p (int (l.length:Nat)),.p (int (0:Nat)),oo,oo,oo,oo,oo,oo,oo,oo,oo,oo,oo,oo,oo,oo,oo,oo,oo,oo] [(.l 24,.map (upM seen) 9 3),(.l 14,.row (ddE ((l.take 0).filter (prgB seen))) tDd 12 true)] (by simp only [qab,ZZ,WW,Ze,reduceCtorEq,zd,ze,za,zf,zb];try trivial) (by simp only [List.take_zero,List.filter_nil,qh3,ZZ,WW,Ze,reduceCtorEq,zd,ze,za,zf,zb];try trivial) ⟨0,by omega,by omega,rfl,rfl⟩ ?_
  rintro n fr L ⟨k,hk,rfl,rfl,rfl⟩
  simp only [qep,ZZ,WW,Ze,reduceCtorEq,zd,ze,za,zf,zb]
  refine br ?_ ?_
  ·intro h
   have hlt:k < l.length:=by have:=of_decide_eq_true h;omega
   obtain ⟨d,hd⟩:∃ d,l[k]?=some d:=⟨_,zm hlt⟩
   have hg:=qaU hd
   have hn:=qi5 (prgB seen) hd
   have hup:=qsy seen d.site
   have hfl:((l.take k).filter (prgB seen)).length≤l.length:=ya (List.length_filter_le _ _) (List.length_take_le' _ _)
   have hr:decide (upF seen d.site < d.no)=prgB seen d:=rfl
   generalize (l.take k).filter (prgB seen)=out at *
   simp only [ZZ,WW,Ze,reduceCtorEq,zd,ze,za,zf,zb,hg,qab,ddC,hup]
   refine ⟨⟨by omega,by omega⟩,hlt,?_⟩
   rw [hr]
   refine br ?_ ?_
   ·intro h2
    rw [if_pos h2] at hn
    have hn2:ddE ((l.take (k+1)).filter (prgB seen))=ddE out++[ddC d]:=by rw [hn,← qjb];rfl
    simp only [ZZ,WW,Ze,reduceCtorEq,zd,ze,za,zf,zb,qab]
    refine ⟨by omega,?_⟩
    refine qag zE_ ?_
    simp only [ZZ,WW,Ze,reduceCtorEq,zd,ze,za,zf,zb]
    refine ⟨qai (by omega) (by omega),?_⟩
    refine qae (l.length - (k+1)) [oo,oo,oo,oo,oo,oo,oo,oo,.mp (.l 24),oo,oo,oo,oo,oo,.row (.l 14),oo,oo,oo,oo,oo,oo,oo,oo,oo,oo,oo,oo,oo,oo,oo,oo,oo,oo,oo,oo,oo,oo,oo,oo,oo,oo,oo,oo,oo,oo,oo,oo,oo,oo,oo,oo,oo,oo,oo,oo,oo,oo,oo,oo,oo,oo,oo,oo,oo,oo,oo,oo,oo,oo,oo,oo,oo,.p (.sl 12 (ddE l)),.p (int (l.length:Nat)),.p (int ((k+1):Nat)),oo,oo,oo,oo,oo,oo,oo,oo,oo,oo,oo,oo,oo,oo,oo,oo,oo,oo] [(.l 24,.map (upM seen) 9 3),(.l 14,.row (ddE ((l.take (k+1)).filter (prgB seen))) tDd 12 true)] (by omega) (by (simp only [ZZ,WW,Ze,reduceCtorEq,zd,ze,za,zf,zb];try trivial)) (by rw [hn2];simp only [ZZ,WW,Ze,reduceCtorEq,zd,ze,za,zf,zb,ddC]) ⟨k+1,by omega,rfl,rfl,rfl⟩
   ·intro h2
    rw [if_neg (by rw [h2];simp)] at hn
    simp only [ZZ,WW,Ze,reduceCtorEq,zd,ze,za,zf,zb]
    refine qag zE_ ?_
    simp only [ZZ,WW,Ze,reduceCtorEq,zd,ze,za,zf,zb]
    refine ⟨qai (by omega) (by omega),?_⟩
    refine qae (l.length - (k+1)) [oo,oo,oo,oo,oo,oo,oo,oo,.mp (.l 24),oo,oo,oo,oo,oo,.row (.l 14),oo,oo,oo,oo,oo,oo,oo,oo,oo,oo,oo,oo,oo,oo,oo,oo,oo,oo,oo,oo,oo,oo,oo,oo,oo,oo,oo,oo,oo,oo,oo,oo,oo,oo,oo,oo,oo,oo,oo,oo,oo,oo,oo,oo,oo,oo,oo,oo,oo,oo,oo,oo,oo,oo,oo,oo,oo,.p (.sl 12 (ddE l)),.p (int (l.length:Nat)),.p (int ((k+1):Nat)),oo,oo,oo,oo,oo,oo,oo,oo,oo,oo,oo,oo,oo,oo,oo,oo,oo,oo] [(.l 24,.map (upM seen) 9 3),(.l 14,.row (ddE ((l.take (k+1)).filter (prgB seen))) tDd 12 true)] (by omega) (by (simp only [ZZ,WW,Ze,reduceCtorEq,zd,ze,za,zf,zb];try trivial)) (by rw [hn];simp only [ZZ,WW,Ze,reduceCtorEq,zd,ze,za,zf,zb]) ⟨k+1,by omega,rfl,rfl,rfl⟩
  ·intro h
   have hge:l.length≤k:=by have:=of_decide_eq_false h;omega
   rw [zJ hge]
   simp only [ZZ,WW,Ze,reduceCtorEq,zd,ze,za,zf,zb]
def qbP:IC:=(.seq (.reg [qO 12 (.bin .lss (.t 11) (.t 10))]) (.seq (.cond (.t 12) .skip (.exit 0)) (.seq (.block 1 (.seq (.reg [qO 13 (.ixa 2 (.t 9) (.t 11)),qO 14 (.ld 2 true (.t 13)),qO 7 (.alc 43 [.str [],.int .i64 0]),⟨none,.st 2 (.t 7) (.t 14),none⟩]) (.seq (.reg [qM 15 0,qO 16 (.call 7 [.t 15,.c (.int .i64 3)]),qO 17 (.not (.t 16))]) (.cond (.t 17) (.seq (.reg [qM 18 0,qO 19 (.fla 1 (.t 7)),qO 20 (.ld 1 false (.t 19)),qO 21 (.mx (.t 20) (.c (.int .i64 1))),qO 22 (.call 16 [.t 18,.c (.int .i64 1),.t 21]),qO 23 (.fla 1 (.t 7)),⟨none,.st 1 (.t 23) (.t 22),none⟩]) (.reg [qM 24 5,qO 25 (.ld 2 true (.t 7)),qO 26 (.bsl 2 [.t 25]),qO 27 (.app 43 2 24 (.t 24) (.t 26)),qM 5 27])) .skip)))) (.cut (.reg [qO 28 (.bin .add (.t 11) (.c (.int .i64 1))),qM 11 28])))))
def qcx:IC:=(.seq (.reg [qO 4 (.mov (.c (.nl 2)))]) (.seq (.reg [qO 5 (.nilr 43 2)]) (.seq (.seq (.reg [qM 8 1,qO 9 (.call 34 [.t 8]),qO 10 (.len (.t 9)),qO 11 (.mov (.c (.int .i64 0)))]) (.block 0 (.loop qbP))) (.seq (.seq (.reg [qM 29 0,qO 30 (.call 7 [.t 29,.c (.int .i64 12)])]) (.cond (.t 30) (.reg [qM 31 5,qM 32 0,qO 33 (.bsl 1 [.c (.str [97]),.c (.str []),.c (.str [122])]),qO 34 (.call 36 [.t 32,.t 33]),qM 35 0,qO 36 (.call 16 [.t 35,.c (.int .i64 0),.c (.int .i64 3)]),⟨none,.fz (.t 34),none⟩,⟨none,.fz (.t 36),none⟩,qO 37 (.bld [.str [],.int .i64 0] [(0,1,.t 34),(1,1,.t 36)]),qO 38 (.bsl 2 [.t 37]),qO 39 (.app 43 2 24 (.t 31) (.t 38)),qM 5 39]) .skip)) (.cut (.seq (.reg [qM 40 5,qM 4 40]) .ret))))))
def qcr:List IRes:=[.t 4]
theorem qe0:chkF Tryz.prog Tryz.f27 qcx qcr 41=true:=by kernel_rfl
def qaT:IC:=(.seq (.reg [qO 14 (.bin .lss (.t 13) (.t 12))]) (.seq (.cond (.t 14) .skip (.exit 0)) (.seq (.block 1 (.seq (.reg [qM 15 13,qM 5 15]) (.seq (.drg [qM 16 0,qM 17 5,qO 18 (.ixa 2 (.t 16) (.t 17)),qO 19 (.ld 2 true (.t 18)),qM 20 1,qM 21 5,qO 22 (.ixa 2 (.t 20) (.t 21)),qO 23 (.ld 2 true (.t 22)),qO 24 (.eqa true [.s,.i] (.t 19) (.t 23))]) (.cond (.t 24) (.seq (.reg [qO 4 (.mov (.c (.bool false)))]) .ret) .skip)))) (.reg [qO 25 (.bin .add (.t 13) (.c (.int .i64 1))),qM 13 25]))))
def qa5:IC:=(.seq (.reg [qO 4 (.mov (.c (.bool false)))]) (.seq (.seq (.reg [qM 6 0,qO 7 (.len (.t 6)),qM 8 1,qO 9 (.len (.t 8)),qO 10 (.bin .neq (.t 7) (.t 9))]) (.cond (.t 10) (.seq (.reg [qO 4 (.mov (.c (.bool false)))]) .ret) .skip)) (.seq (.seq (.reg [qM 11 0,qO 12 (.len (.t 11)),qO 13 (.mov (.c (.int .i64 0)))]) (.block 0 (.loop qaT))) (.seq (.reg [qO 4 (.mov (.c (.bool true)))]) .ret))))
def qa4:List IRes:=[.t 4]
theorem qcp:chkF Tryz.prog Tryz.f33 qa5 qa4 26=true:=by kernel_rfl
section
variable {E:Envt}
theorem qnx (l:List Stp) (hl:l.length≤1000000000):PCall Tryz.prog E 33 [.sl 2 (spE l),.sl 2 (spE l)] (·=.bool true):=by
 refine qah mixed Tryz.func33 qcp ?_
 simp only [a0,l0,OS.ao,zl,zt,zn,zr,zp,zq,zu,zd,zk,zo,qa5,qa4,ZZ,WW,Ze,reduceCtorEq,zd,ze,za,zf,zb]
 simp only [ZZ,WW,Ze,reduceCtorEq,zd,ze,za,zf,zb,qa3,decide_true,Bool.not_true]
 refine qaf (fun n fr L=>∃ (k:Nat),k≤l.length∧n=l.length - k∧fr=[.p (.sl 2 (spE l)),.p (.sl 2 (spE l)),oo,oo,oo,oo,oo,oo,oo,oo,oo,oo,.p (int (l.length:Nat)),.p (int (k:Nat)),oo,oo,oo,oo,oo,oo,oo,oo,oo,oo,oo,oo]∧L=[]) (l.length) [.p (.sl 2 (spE l)),.p (.sl 2 (spE l)),oo,oo,oo,oo,oo,oo,oo,oo,oo,oo,.p (int (l.length:Nat)),.p (int (0:Nat)),oo,oo,oo,oo,oo,oo,oo,oo,oo,oo,oo,oo] [] (by simp only [qa3,ZZ,WW,Ze,reduceCtorEq,zd,ze,za,zf,zb];try trivial) (by (simp only [ZZ,WW,Ze,reduceCtorEq,zd,ze,za,zf,zb];try trivial)) ⟨0,by omega,by omega,rfl,rfl⟩ ?_
 rintro n fr L ⟨k,hk,rfl,rfl,rfl⟩
 simp only [qaT,ZZ,WW,Ze,reduceCtorEq,zd,ze,za,zf,zb]
 refine br ?_ ?_
 ·intro h
  have hlt:k < l.length:=by have:=of_decide_eq_true h;omega
  obtain ⟨d,hd⟩:∃ d,l[k]?=some d:=⟨_,zm hlt⟩
  have hg:=qgL hd
  simp only [ZZ,WW,Ze,reduceCtorEq,zd,ze,za,zf,zb]
  refine drg0 ?_
  simp only [ZZ,WW,Ze,reduceCtorEq,zd,ze,za,zf,zb,hg,qa3,spC,decide_true,Bool.and_self,Bool.not_true]
  refine ⟨⟨by omega,by omega⟩,hlt,⟨by omega,by omega⟩,hlt,qai (by omega) (by omega),?_⟩
  refine qae (l.length - (k+1)) [.p (.sl 2 (spE l)),.p (.sl 2 (spE l)),oo,oo,oo,oo,oo,oo,oo,oo,oo,oo,.p (int (l.length:Nat)),.p (int ((k+1):Nat)),oo,oo,oo,oo,oo,oo,oo,oo,oo,oo,oo,oo] [] (by omega) (by (simp only [ZZ,WW,Ze,reduceCtorEq,zd,ze,za,zf,zb];try trivial)) (by (simp only [ZZ,WW,Ze,reduceCtorEq,zd,ze,za,zf,zb];try trivial)) ⟨k+1,by omega,rfl,rfl,rfl⟩
 ·intro h
  simp only [ZZ,WW,Ze,reduceCtorEq,zd,ze,za,zf,zb]
theorem qqr (l:List Int) (k:Nat) (lo hi:Int) (hk:k≤1000000) (hl:l.length≤9223372036854775807) (h1:-10000000000000≤lo) (h2:lo≤hi) (h3:hi≤10000000000000) :
  qdN Tryz.prog E 16 T (stm l k) [int lo,int hi] (fun x cs'=>∃ y,x=int y∧lo≤y∧y≤hi∧cs'=stm l (k+1)):=by
 unfold qdN
 refine qf6 mixed Tryz.func16 qck ?_
 simp only [a0,l0,OS.ao,zl,zt,zn,zr,zp,zq,zu,zd,zk,zo,qbn,qbm,ZZ,WW,Ze,reduceCtorEq,zd,ze,za,zf,zb]
 refine br (fun h=>absurd (of_decide_eq_true h) (by omega)) ?_
 intro _
 simp only [ZZ,WW,Ze,reduceCtorEq,zd,ze,za,zf,zb]
 refine ⟨qai (by omega) (by omega),qai (by omega) (by omega),?_⟩
 refine useS (qb8 l k _ hk hl (by omega)) rfl rfl rfl zE_ ?_
 rintro x cs' ⟨y,rfl,rfl⟩
 have b1:=qc1 y (hi - lo+1)
 have b2:=qc2 y (hi - lo+1) (by omega)
 simp only [ZZ,WW,Ze,reduceCtorEq,zd,ze,za,zf,zb]
 exact ⟨qai (by omega) (by omega),qgQ (stm l (k+1)) rfl ⟨_,rfl,by omega,by omega,rfl⟩⟩
theorem qkl (l:List Dd):∀ (k:Nat) (p:Stp),p∈vecK l k→∃ d∈l,p=(d.site,d.no)
 |0,p,h=>by cases h
 |k+1,p,h=>by
  unfold vecK at h
  split at h
  ·rename_i d hd
   split at h
   ·rcases zz.1 h with h|h
    ·exact qkl l k p h
    ·rw [zL] at h
     exact ⟨d,zB hd,h⟩
   ·exact qkl l k p h
  ·exact qkl l k p h
def SpB (l:List Stp):Prop:=∀ p∈l,p.1.length≤1000∧-1000000000000≤p.2∧p.2≤1000000000000
theorem SpB.snoc {l:List Stp} (h:SpB l) {p:Stp} (h1:p.1.length≤1000) (h2:-1000000000000≤p.2∧p.2≤1000000000000):SpB (l++[p]):=fun q hq=>by
 rcases zz.1 hq with hq|hq
 ·exact h q hq
 ·rw [zL] at hq;subst hq;exact ⟨h1,h2⟩
def SeM (l:List Int) (k:Nat) (fr:List AV) (L:Objs):Prop:=∃ (out:List Stp) (k2:Nat),SpB out∧out.length≤3000∧k2≤k+5000∧fr=[oo,oo,oo,oo,oo,.row (.l 5),oo,oo,oo,oo,oo,oo,oo,oo,oo,oo,oo,oo,oo,oo,oo,oo,oo,oo,oo,oo,oo,oo,oo,oo,oo,oo,oo,oo,oo,oo,oo,oo,oo,oo,oo]∧L=[(.b 0,.box ((stm l k2).map .p) T),(.l 5,.row (spE out) tSt 2 true)]
set_option maxHeartbeats 4000000 in
theorem qux (l:List Int) (k:Nat) (o:List Dd) (hk:k≤900000) (hl:l.length≤9223372036854775807) (hB:DdsB o) (hol:o.length≤2001) :
  qdN Tryz.prog E 27 T (stm l k) [.sl 12 (ddE o)] (fun x cs'=>∃ (out:List Stp) (k':Nat),x=.sl 2 (spE out)∧SpB out∧out.length≤3000∧cs'=stm l k'∧k'≤k+5000):=by
 have hvl:(vecF o).length≤2001:=ya (qg5 o o.length) hol
 have hvB:SpB (vecF o):=fun p hp=>by
  obtain ⟨d,hd,rfl⟩:=qkl o o.length p hp
  exact ⟨(hB d hd).b1,(hB d hd).c1⟩
 unfold qdN
 refine qf6 mixed Tryz.func27 qe0 ?_
 simp only [a0,l0,OS.ao,zl,zt,zn,zr,zp,zq,zu,zd,zk,zo,qcx,qcr,ZZ,WW,Ze,reduceCtorEq,zd,ze,za,zf,zb]
 refine use1 (qjs o (by omega)) rfl (.inl rfl) ?_
 generalize vecF o=v at *
 simp only [ZZ,WW,Ze,reduceCtorEq,zd,ze,za,zf,zb,qa3]
 refine qaf (fun n fr L=>∃ (i:Nat) (out:List Stp) (kk:Nat),i≤v.length∧n=v.length - i∧(SpB out)∧(out.length≤i)∧(kk≤k+2 * i)∧fr=[.adr (.b 0) 0,oo,oo,oo,oo,.row (.l 5),oo,oo,oo,.p (.sl 2 (spE v)),.p (int (v.length:Nat)),.p (int (i:Nat)),oo,oo,oo,oo,oo,oo,oo,oo,oo,oo,oo,oo,oo,oo,oo,oo,oo,oo,oo,oo,oo,oo,oo,oo,oo,oo,oo,oo,oo]∧L=[(.b 0,.box ((stm l kk).map .p) T),(.l 5,.row (spE out) tSt 2 true)]) (v.length) [.adr (.b 0) 0,oo,oo,oo,oo,.row (.l 5),oo,oo,oo,.p (.sl 2 (spE v)),.p (int (v.length:Nat)),.p (int (0:Nat)),oo,oo,oo,oo,oo,oo,oo,oo,oo,oo,oo,oo,oo,oo,oo,oo,oo,oo,oo,oo,oo,oo,oo,oo,oo,oo,oo,oo,oo] [(.b 0,.box ((stm l k).map .p) T),(.l 5,.row (spE ((List.nil:List Stp))) tSt 2 true)] (by simp only [qa3,ZZ,WW,Ze,reduceCtorEq,zd,ze,za,zf,zb];try trivial) (by simp only [spE,zt,ZZ,WW,Ze,reduceCtorEq,zd,ze,za,zf,zb];try trivial) ⟨0,(List.nil:List Stp),k,by omega,by omega,(fun p hp=>by cases hp),by simp,by omega,rfl,rfl⟩ ?_
 rintro n fr L ⟨i,out,kk,hi,rfl,hO,hOl,hkk,rfl,rfl⟩
 simp only [qbP,ZZ,WW,Ze,reduceCtorEq,zd,ze,za,zf,zb]
 refine br ?_ ?_
 ·intro h
  have hlt:i < v.length:=by have:=of_decide_eq_true h;omega
  obtain ⟨p,hp⟩:∃ p,v[i]?=some p:=⟨_,zm hlt⟩
  have hg:=qgL hp
  obtain ⟨p1,p2,p3⟩:=hvB p (zB hp)
  simp only [ZZ,WW,Ze,reduceCtorEq,zd,ze,za,zf,zb,hg,qa3,spC]
  refine ⟨⟨by omega,by omega⟩,hlt,?_⟩
  refine useS (qlr l kk 3 (by omega) hl (by decide)) rfl rfl rfl zE_ ?_
  rintro x cs' ⟨b,rfl,rfl⟩
  simp only [ZZ,WW,Ze,reduceCtorEq,zd,ze,za,zf,zb]
  refine br ?_ ?_
  ·intro _
   simp only [ZZ,WW,Ze,reduceCtorEq,zd,ze,za,zf,zb]
   refine useS (qqr l (kk+1) 1 (max p.2 1) (by omega) hl (by omega) (by omega) (by omega)) rfl rfl rfl zE_ ?_
   rintro x cs' ⟨y,rfl,hy1,hy2,rfl⟩
   have hn1:spE out++[[.str p.1,int y]]=spE (out++[(p.1,y)]):=by rw [← qkr];rfl
   simp only [ZZ,WW,Ze,reduceCtorEq,zd,ze,za,zf,zb,qa3]
   refine ⟨by omega,?_⟩
   refine qag zE_ ?_
   simp only [ZZ,WW,Ze,reduceCtorEq,zd,ze,za,zf,zb]
   refine ⟨qai (by omega) (by omega),?_⟩
   refine qae (v.length - (i+1)) [.adr (.b 0) 0,oo,oo,oo,oo,.row (.l 5),oo,oo,oo,.p (.sl 2 (spE v)),.p (int (v.length:Nat)),.p (int ((i+1):Nat)),oo,oo,oo,oo,oo,oo,oo,oo,oo,oo,oo,oo,oo,oo,oo,oo,oo,oo,oo,oo,oo,oo,oo,oo,oo,oo,oo,oo,oo] [(.b 0,.box ((stm l (kk+1+1)).map .p) T),(.l 5,.row (spE ((out++[(p.1,y)]))) tSt 2 true)] (by omega) (by (simp only [ZZ,WW,Ze,reduceCtorEq,zd,ze,za,zf,zb];try trivial)) (by rw [← hn1];(simp only [ZZ,WW,Ze,reduceCtorEq,zd,ze,za,zf,zb];try trivial)) ⟨i+1,(out++[(p.1,y)]),kk+1+1,by omega,rfl,hO.snoc p1 ⟨by dsimp only;omega,by dsimp only;omega⟩,by simp;omega,by omega,rfl,rfl⟩
  ·intro _
   simp only [ZZ,WW,Ze,reduceCtorEq,zd,ze,za,zf,zb]
   refine qag zE_ ?_
   simp only [ZZ,WW,Ze,reduceCtorEq,zd,ze,za,zf,zb]
   refine ⟨qai (by omega) (by omega),?_⟩
   refine qae (v.length - (i+1)) [.adr (.b 0) 0,oo,oo,oo,oo,.row (.l 5),oo,oo,oo,.p (.sl 2 (spE v)),.p (int (v.length:Nat)),.p (int ((i+1):Nat)),oo,oo,oo,oo,oo,oo,oo,oo,oo,oo,oo,oo,oo,oo,oo,oo,oo,oo,oo,oo,oo,oo,oo,oo,oo,oo,oo,oo,oo] [(.b 0,.box ((stm l (kk+1)).map .p) T),(.l 5,.row (spE out) tSt 2 true)] (by omega) (by (simp only [ZZ,WW,Ze,reduceCtorEq,zd,ze,za,zf,zb];try trivial)) (by (simp only [ZZ,WW,Ze,reduceCtorEq,zd,ze,za,zf,zb];try trivial)) ⟨i+1,out,kk+1,by omega,rfl,hO,by omega,by omega,rfl,rfl⟩
 intro h
 simp only [ZZ,WW,Ze,reduceCtorEq,zd,ze,za,zf,zb]
 refine useS (qlr l kk 12 (by omega) hl (by decide)) rfl rfl rfl zE_ ?_
 rintro x cs' ⟨b,rfl,rfl⟩
 simp only [ZZ,WW,Ze,reduceCtorEq,zd,ze,za,zf,zb]
 refine qeG (SeM l k) ?_ ?_ ?_
 ·intro _
  simp only [ZZ,WW,Ze,reduceCtorEq,zd,ze,za,zf,zb]
  refine useS (qdF l (kk+1) [[97],[],[122]] (by omega) hl (by simp) (by simp)) rfl rfl rfl zE_ ?_
  rintro x cs' ⟨u,rfl,hu,rfl⟩
  have hu:u.length≤1000:=by simp only [zH,List.not_mem_nil,or_false] at hu;rcases hu with rfl|rfl|rfl<;>decide
  simp only [ZZ,WW,Ze,reduceCtorEq,zd,ze,za,zf,zb]
  refine useS (qhO l (kk+1+1) 0 3 (by omega) hl (by decide) (by decide) (by decide)) rfl rfl rfl zE_ ?_
  rintro x cs' ⟨y,rfl,hy1,hy2,rfl⟩
  have hn1:spE out++[[.str u,int y]]=spE (out++[(u,y)]):=by rw [← qkr];rfl
  simp only [ZZ,WW,Ze,reduceCtorEq,zd,ze,za,zf,zb,qa3]
  refine ⟨by omega,?_⟩
  exact qan [oo,oo,oo,oo,oo,.row (.l 5),oo,oo,oo,oo,oo,oo,oo,oo,oo,oo,oo,oo,oo,oo,oo,oo,oo,oo,oo,oo,oo,oo,oo,oo,oo,oo,oo,oo,oo,oo,oo,oo,oo,oo,oo] [(.b 0,.box ((stm l (kk+1+1+1)).map .p) T),(.l 5,.row (spE (out++[(u,y)])) tSt 2 true)] (by (simp only [ZZ,WW,Ze,reduceCtorEq,zd,ze,za,zf,zb];try trivial)) (by rw [← hn1];(simp only [ZZ,WW,Ze,reduceCtorEq,zd,ze,za,zf,zb];try trivial)) ⟨_,_,hO.snoc hu ⟨by dsimp only;omega,by dsimp only;omega⟩,by simp;omega,by omega,rfl,rfl⟩
 ·intro _
  simp only [ZZ,WW,Ze,reduceCtorEq,zd,ze,za,zf,zb]
  exact qan [oo,oo,oo,oo,oo,.row (.l 5),oo,oo,oo,oo,oo,oo,oo,oo,oo,oo,oo,oo,oo,oo,oo,oo,oo,oo,oo,oo,oo,oo,oo,oo,oo,oo,oo,oo,oo,oo,oo,oo,oo,oo,oo] [(.b 0,.box ((stm l (kk+1)).map .p) T),(.l 5,.row (spE out) tSt 2 true)] (by (simp only [ZZ,WW,Ze,reduceCtorEq,zd,ze,za,zf,zb];try trivial)) (by (simp only [ZZ,WW,Ze,reduceCtorEq,zd,ze,za,zf,zb];try trivial)) ⟨_,_,hO,by omega,by omega,rfl,rfl⟩
 rintro fr L ⟨out2,k2,hO2,hl2,hk2,rfl,rfl⟩
 simp only [ZZ,WW,Ze,reduceCtorEq,zd,ze,za,zf,zb]
 exact qgQ (stm l k2) rfl ⟨out2,k2,rfl,hO2,hl2,rfl,hk2⟩
end
end Go.Proofs.YtinffddgojhdfaaGreatDoor
