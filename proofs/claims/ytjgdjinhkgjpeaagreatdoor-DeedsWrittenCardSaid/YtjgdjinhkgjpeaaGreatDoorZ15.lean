import Derived.Test.YtjgdjinhkgjpeaaGreatDoorZ14
import Derived.Test.YtjgdjinhkgjpeaaGreatDoorZ12
import Derived.Lib.ItoaMem
import Derived.Test.YtjgdjinhkgjpeaaGreatDoorZ8
import Derived.Test.YtjgdjinhkgjpeaaGreatDoorZ13
import Derived.Test.YtjgdjinhkgjpeaaGreatDoorZ7
import Derived.Test.YtjgdjinhkgjpeaaGreatDoorZ10
set_option linter.unusedVariables false
set_option linter.unusedSimpArgs false
set_option linter.defProp false
namespace Go.Proofs.YtjgdjinhkgjpeaaGreatDoor
open Nat renaming reduceAdd→zd,reduceEqDiff→zb,reduceLT→zf,reduceLeDiff→za,reduceMul→ze
open Go.RowKit
theorem up9S {f:FuncId} {t:TypeId} {cs args:List PV} {ψ:PV→List PV→Prop} (h:qdl Tryz.prog ED f t cs args ψ):qdl Tryz.prog E9 f t cs args ψ:=fun w U vs v0 hU hE hEb hA hO=>h w U vs v0 hU ⟨hE.1.1,hE.1.2.1,hE.2⟩ (fun c hc=>hEb c (by rcases hc with hc|rfl|rfl;exact .inl (.inl hc);exact .inl (.inr (.inl rfl));exact .inr rfl)) hA hO
def qbO:IC:=(.seq (.reg [qO 2 (.mov (.c (.str [])))]) (.seq (.reg [qM 4 0,qO 5 (.call 13 [.t 4]),qO 6 (.call 7 [.t 5]),qM 3 6]) (.seq (.seq (.reg [qM 7 0,qO 8 (.call 14 [.t 7,.c (.int .i64 2)])]) (.cond (.t 8) (.reg [qM 9 0,qM 10 3,qM 11 0,qO 12 (.bsl 1 [.c (.str [32]),.c (.str [49]),.c (.str [45]),.c (.str [34]),.c (.str [10]),.c (.str [97])]),qO 13 (.call 34 [.t 11,.t 12]),qO 14 (.call 33 [.t 9,.t 10,.t 13]),qM 3 14]) .skip)) (.cut (.seq (.reg [qM 15 3,qM 2 15]) .ret)))))
def qbK:List IRes:=[.t 2]
theorem qd2:chkF Tryz.prog Tryz.f8 qbO qbK 16=true:=by kernel_rfl
def SDM (l:List Int) (k:Nat) (fr:List AV) (L:Objs):Prop:=∃ (q:List UInt8) (k2:Nat),q.length≤100000000000∧k2≤k+2000∧fr=[oo,oo,oo,.p (.str q),oo,oo,oo,oo,oo,oo,oo,oo,oo,oo,oo,oo]∧L=[(.b 0,.box ((stm l k2).map .p) T)]
theorem qmK (l:List Int) (k:Nat) (hk:k≤500000) (hl:l.length≤9223372036854775807) :
  qdl Tryz.prog E9 8 T (stm l k) [] (fun x cs'=>∃ (q:List UInt8) (k':Nat),x=.str q∧q.length≤100000000000∧cs'=stm l k'∧k'≤k+2000):=by
 unfold qdl
 refine qgl mixed Tryz.func8 qd2 ?_
 simp only [a0,l0,OS.ao,List.map_cons,List.map_nil,List.length_cons,List.length_nil,List.cons_append,List.nil_append,Nat.reduceSub,zd,List.replicate_succ,List.replicate_zero,qbO,qbK,ZZ,WW,Ze,reduceCtorEq,zd,ze,za,zf,zb]
 refine useS (up9S (qqe l k hk hl)) rfl rfl rfl zE_ ?_
 rintro x cs' ⟨o,k1,rfl,hR,rfl,hk1⟩
 have hol:=hR.len
 have htl:=qog hR.b
 simp only [ZZ,WW,Ze,reduceCtorEq,zd,ze,za,zf,zb]
 refine use1 (qg5 o hR.b hR.kd (by omega)) rfl (.inl rfl) ?_
 generalize txtF o=s at *
 simp only [ZZ,WW,Ze,reduceCtorEq,zd,ze,za,zf,zb]
 refine useS (qmP l k1 2 (by omega) hl (by decide)) rfl rfl rfl zE_ ?_
 rintro x cs' ⟨b,rfl,rfl⟩
 simp only [ZZ,WW,Ze,reduceCtorEq,zd,ze,za,zf,zb]
 refine qeU (SDM l k) ?_ ?_ ?_
 ·intro _
  simp only [ZZ,WW,Ze,reduceCtorEq,zd,ze,za,zf,zb]
  refine useS (qee l (k1+1) [[32],[49],[45],[34],[10],[97]] (by omega) hl (by simp) (by simp)) rfl rfl rfl zE_ ?_
  rintro x cs' ⟨u,rfl,hu,rfl⟩
  have hu:u.length≤1:=by simp only [List.mem_cons,List.not_mem_nil,or_false] at hu;rcases hu with rfl|rfl|rfl|rfl|rfl|rfl<;>decide
  simp only [ZZ,WW,Ze,reduceCtorEq,zd,ze,za,zf,zb]
  refine useS (qqP l (k1+1+1) s u (by omega) hl (by omega) (by omega)) rfl rfl rfl zE_ ?_
  rintro x cs' ⟨q,k2,rfl,hq,rfl,hk2⟩
  simp only [ZZ,WW,Ze,reduceCtorEq,zd,ze,za,zf,zb]
  exact qao _ _ (by (simp only [ZZ,WW,Ze,reduceCtorEq,zd,ze,za,zf,zb];try trivial)) zE_ ⟨q,k2,by omega,by omega,rfl,rfl⟩
 ·intro _
  simp only [ZZ,WW,Ze,reduceCtorEq,zd,ze,za,zf,zb]
  exact qao [oo,oo,oo,.p (.str s),oo,oo,oo,oo,oo,oo,oo,oo,oo,oo,oo,oo] [(.b 0,.box ((stm l (k1+1)).map .p) T)] (by (simp only [ZZ,WW,Ze,reduceCtorEq,zd,ze,za,zf,zb];try trivial)) zE_ ⟨s,_,by omega,by omega,rfl,rfl⟩
 rintro fr L ⟨q,k2,hq,hk2,rfl,rfl⟩
 simp only [ZZ,WW,Ze,reduceCtorEq,zd,ze,za,zf,zb]
 exact qfU (stm l k2) rfl ⟨q,k2,rfl,hq,rfl,hk2⟩
end Go.Proofs.YtjgdjinhkgjpeaaGreatDoor
namespace Go.Proofs.YtjgdjinhkgjpeaaGreatDoor
open List renaming length_cons→zk,length_drop→zR,length_nil→zp,length_pos_iff→yf
open Bool renaming and_eq_true→zh,true_and→yk
def canD (s:List UInt8):Prop:=s≠[]∧s.all digB=true∧¬ (1 < s.length∧s.getD 0 0=48)
theorem qr0 {u:Nat} (h:u < 10):digB (UInt8.ofNat (48+u))=true∧(UInt8.ofNat (48+u)).toNat=48+u:=by
 have e:(UInt8.ofNat (48+u)).toNat=48+u:=by rw [UInt8.toNat_ofNat'];omega
 refine ⟨?_,e⟩
 simp only [digB,zh,decide_eq_true_eq]
 rw [e]
 omega
theorem qnF {u:Nat} (h:¬ u < 10):Lib.decDigits u=Lib.decDigits (u / 10)++[UInt8.ofNat (48+u % 10)]:=by
 rw [Lib.decDigits,dif_neg h]
theorem qjX:∀ (n u:Nat),u < n→canD (Lib.decDigits u)∧(1≤u→(Lib.decDigits u).getD 0 0≠48)
 |0,u,h=>by omega
 |n+1,u,h=>by
  by_cases h1:u < 10
  ·rw [Lib.decDigits_one h1]
   refine ⟨⟨by simp,by simpa using (qr0 h1).1,by simp⟩,fun h2 e=>?_⟩
   have e:UInt8.ofNat (48+u)=48:=e
   have:=congrArg UInt8.toNat e
   rw [(qr0 h1).2] at this
   have h48:(48:UInt8).toNat=48:=rfl
   omega
  ·obtain ⟨⟨a1,a2,a3⟩,a4⟩:=qjX n (u / 10) (by omega)
   have a4:=a4 (by omega)
   rw [qnF h1]
   have hg:(Lib.decDigits (u / 10)++[UInt8.ofNat (48+u % 10)]).getD 0 0=(Lib.decDigits (u / 10)).getD 0 0:=by
    cases hd:Lib.decDigits (u / 10) with
    |nil=>exact absurd hd a1
    |cons c r=>rfl
   refine ⟨⟨by simp,?_,?_⟩,fun _=>by rw [hg];exact a4⟩
   ·rw [List.all_append,a2]
    simpa using (qr0 (u:=u % 10) (by omega)).1
   ·rintro ⟨_,e⟩
    rw [hg] at e
    exact a4 e
theorem qtx (t:List UInt8) (c:UInt8):qfI (t++[c])=10 * qfI t+(c.toNat - 48):=by
 unfold qfI
 rw [List.foldl_append]
 rfl
theorem qo2:∀ (n:Nat) (s:List UInt8),s.length=n→canD s→Lib.decDigits (qfI s)=s
 |0,s,h,hc=>absurd (List.length_eq_zero_iff.1 h) hc.1
 |n+1,s,h,hc=>by
  obtain ⟨t,c,rfl⟩:∃ t c,s=t++[c]:=⟨s.dropLast,s.getLast hc.1,(List.dropLast_concat_getLast hc.1).symm⟩
  obtain ⟨h1,h2,h3⟩:=hc
  rw [List.all_append,zh] at h2
  have hcd:digB c=true:=by simpa using h2.2
  simp only [digB,zh,decide_eq_true_eq] at hcd
  rw [qtx]
  have hcc:UInt8.ofNat c.toNat=c:=UInt8.ofNat_toNat
  by_cases ht:t=[]
  ·subst ht
   rw [show qfI ([]:List UInt8)=0 from rfl,Lib.decDigits_one (by omega),show 48+(10 * 0+(c.toNat - 48))=c.toNat from by omega,hcc]
   rfl
  ·have hg:(t++[c]).getD 0 0=t.getD 0 0:=by
    cases t with
    |nil=>exact absurd rfl ht
    |cons d r=>rfl
   have hl:1≤t.length:=yf.2 ht
   have hg0:t.getD 0 0≠48:=fun e=>h3 ⟨by simp;omega,by rw [hg,e]⟩
   have ih:=qo2 n t (by simpa using h) ⟨ht,h2.1,fun e=>hg0 e.2⟩
   have h0:1≤qfI t:=by
    rcases Nat.eq_zero_or_pos (qfI t) with e|e
    ·rw [e,Lib.decDigits_one (by omega)] at ih
     rw [← ih] at hg0
     exact absurd rfl hg0
    ·exact e
   rw [qnF (by omega),show (10 * qfI t+(c.toNat - 48)) / 10=qfI t from by omega,show (10 * qfI t+(c.toNat - 48)) % 10=c.toNat - 48 from by omega,ih,show 48+(c.toNat - 48)=c.toNat from by omega,hcc]
theorem qp3 {s:List UInt8} (h:canD s):qaF s [45]=(s,false):=by
 obtain ⟨h1,h2,_⟩:=h
 cases s with
 |nil=>exact absurd rfl h1
 |cons c r=>
  simp only [List.all_cons,zh] at h2
  have hc:c≠45:=by rintro rfl;exact absurd h2.1 (by decide)
  unfold qaF
  rw [if_neg (by simp [Lib.hasPrefix,List.isPrefixOf,Ne.symm hc])]
theorem qdT (d:List UInt8):qaF (45 :: d) [45]=(d,true):=by
 unfold qaF
 rw [if_pos (by simp [Lib.hasPrefix,List.isPrefixOf])]
 rfl
theorem qnG (s:List UInt8):qaF s [45]=(s,false)∨∃ d,s=45 :: d:=by
 cases s with
 |nil=>exact .inl rfl
 |cons c r=>
  by_cases hc:c=45
  ·exact .inr ⟨r,by rw [hc]⟩
  ·refine .inl ?_
   unfold qaF
   rw [if_neg (by simp [Lib.hasPrefix,List.isPrefixOf,Ne.symm hc])]
theorem qnZ {d:List UInt8} (hne:d≠[]) (h:d.all digB=true) (hl:d.length≤9):atV (45 :: d)=-((qfI d:Nat):Int)∧atB (45 :: d)=true:=by
 have hp:(10:Nat) ^ d.length≤10 ^ 9:=Nat.pow_le_pow_right (by decide) hl
 have e:=qki d 0 h (by omega)
 have hb:=qh1 d h
 have e2:Lib.atoiAll (45 :: d)=.ok (-((qfI d:Nat):Int)):=by
  rw [Lib.atoiAll_minus,Lib.parseMag,if_neg hne,e]
  rw [show d.foldl (fun n c=>10 * n+(c.toNat - 48)) 0=qfI d from rfl]
  rw [Lib.signed,if_neg (by omega)]
 unfold atV atB
 rw [e2]
 exact ⟨rfl,rfl⟩
def nuF (s:List UInt8):Prop:=badN s 9=false∧(qaF s [45]).1.all digB=true
theorem qhU (s d:List UInt8) (m:Bool) (h:qaF s [45]=(d,m)):badN s 9=false↔(1≤d.length∧d.length≤9)∧¬ (1 < d.length∧d.getD 0 0=48)∧¬ (m=true∧d=[48]):=by
 have h48:((((d.getD 0 0).toNat:Nat):Int)=48)↔d.getD 0 0=48:=by
  constructor
  ·intro e
   apply UInt8.toNat_inj.1
   rw [show (48:UInt8).toNat=48 from rfl]
   omega
  ·intro e
   rw [e]
   rfl
 unfold badN inE
 rw [h]
 simp only [Bool.or_eq_false_iff,Bool.not_eq_false',zh,decide_eq_true_eq,Bool.and_eq_false_iff,decide_eq_false_iff_not,h48]
 constructor
 ·rintro ⟨⟨h1,h2⟩,h3⟩
  refine ⟨by omega,?_,?_⟩
  ·rintro ⟨h4,h5⟩
   rcases h2 with h2|h2
   ·omega
   ·exact h2 h5
  ·rintro ⟨rfl,h5⟩
   rcases h3 with h3|h3
   ·cases h3
   ·exact h3 h5
 ·rintro ⟨h1,h2,h3⟩
  refine ⟨⟨by omega,?_⟩,?_⟩
  ·by_cases h4:d.getD 0 0=48
   ·refine .inl fun h5=>h2 ⟨by omega,h4⟩
   ·exact .inr h4
  ·cases m
   ·exact .inl rfl
   ·exact .inr fun h5=>h3 ⟨rfl,h5⟩
theorem ql9 (s:List UInt8):(nuF s→atB s=true∧qkY s 9=true)∧(qkY s 9=true→nuF s):=by
 constructor
 ·rintro ⟨hb,ha⟩
  rcases qnG s with hc|⟨d,rfl⟩
  ·have h1:=(qhU s s false hc).1 hb
   rw [hc] at ha
   have hne:s≠[]:=by rintro rfl;simp at h1
   obtain ⟨a1,a2⟩:=qsm hne ha (by omega)
   refine ⟨a2,?_⟩
   unfold qkY
   rw [a2,a1,hc,Lib.itoa_nonneg,qo2 _ s rfl ⟨hne,ha,h1.2.1⟩]
   simp only [decide_true,yk,decide_eq_true_eq]
   omega
  ·have h1:=(qhU (45 :: d) d true (qdT d)).1 hb
   rw [qdT] at ha
   have hne:d≠[]:=by rintro rfl;simp at h1
   obtain ⟨a1,a2⟩:=qnZ hne ha (by omega)
   have hd:=qo2 _ d rfl ⟨hne,ha,h1.2.1⟩
   have h0:1≤qfI d:=by
    rcases Nat.eq_zero_or_pos (qfI d) with e|e
    ·rw [e,Lib.decDigits_one (by omega)] at hd
     exact absurd ⟨rfl,hd.symm⟩ h1.2.2
    ·exact e
   refine ⟨a2,?_⟩
   unfold qkY
   rw [a2,a1,qdT,Lib.itoa_neg _ h0,hd]
   simp only [decide_true,yk,decide_eq_true_eq]
   omega
 ·intro h
  unfold qkY at h
  simp only [zh,decide_eq_true_eq] at h
  obtain ⟨⟨h1,h2⟩,h3⟩:=h
  generalize atV s=v at h2
  rcases Int.le_total 0 v with hv|hv
  ·obtain ⟨u,rfl⟩:∃ u:Nat,v=u:=⟨v.toNat,by omega⟩
   rw [Lib.itoa_nonneg] at h2
   obtain ⟨hc,_⟩:=qjX (u+1) u (by omega)
   rw [h2] at hc
   have hm:=qp3 hc
   rw [hm] at h3
   simp only at h3
   refine ⟨(qhU s s false hm).2 ⟨⟨yf.2 hc.1,by omega⟩,hc.2.2,fun e=>by cases e.1⟩,by rw [hm];exact hc.2.1⟩
  ·rcases Int.lt_or_eq_of_le hv with hv|rfl
   ·obtain ⟨u,rfl,hu⟩:∃ u:Nat,v=-(u:Int)∧1≤u:=⟨(-v).toNat,by omega,by omega⟩
    rw [Lib.itoa_neg u hu] at h2
    obtain ⟨hc,hh⟩:=qjX (u+1) u (by omega)
    rw [← h2] at h3 ⊢
    rw [qdT] at h3
    simp only at h3
    refine ⟨(qhU _ _ true (qdT _)).2 ⟨⟨yf.2 hc.1,by omega⟩,hc.2.2,fun e=>hh hu (by rw [e.2];rfl)⟩,by rw [qdT];exact hc.2.1⟩
   ·have h2:Lib.itoa ((0:Nat):Int)=s:=h2
    rw [Lib.itoa_nonneg] at h2
    obtain ⟨hc,_⟩:=qjX 1 0 (by omega)
    rw [h2] at hc
    have hm:=qp3 hc
    rw [hm] at h3
    simp only at h3
    refine ⟨(qhU s s false hm).2 ⟨⟨yf.2 hc.1,by omega⟩,hc.2.2,fun e=>by cases e.1⟩,by rw [hm];exact hc.2.1⟩
theorem qpm:∀ {f:Nat} {q s q' r:List UInt8},unqG f q s=some (q',r)→q'.length+r.length≤q.length+s.length∧r.length < s.length
 |0,_,_,_,_,h=>by cases h
 |f+1,q,[],_,_,h=>by cases h
 |f+1,q,b :: s,q',r,h=>by
  by_cases hb:b=34
  ·have e:unqG (f+1) q (b :: s)=some (q,s):=by show (if b=34 then _ else _)=_;rw [if_pos hb]
   rw [e] at h
   cases h
   simp only [zk]
   omega
  ·cases hs:qiW (b :: s) with
   |none=>
    have e:unqG (f+1) q (b :: s)=none:=by show (if b=34 then _ else _)=_;rw [if_neg hb,hs]
    rw [e] at h
    cases h
   |some c=>
    have e:unqG (f+1) q (b :: s)=unqG f (q++[c]) ((b :: s).drop (quB c).length):=by show (if b=34 then _ else _)=_;rw [if_neg hb,hs]
    rw [e] at h
    have h1:=qpm h
    have h2:1≤(quB c).length:=yf.2 (qpA c)
    simp only [List.length_append,zR,zk,zp] at h1 ⊢
    omega
theorem qlI {s q r:List UInt8} (h:unqF s=some (q,r)):q.length≤s.length∧r.length≤s.length:=by
 unfold unqF at h
 split at h
 ·have:=qpm h
  simp only [zR,zp] at this
  omega
 ·cases h
theorem qzg {s:List UInt8} (h:nuF s):-1000000000≤atV s∧atV s≤1000000000:=by
 have h2:=((ql9 s).1 h).2
 obtain ⟨hb,ha⟩:=h
 rcases qnG s with hc|⟨d,rfl⟩
 ·have h1:=(qhU s s false hc).1 hb
  rw [hc] at ha
  have hne:s≠[]:=by rintro rfl;simp at h1
  obtain ⟨a1,_⟩:=qsm hne ha (by omega)
  have hp:(10:Nat) ^ s.length≤10 ^ 9:=Nat.pow_le_pow_right (by decide) h1.1.2
  have:=qh1 s ha
  rw [a1]
  omega
 ·have h1:=(qhU (45 :: d) d true (qdT d)).1 hb
  rw [qdT] at ha
  have hne:d≠[]:=by rintro rfl;simp at h1
  obtain ⟨a1,_⟩:=qnZ hne ha (by omega)
  have hp:(10:Nat) ^ d.length≤10 ^ 9:=Nat.pow_le_pow_right (by decide) h1.1.2
  have:=qh1 d ha
  rw [a1]
  omega
theorem qjT (l:List (List UInt8)) (x:List UInt8):∀ n k:Nat,l.length - k≤n→idxS l x k≤l.length∧-1≤idxS l x k
 |0,k,h=>by
  rw [idxS,dif_neg (by omega)]
  omega
 |n+1,k,h=>by
  rw [idxS]
  split
  ·split
   ·omega
   ·exact qjT l x n (k+1) (by omega)
  ·omega
def dwW:List UInt8:=[100,101,101,100]
def nplL:List Nat:=[2,3,8,9,11]
def mkD (w:List (List UInt8)) (v:List UInt8):Dd:=
 { site:=w.getD 1 [],no:=atV (w.getD 2 []),tm:=atV (w.getD 3 []),kind:=idxS kndW (w.getD 4 []) 0+1,id:=nonF (w.getD 5 []),field:=nonF (w.getD 6 []),value:=v,frm:=atV (w.getD 8 []),upto:=atV (w.getD 9 []),osite:=nonF (w.getD 10 []),ono:=atV (w.getD 11 []),sum:=w.getD 12 [] }
open Classical in
noncomputable def prsN (w:List (List UInt8)):Option Dd:=
 if ¬ ∀ j∈nplL,nuF (w.getD j []) then none
 else match unqF (w.getD 7 []) with
  |none=>none
  |some (v,r)=>if r≠[]∨idxS kndW (w.getD 4 []) 0 < 0 then none else some (mkD w v)
theorem qpC {w:List (List UInt8)} (h:¬ ∀ j∈nplL,nuF (w.getD j [])):prsN w=none:=by
 unfold prsN
 rw [if_pos h]
theorem qpB {w:List (List UInt8)} (h:∀ j∈nplL,nuF (w.getD j [])) (h2:unqF (w.getD 7 [])=none):prsN w=none:=by
 unfold prsN
 rw [if_neg (fun e=>e h),h2]
theorem qnj {w:List (List UInt8)} (h:∀ j∈nplL,nuF (w.getD j [])) {v r:List UInt8} (h2:unqF (w.getD 7 [])=some (v,r)):prsN w=if r≠[]∨idxS kndW (w.getD 4 []) 0 < 0 then none else some (mkD w v):=by
 unfold prsN
 rw [if_neg (fun e=>e h),h2]
noncomputable def prsW (w:List (List UInt8)):Option Dd:=if w.length≠13∨w.getD 0 []≠dwW∨[]∈w then none else prsN w
noncomputable def goF:List (List UInt8)→Nat→List Dd→Except Nat (List Dd)
 |[],_,q=>.ok q
 |s :: r,i,q=>match prsW (splF s 32) with|none=>.error i|some d=>goF r (i+1) (q++[d])
def parE (S:List (List UInt8)):Except Nat (List Dd)→List Dd×Int×Int
 |.error i=>([],(i:Int),9)
 |.ok q=>if S.getLastD []≠[] then ([],(S.length:Int) - 1,9) else if ¬ (ckdF q).2=0 then ([],0,(ckdF q).2) else (q,0,0)
noncomputable def parF (s:List UInt8):List Dd×Int×Int:=if 200000 < s.length then ([],0,2) else parE (splF s 10) (goF (splF s 10).dropLast 0 [])
theorem qkj {S:List (List UInt8)} {q:List Dd} (h:S.getLastD []≠[]):parE S (.ok q)=([],(S.length:Int) - 1,9):=by
 show (if _ then _ else _)=_
 rw [if_pos h]
theorem qow {S:List (List UInt8)} {q:List Dd} (h:S.getLastD []=[]):parE S (.ok q)=if ¬ (ckdF q).2=0 then ([],0,(ckdF q).2) else (q,0,0):=by
 show (if _ then _ else _)=_
 rw [if_neg (fun e=>e h)]
theorem qma (s:List UInt8):(nonF s).length≤s.length:=by
 unfold nonF
 split<;>simp
theorem qum {w:List (List UInt8)} {d:Dd} (h:prsW w=some d) (hw:∀ x∈w,x.length≤200000):DdB d:=by
 unfold prsW at h
 split at h
 ·cases h
 rename_i h1
 unfold prsN at h
 split at h
 ·cases h
 rename_i h2
 have h2:∀ j∈nplL,nuF (w.getD j []):=Classical.not_not.1 h2
 split at h
 ·cases h
 rename_i v r hu
 split at h
 ·cases h
 rename_i h3
 cases h
 have hg:∀ j,(w.getD j []).length≤200000:=by
  intro j
  rw [List.getD_eq_getElem?_getD]
  cases hj:w[j]? with
  |none=>simp
  |some x=>exact hw x (List.mem_of_getElem? hj)
 have b:=fun j hj=>qzg (h2 j hj)
 have b2:=b 2 (by decide)
 have b3:=b 3 (by decide)
 have b8:=b 8 (by decide)
 have b9:=b 9 (by decide)
 have b11:=b 11 (by decide)
 have hk:idxS kndW (w.getD 4 []) 0≤6∧-1≤idxS kndW (w.getD 4 []) 0:=qjT kndW (w.getD 4 []) 6 0 (by decide)
 have hu:=qlI hu
 have n5:=qma (w.getD 5 [])
 have n6:=qma (w.getD 6 [])
 have n10:=qma (w.getD 10 [])
 have g5:=hg 5
 have g6:=hg 6
 have g7:=hg 7
 have g10:=hg 10
 exact ⟨hg 1,by show (nonF _).length≤_;omega,by show (nonF _).length≤_;omega,by show v.length≤_;omega,by show (nonF _).length≤_;omega,hg 12,by show _≤atV _∧atV _≤_;omega,by show _≤atV _∧atV _≤_;omega,by show _≤idxS kndW _ 0+1∧idxS kndW _ 0+1≤_;omega,by show _≤atV _∧atV _≤_;omega,by show _≤atV _∧atV _≤_;omega,by show _≤atV _∧atV _≤_;omega⟩
end Go.Proofs.YtjgdjinhkgjpeaaGreatDoor
namespace Go.Proofs.YtjgdjinhkgjpeaaGreatDoor
open Nat renaming le_trans→z8,reduceAdd→zd,reduceEqDiff→zb,reduceLT→zf,reduceLeDiff→za,reduceMul→ze,reduceSub→zu
open List renaming cons_append→zo,drop_eq_nil_of_le→yz,getD_eq_getElem?_getD→zG,getElem?_eq_getElem→zr,getElem?_eq_some_iff→zw,length_append→zx,length_cons→zk,length_map→zV,length_nil→zp,length_pos_iff→yf,map_cons→zl,map_nil→zt,mem_cons→zI,mem_of_getElem?→zD,mem_singleton→zL,nil_append→zq,not_mem_nil→zU,replicate_succ→zj,replicate_zero→zm
open Bool renaming and_eq_true→zh,not_eq_false'→yp,not_eq_true'→zW,or_eq_false_iff→zZ
open Int renaming toNat→yn,toNat_natCast→yi
open Go.RowKit
def qiz:IC:=(.seq (.reg [qO 2 (.mov (.c (.nl 1))),qO 3 (.mov (.c (.bool false)))]) (.seq (.seq (.reg [qM 6 0,qO 7 (.bin .eql (.t 6) (.c (.str [])))]) (.cond (.t 7) (.seq (.reg [qO 2 (.mov (.c (.nl 1))),qO 3 (.mov (.c (.bool true)))]) .ret) .skip)) (.seq (.reg [qM 9 0,qO 10 (.call 67 [.t 9,.c (.str [10])]),qM 8 10,qO 11 (.ext 0 (.t 8)),qO 12 (.ext 1 (.t 8)),qM 4 11,qM 5 12]) (.seq (.reg [qM 13 4,qO 14 (.call 37 [.t 13,.c (.str [10])]),qM 15 5,qM 2 14,qM 3 15]) .ret))))
def qin:List IRes:=[.t 2,.t 3]
theorem qmu:chkF Tryz.prog Tryz.f35 qiz qin 16=true:=by kernel_rfl
def linF (s:List UInt8):List (List UInt8)×Bool:=if s=[] then ([],true) else (splF (qeR s [10]).1 10,(qeR s [10]).2)
theorem qoX (s p:List UInt8):(qeR s p).1.length≤s.length:=by
 unfold qeR
 split<;>simp
theorem qsz (s:List UInt8) (hs:s.length≤1000000000):PCall Tryz.prog E0 35 [.str s] (·=.tup [strs (linF s).1,.bool (linF s).2]):=by
 refine qaf mixed Tryz.func35 qmu ?_
 simp only [a0,l0,OS.ao,zl,zt,zk,zp,zo,zq,zu,zd,zj,zm,qiz,qin,ZZ,WW,Ze,reduceCtorEq,zd,ze,za,zf,zb]
 refine br ?_ ?_
 ·intro h
  have h:s=[]:=by simpa using h
  simp only [ZZ,WW,Ze,reduceCtorEq,zd,ze,za,zf,zb]
  rw [linF,if_pos h]
  rfl
 ·intro h
  have h:¬ s=[]:=by simpa using h
  simp only [ZZ,WW,Ze,reduceCtorEq,zd,ze,za,zf,zb]
  refine use1 (qob s [10] hs (by decide)) rfl (.inl rfl) ?_
  simp only [ZZ,WW,Ze,reduceCtorEq,zd,ze,za,zf,zb]
  refine use1 (qj0 (qeR s [10]).1 10 (by have:=qoX s [10];omega)) rfl (.inl rfl) ?_
  simp only [ZZ,WW,Ze,reduceCtorEq,zd,ze,za,zf,zb]
  rw [linF,if_neg h]
  rfl
theorem qq6 (c:UInt8):∀ s:List UInt8,s≠[]→s.getLast?≠some c→(sp c s).getLastD []≠[]
 |[],h,_=>absurd rfl h
 |[x],_,h=>by
  have hx:¬ x=c:=fun e=>h (by rw [e];rfl)
  rw [sp,if_neg hx]
  simp [sp]
 |x :: y :: s,_,h=>by
  have ih:=qq6 c (y :: s) (by simp) (by rwa [List.getLast?_cons_cons] at h)
  have hne:=qql c (y :: s)
  rw [sp]
  cases hsp:sp c (y :: s) with
  |nil=>exact absurd hsp hne
  |cons a t=>
   rw [hsp] at ih
   split
   ·simpa using ih
   ·cases t with
    |nil=>simp
    |cons b t=>simpa using ih
theorem qmZ (s t:List UInt8):sufE s t=true↔∃ x,s=x++t:=by
 unfold sufE
 simp only [zh,decide_eq_true_eq]
 constructor
 ·rintro ⟨_,h⟩
  exact ⟨s.take (s.length - t.length),by conv=>lhs;rw [← List.take_append_drop (s.length - t.length) s,h]⟩
 ·rintro ⟨x,rfl⟩
  refine ⟨by rw [zx];omega,?_⟩
  rw [zx,Nat.add_sub_cancel,List.drop_left]
theorem qrC (s:List UInt8):((linF s).2=true→(linF s).1=(splF s 10).dropLast∧(splF s 10).getLastD []=[])∧((linF s).2=false→(linF s).1=splF s 10∧(splF s 10).getLastD []≠[]):=by
 unfold linF
 split
 ·rename_i h
  subst h
  rw [qgv]
  exact ⟨fun _=>⟨rfl,rfl⟩,fun h=>by cases h⟩
 ·rename_i h
  unfold qeR
  split
  ·rename_i h2
   refine ⟨fun _=>?_,fun h=>by cases h⟩
   rw [qmZ] at h2
   obtain ⟨t,rfl⟩:=h2
   rw [qgv,qgv,qwY]
   simp [sp]
  ·rename_i h2
   refine ⟨(fun h=>by cases h),fun _=>⟨rfl,?_⟩⟩
   rw [qgv]
   refine qq6 10 s h fun h3=>h2 ?_
   rw [qmZ]
   have h4:=List.dropLast_concat_getLast h
   rw [List.getLast?_eq_some_getLast h,Option.some.injEq] at h3
   rw [h3] at h4
   exact ⟨_,h4.symm⟩
def qfz:IC:=(.seq (.reg [qO 34 (.bin .lss (.t 33) (.t 32))]) (.seq (.cond (.t 34) .skip (.exit 0)) (.seq (.block 1 (.seq (.reg [qM 35 33,qO 36 (.ixa 1 (.t 31) (.t 33)),qO 37 (.ld 1 false (.t 36)),qM 6 35,qM 7 37]) (.seq (.reg [qM 39 4,qM 40 7,qO 41 (.ixa 1 (.t 39) (.t 40)),qO 42 (.ld 1 false (.t 41)),qO 43 (.call 68 [.t 42,.c (.int .i64 9)]),qM 38 43,qO 44 (.ext 0 (.t 38)),qO 45 (.ext 1 (.t 38)),qM 8 44,qM 9 45]) (.seq (.seq (.reg [qM 46 9,qO 47 (.not (.t 46))]) (.cond (.t 47) (.seq (.reg [qO 48 (.bld [.str [],.int .i64 0,.int .i64 0,.int .i64 0,.str [],.str [],.str [],.int .i64 0,.int .i64 0,.str [],.int .i64 0,.str []] []),⟨none,.st 12 (.t 2) (.t 48),none⟩,qO 3 (.mov (.c (.bool false)))]) .ret) .skip)) (.reg [qM 49 6,qM 50 8,qO 51 (.ixv 1 5 (.t 5) (.t 49)),⟨none,.st 1 (.t 51) (.t 50),none⟩]))))) (.reg [qO 52 (.bin .add (.t 33) (.c (.int .i64 1))),qM 33 52]))))
def qhB:IC:=(.seq (.reg [qO 2 (.alc 44 [.str [],.int .i64 0,.int .i64 0,.int .i64 0,.str [],.str [],.str [],.int .i64 0,.int .i64 0,.str [],.int .i64 0,.str []]),qO 3 (.mov (.c (.bool false)))]) (.seq (.reg [qM 15 0,qO 16 (.call 37 [.t 15,.c (.str [32])]),qM 4 16]) (.seq (.seq (.reg [qM 17 4,qO 18 (.len (.t 17)),qO 19 (.bin .neq (.t 18) (.c (.int .i64 13))),qM 20 19,⟨some 21,.mov (.t 4),(some (20,false))⟩,⟨some 22,.ixa 1 (.t 21) (.c (.int .i64 0)),(some (20,false))⟩,⟨some 23,.ld 1 false (.t 22),(some (20,false))⟩,⟨some 24,.bin .neq (.t 23) (.c (.str [100,101,101,100])),(some (20,false))⟩,qO 25 (.pick (.t 20) (.c (.bool true)) (.t 24)),qM 26 25,⟨some 27,.mov (.t 4),(some (26,false))⟩,⟨some 28,.call 38 [.t 27,.c (.str [])],(some (26,false))⟩,qO 29 (.pick (.t 26) (.c (.bool true)) (.t 28))]) (.cond (.t 29) (.seq (.reg [qO 30 (.bld [.str [],.int .i64 0,.int .i64 0,.int .i64 0,.str [],.str [],.str [],.int .i64 0,.int .i64 0,.str [],.int .i64 0,.str []] []),⟨none,.st 12 (.t 2) (.t 30),none⟩,qO 3 (.mov (.c (.bool false)))]) .ret) .skip)) (.seq (.reg [qO 5 (.alc 78 [.int .i64 0,.int .i64 0,.int .i64 0,.int .i64 0,.int .i64 0])]) (.seq (.seq (.reg [qO 31 (.bsl 1 [.c (.int .i64 2),.c (.int .i64 3),.c (.int .i64 8),.c (.int .i64 9),.c (.int .i64 11)]),qO 32 (.len (.t 31)),qO 33 (.mov (.c (.int .i64 0)))]) (.block 0 (.loop qfz))) (.seq (.reg [qM 54 4,qO 55 (.ixa 1 (.t 54) (.c (.int .i64 7))),qO 56 (.ld 1 false (.t 55)),qO 57 (.call 69 [.t 56]),qM 53 57,qO 58 (.ext 0 (.t 53)),qO 59 (.ext 1 (.t 53)),qO 60 (.ext 2 (.t 53)),qM 10 58,qM 11 59,qM 12 60]) (.seq (.drg [qO 61 (.pcall 0 18 []),qM 62 4,qO 63 (.ixa 1 (.t 62) (.c (.int .i64 4))),qO 64 (.ld 1 false (.t 63)),qO 65 (.pcall 1 40 [.t 61,.t 64]),qO 66 (.bin .add (.t 65) (.c (.int .i64 1))),qM 13 66]) (.seq (.drg [⟨none,.hole 14,none⟩,qM 67 4,qO 68 (.ixa 1 (.t 67) (.c (.int .i64 1))),qO 69 (.ld 1 false (.t 68)),qO 70 (.fla 0 (.t 5)),qO 71 (.ld 1 false (.t 70)),qO 72 (.bld [.str [],.int .i64 0] [(0,1,.t 69),(1,1,.t 71)]),qO 73 (.fla 1 (.t 5)),qO 74 (.ld 1 false (.t 73)),qM 75 13,qM 76 4,qO 77 (.ixa 1 (.t 76) (.c (.int .i64 5))),qO 78 (.ld 1 false (.t 77)),qO 79 (.pcl 0 70 [.t 78]),qM 80 4,qO 81 (.ixa 1 (.t 80) (.c (.int .i64 6))),qO 82 (.ld 1 false (.t 81)),qO 83 (.pcl 1 70 [.t 82]),qM 84 10,qO 85 (.fla 2 (.t 5)),qO 86 (.ld 1 false (.t 85)),qO 87 (.fla 3 (.t 5)),qO 88 (.ld 1 false (.t 87)),qO 89 (.bld [.int .i64 0,.int .i64 0] [(0,1,.t 86),(1,1,.t 88)]),qM 90 4,qO 91 (.ixa 1 (.t 90) (.c (.int .i64 10))),qO 92 (.ld 1 false (.t 91)),qO 93 (.pcl 2 70 [.t 92]),qO 94 (.fla 4 (.t 5)),qO 95 (.ld 1 false (.t 94)),qO 96 (.bld [.str [],.int .i64 0] [(0,1,.t 93),(1,1,.t 95)]),qM 97 4,qO 98 (.ixa 1 (.t 97) (.c (.int .i64 12))),qO 99 (.ld 1 false (.t 98)),qO 100 (.bld [.str [],.int .i64 0,.int .i64 0,.int .i64 0,.str [],.str [],.str [],.int .i64 0,.int .i64 0,.str [],.int .i64 0,.str []] [(0,2,.t 72),(2,1,.t 74),(3,1,.t 75),(4,1,.t 79),(5,1,.t 83),(6,1,.t 84),(7,2,.t 89),(9,2,.t 96),(11,1,.t 99)]),qO 14 (.alcd 44 [.str [],.int .i64 0,.int .i64 0,.int .i64 0,.str [],.str [],.str [],.int .i64 0,.int .i64 0,.str [],.int .i64 0,.str []]),⟨none,.st 12 (.t 14) (.t 100),none⟩]) (.seq (.drg [qO 101 (.ld 12 true (.t 14)),qM 102 13,qO 103 (.bin .gtr (.t 102) (.c (.int .i64 0))),qM 104 103,⟨some 105,.mov (.t 12),(some (104,true))⟩,⟨some 106,.bin .eql (.t 105) (.c (.int .i64 0)),(some (104,true))⟩,qO 107 (.pick (.t 104) (.t 106) (.c (.bool false))),qM 108 107,⟨some 109,.mov (.t 11),(some (108,true))⟩,⟨some 110,.mov (.t 4),(some (108,true))⟩,⟨some 111,.ixa 1 (.t 110) (.c (.int .i64 7)),(some (108,true))⟩,⟨some 112,.ldn 2 1 false (.t 111),(some (108,true))⟩,⟨some 113,.sln (.t 112),(some (108,true))⟩,⟨some 114,.bin .eql (.t 109) (.t 113),(some (108,true))⟩,qO 115 (.pick (.t 108) (.t 114) (.c (.bool false))),⟨none,.stk 2 12 (.t 2) (.t 101),none⟩,qM 3 115]) .ret)))))))))
def qhw:List IRes:=[.c 2 12 true,.t 3]
theorem qk1:chkF Tryz.prog Tryz.f36 qhB qhw 116=true:=by kernel_rfl
theorem up90 {f:FuncId} {args:List PV} {φ:PV→Prop} (h:PCall Tryz.prog E0 f args φ):PCall Tryz.prog E9 f args φ:=up95 (up5 h)
theorem qbl {w:List (List UInt8)} {j:Nat} (h:j < w.length):(strE w).getD j []=[.str (w.getD j [])]:=by
 have hx:w[j]?=some w[j]:=zr h
 rw [qh4 hx,zG,hx]
 rfl
def zDd:Dd:=⟨[],0,0,0,[],[],[],0,0,[],0,[]⟩
set_option maxRecDepth 100000 in
set_option maxHeartbeats 2000000 in
theorem qwo (s:List UInt8) (hs:s.length≤200000):PCall Tryz.prog E9 36 [.str s] (fun x=>∃ d,x=.tup [.agg (ddC d),.bool (prsW (splF s 32)).isSome]∧∀ d',prsW (splF s 32)=some d'→d=d'):=by
 refine qaf mixed Tryz.func36 qk1 ?_
 simp only [a0,l0,OS.ao,zl,zt,zk,zp,zo,zq,zu,zd,zj,zm,qhB,qhw,ZZ,WW,Ze,reduceCtorEq,zd,ze,za,zf,zb]
 have hln:=qjP s 32
 have hmm:=qh6 s 32
 refine use1 (up90 (qj0 s 32 (by omega))) rfl (.inl rfl) ?_
 rw [qlL]
 have hwn:splF s 32≠[]:=by rw [qgv];exact qql 32 s
 generalize splF s 32=w at *
 have hw0:0 < w.length:=yf.2 hwn
 have e0:yn 0=0:=rfl
 simp only [ZZ,WW,Ze,reduceCtorEq,zd,ze,za,zf,zb,qau,e0,qbl hw0]
 refine ⟨fun h=>⟨h,by omega,by omega⟩,fun h=>⟨h,hw0⟩,?_⟩
 refine ⟨fun h=>by rw [h];rfl,?_⟩
 refine useG (fun _=>up90 (qjz w [] (by omega))) rfl (.inl rfl) ?_
 simp only [ZZ,WW,Ze,reduceCtorEq,zd,ze,za,zf,zb]
 refine ⟨fun h=>by rw [h];rfl,?_⟩
 refine br ?_ ?_
 ·intro h
  have hp:prsW w=none:=by
   unfold prsW
   rw [if_pos]
   rcases Bool.or_eq_true_iff.1 h with h|h
   ·rcases Bool.or_eq_true_iff.1 h with h|h
    ·exact .inl (by rw [zW,decide_eq_false_iff_not] at h;omega)
    ·exact .inr (.inl (by rw [zW,decide_eq_false_iff_not] at h;exact h))
   ·exact .inr (.inr (of_decide_eq_true h))
  rw [hp]
  simp only [ZZ,WW,Ze,reduceCtorEq,zd,ze,za,zf,zb]
  exact ⟨zDd,rfl,fun d' h=>by cases h⟩
 intro h
 rw [zZ,zZ,yp,decide_eq_true_eq,yp,decide_eq_true_eq,decide_eq_false_iff_not] at h
 have hw13:w.length=13:=by have:=h.1.1;omega
 have hpw:prsW w=prsN w:=by
  unfold prsW
  rw [if_neg (fun e=>e.elim (fun e=>e hw13) (fun e=>e.elim (fun e=>e h.1.2) h.2))]
 simp only [ZZ,WW,Ze,reduceCtorEq,zd,ze,za,zf,zb]
 refine qag (fun n fr L=>∃ (k:Nat) (cs:List PV),k≤5∧n=5 - k∧(cs.length=5)∧(∀ j,j < k→cs.getD j (int 0)=int (atV (w.getD (nplL.getD j 0) [])))∧(∀ j,j < k→nuF (w.getD (nplL.getD j 0) []))∧fr=[oo,oo,.adr (.l 2) 0,.p (.bool false),.p (.sl 1 (strE w)),.adr (.l 5) 0,oo,oo,oo,oo,oo,oo,oo,oo,oo,oo,oo,oo,oo,oo,oo,oo,oo,oo,oo,oo,oo,oo,oo,oo,oo,.p (.sl 1 [[int 2],[int 3],[int 8],[int 9],[int 11]]),.p (int 5),.p (int (k:Nat)),oo,oo,oo,oo,oo,oo,oo,oo,oo,oo,oo,oo,oo,oo,oo,oo,oo,oo,oo,oo,oo,oo,oo,oo,oo,oo,oo,oo,oo,oo,oo,oo,oo,oo,oo,oo,oo,oo,oo,oo,oo,oo,oo,oo,oo,oo,oo,oo,oo,oo,oo,oo,oo,oo,oo,oo,oo,oo,oo,oo,oo,oo,oo,oo,oo,oo,oo,oo,oo,oo,oo,oo,oo,oo,oo,oo,oo,oo,oo,oo,oo,oo]∧L=[(.l 2,.box [.p (.str []),.p (int 0),.p (int 0),.p (int 0),.p (.str []),.p (.str []),.p (.str []),.p (int 0),.p (int 0),.p (.str []),.p (int 0),.p (.str [])] tDd),(.l 5,.box (cs.map .p) 78)]) (5) _ _ (by (simp only [ZZ,WW,Ze,reduceCtorEq,zd,ze,za,zf,zb];try trivial)) (by (simp only [ZZ,WW,Ze,reduceCtorEq,zd,ze,za,zf,zb];try trivial)) ⟨0,[int 0,int 0,int 0,int 0,int 0],by omega,by omega,rfl,by intro j hj;omega,by intro j hj;omega,rfl,rfl⟩ ?_
 rintro n fr L ⟨k,cs,hk,rfl,hcl,hcs,hnu,rfl,rfl⟩
 simp only [qfz,ZZ,WW,Ze,reduceCtorEq,zd,ze,za,zf,zb]
 refine br ?_ ?_
 ·intro h1
  have hk5:k < 5:=by have:=of_decide_eq_true h1;omega
  obtain ⟨i,hi⟩:∃ i,nplL.getD k 0=i:=⟨_,rfl⟩
  have hi13:i < 13∧([[int 2],[int 3],[int 8],[int 9],[int 11]]:List (List PV)).getD k []=[int (i:Nat)]:=by
   rw [← hi]
   match k,hk5 with
   |0,_|1,_|2,_|3,_|4,_=>exact ⟨by decide,rfl⟩
  have hat:=qbl (w:=w) (j:=i) (by omega)
  have hxl:(w.getD i []).length≤200000:=by
   rw [zG,zr (show i < w.length by omega)]
   exact z8 (hmm _ (List.getElem_mem _)) hs
  have hin:i∈nplL:=by
   rw [← hi,zG,zr (show k < nplL.length from hk5)]
   exact List.getElem_mem _
  simp only [ZZ,WW,Ze,reduceCtorEq,zd,ze,za,zf,zb,hi13.2,qau,yi,hat]
  refine ⟨⟨by omega,by omega⟩,hk5,⟨by omega,by omega⟩,by omega,?_⟩
  have hN:=up95 (qqN (w.getD i []) 9 (by omega))
  by_cases hnf:nuF (w.getD i [])
  ·rw [if_pos (show badN (w.getD i []) 9=false∧(qaF (w.getD i []) [45]).1.all digB=true from hnf),((ql9 _).1 hnf).1] at hN
   refine use1 hN rfl (.inl rfl) ?_
   have hle:(k * 1+1≤(cs.map AV.p).length)=True:=by rw [zV,hcl];simp;omega
   have hset:(cs.map AV.p).set (k * 1) (.p (int (atV (w.getD i []))))=(cs.set k (int (atV (w.getD i [])))).map AV.p:=by rw [Nat.mul_one,List.map_set]
   simp only [ZZ,WW,Ze,reduceCtorEq,zd,ze,za,zf,zb,hle,if_true,hset]
   refine ⟨⟨by omega,by omega⟩,qaj (by omega) (by omega),?_⟩
   have hcs':∀ j,j < k+1→(cs.set k (int (atV (w.getD i [])))).getD j (int 0)=int (atV (w.getD (nplL.getD j 0) [])):=by
    intro j hj
    by_cases hkj:k=j
    ·subst hkj
     rw [zG,List.getElem?_set_self (by omega),hi]
     rfl
    ·rw [zG,List.getElem?_set_ne hkj,← zG]
     exact hcs j (by omega)
   have hnu':∀ j,j < k+1→nuF (w.getD (nplL.getD j 0) []):=by
    intro j hj
    by_cases hkj:k=j
    ·subst hkj
     rw [hi]
     exact hnf
    ·exact hnu j (by omega)
   refine qae (5 - (k+1)) _ _ (by omega) (by (simp only [ZZ,WW,Ze,reduceCtorEq,zd,ze,za,zf,zb];try trivial)) (by (simp only [ZZ,WW,Ze,reduceCtorEq,zd,ze,za,zf,zb];try trivial)) ⟨k+1,cs.set k (int (atV (w.getD i []))),by omega,rfl,by rw [List.length_set,hcl],hcs',hnu',rfl,rfl⟩
  ·rw [if_neg (show ¬ (badN (w.getD i []) 9=false∧(qaF (w.getD i []) [45]).1.all digB=true) from hnf)] at hN
   refine use1 hN rfl (.inl rfl) ?_
   have hp:prsW w=none:=by rw [hpw,qpC (fun e=>hnf (e i hin))]
   rw [hp]
   simp only [ZZ,WW,Ze,reduceCtorEq,zd,ze,za,zf,zb]
   exact ⟨zDd,rfl,fun d' h=>by cases h⟩
 ·intro h1
  have hk5:k=5:=by have:=of_decide_eq_false h1;omega
  subst hk5
  have hnu':∀ j∈nplL,nuF (w.getD j []):=by
   intro j hj
   simp only [nplL,zI,zU,or_false] at hj
   rcases hj with rfl|rfl|rfl|rfl|rfl
   ·exact hnu 0 (by omega)
   ·exact hnu 1 (by omega)
   ·exact hnu 2 (by omega)
   ·exact hnu 3 (by omega)
   ·exact hnu 4 (by omega)
  have e7:yn 7=7:=rfl
  have e4:yn 4=4:=rfl
  have e1:yn 1=1:=rfl
  have e5:yn 5=5:=rfl
  have e6:yn 6=6:=rfl
  have e10:yn 10=10:=rfl
  have e12:yn 12=12:=rfl
  have hx7:(w.getD 7 []).length≤200000:=by
   rw [zG,zr (show 7 < w.length by omega)]
   exact z8 (hmm _ (List.getElem_mem _)) hs
  simp only [ZZ,WW,Ze,reduceCtorEq,zd,ze,za,zf,zb,e7,qbl (w:=w) (j:=7) (by omega),qau]
  refine ⟨⟨by omega,by omega⟩,by omega,?_⟩
  obtain ⟨V,N,e,hU,hP⟩:∃ (V:List UInt8) (N e:Int),unqL (w.getD 7 []) (unqF (w.getD 7 []))=.tup [.str V,int N,int e]∧prsN w=if (decide (0 < idxS kndW (w.getD 4 []) 0+1) && decide (e=0)) && decide (N=((w.getD 7 []).length:Nat)) then some (mkD w V) else none:=by
   cases hu:unqF (w.getD 7 []) with
   |none=>exact ⟨[],0,9,rfl,by rw [qpB hnu' hu,if_neg (by simp)]⟩
   |some p=>
    obtain ⟨v,r⟩:=p
    have hl:=qlI hu
    refine ⟨v,_,0,rfl,?_⟩
    rw [qnj hnu' hu]
    by_cases h5:r≠[]∨idxS kndW (w.getD 4 []) 0 < 0
    ·rw [if_pos h5,if_neg]
     simp only [zh,decide_eq_true_eq]
     rintro ⟨⟨h6,_⟩,h7⟩
     rcases h5 with h5|h5
     ·have:=yf.2 h5
      omega
     ·omega
    ·rw [if_neg h5,if_pos]
     simp only [not_or,Classical.not_not] at h5
     simp only [zh,decide_eq_true_eq]
     refine ⟨⟨by omega,trivial⟩,?_⟩
     rw [h5.1]
     simp
  have hQ:=up95 (qqK (w.getD 7 []) (by omega))
  rw [hU] at hQ
  refine use1 hQ rfl (.inl rfl) ?_
  simp only [ZZ,WW,Ze,reduceCtorEq,zd,ze,za,zf,zb]
  refine drg2 (x1:=.sl 1 (strE kndW)) (x2:=int (idxS kndW (w.getD 4 []) 0)) ?_
  simp only [ZZ,WW,Ze,reduceCtorEq,zd,ze,za,zf,zb,e4,qbl (w:=w) (j:=4) (by omega),qau]
  have hkb:=qjT kndW (w.getD 4 []) 6 0 (by decide)
  have hk6:kndW.length=6:=rfl
  refine ⟨usep qpK rfl (.inl rfl),⟨by omega,by omega⟩,by omega,usep (up90 (qkM kndW (w.getD 4 []) (by omega))) rfl (.inl rfl),qaj (by omega) (by omega),?_⟩
  obtain ⟨c0,c1,c2,c3,c4,rfl⟩:∃ c0 c1 c2 c3 c4,cs=[c0,c1,c2,c3,c4]:=by
   match cs,hcl with
   |[c0,c1,c2,c3,c4],_=>exact ⟨c0,c1,c2,c3,c4,rfl⟩
  have n0:c0=int (atV (w.getD 2 [])):=hcs 0 (by omega)
  have n1:c1=int (atV (w.getD 3 [])):=hcs 1 (by omega)
  have n2:c2=int (atV (w.getD 8 [])):=hcs 2 (by omega)
  have n3:c3=int (atV (w.getD 9 [])):=hcs 3 (by omega)
  have n4:c4=int (atV (w.getD 11 [])):=hcs 4 (by omega)
  subst n0 n1 n2 n3 n4
  refine drg3 (x1:=.str (nonF (w.getD 5 []))) (x2:=.str (nonF (w.getD 6 []))) (x3:=.str (nonF (w.getD 10 []))) ?_
  simp only [ZZ,WW,Ze,reduceCtorEq,zd,ze,za,zf,zb,e1,e5,e6,e10,e12,qbl (w:=w) (j:=1) (by omega),qbl (w:=w) (j:=5) (by omega),qbl (w:=w) (j:=6) (by omega),qbl (w:=w) (j:=10) (by omega),qbl (w:=w) (j:=12) (by omega),qau]
  refine ⟨⟨by omega,by omega⟩,by omega,⟨by omega,by omega⟩,by omega,fun L'=>usep (qoD _) rfl (.inl rfl),⟨by omega,by omega⟩,by omega,fun L'=>usep (qoD _) rfl (.inl rfl),⟨by omega,by omega⟩,by omega,fun L'=>usep (qoD _) rfl (.inl rfl),⟨by omega,by omega⟩,by omega,?_⟩
  refine drg0 ?_
  simp only [ZZ,WW,Ze,reduceCtorEq,zd,ze,za,zf,zb,e7,qbl (w:=w) (j:=7) (by omega),qau]
  refine ⟨fun h=>⟨h,by omega,by omega⟩,fun h=>⟨h,by omega⟩,mkD w V,?_,?_⟩
  ·have hb:(prsW w).isSome=((decide (0 < idxS kndW (w.getD 4 []) 0+1) && decide (e=0)) && decide (N=((w.getD 7 []).length:Nat))):=by
    rw [hpw,hP]
    split
    ·rename_i h6
     rw [h6]
     rfl
    ·rename_i h6
     rw [Bool.not_eq_true] at h6
     rw [h6]
     rfl
   rw [hb]
   rfl
  ·intro d' hd'
   rw [hpw,hP] at hd'
   split at hd'
   ·cases hd'
    rfl
   ·cases hd'
def qcY:IC:=(.seq (.reg [qO 24 (.bin .lss (.t 23) (.t 22))]) (.seq (.cond (.t 24) .skip (.exit 0)) (.seq (.block 1 (.seq (.reg [qM 25 23,qO 26 (.ixa 1 (.t 21) (.t 23)),qO 27 (.ld 1 false (.t 26)),qM 8 25,qM 9 27]) (.seq (.reg [qM 29 9,qO 30 (.call 36 [.t 29]),qM 28 30,qO 31 (.ext 0 (.t 28)),qO 32 (.ext 1 (.t 28)),qO 10 (.alc 44 [.str [],.int .i64 0,.int .i64 0,.int .i64 0,.str [],.str [],.str [],.int .i64 0,.int .i64 0,.str [],.int .i64 0,.str []]),⟨none,.st 12 (.t 10) (.t 31),none⟩,qM 11 32]) (.seq (.seq (.reg [qM 33 11,qO 34 (.not (.t 33)),qM 35 34,⟨some 36,.mov (.t 6),(some (35,false))⟩,⟨some 37,.not (.t 36),(some (35,false))⟩,⟨some 38,.mov (.t 37),(some (35,false))⟩,⟨some 39,.mov (.t 8),(some (38,true))⟩,⟨some 40,.mov (.t 5),(some (38,true))⟩,⟨some 41,.len (.t 40),(some (38,true))⟩,⟨some 42,.bin .sub (.t 41) (.c (.int .i64 1)),(some (38,true))⟩,⟨some 43,.bin .eql (.t 39) (.t 42),(some (38,true))⟩,⟨some 44,.pick (.t 38) (.t 43) (.c (.bool false)),(some (35,false))⟩,qO 45 (.pick (.t 35) (.c (.bool true)) (.t 44))]) (.cond (.t 45) (.seq (.reg [qM 46 8,qO 2 (.mov (.c (.nl 12))),qM 3 46,qO 4 (.mov (.c (.int .i64 9)))]) .ret) .skip)) (.reg [qM 47 7,qO 48 (.ld 12 true (.t 10)),qO 49 (.bsl 12 [.t 48]),qO 50 (.app 44 12 144 (.t 47) (.t 49)),qM 7 50]))))) (.reg [qO 51 (.bin .add (.t 23) (.c (.int .i64 1))),qM 23 51]))))
def qek:IC:=(.seq (.reg [qO 2 (.mov (.c (.nl 12))),qO 3 (.mov (.c (.int .i64 0))),qO 4 (.mov (.c (.int .i64 0)))]) (.seq (.seq (.reg [qM 13 0,qO 14 (.sln (.t 13)),qO 15 (.bin .gtr (.t 14) (.c (.int .i64 200000)))]) (.cond (.t 15) (.seq (.reg [qO 2 (.mov (.c (.nl 12))),qO 3 (.mov (.c (.int .i64 0))),qO 4 (.mov (.c (.int .i64 2)))]) .ret) .skip)) (.seq (.reg [qM 17 0,qO 18 (.call 35 [.t 17]),qM 16 18,qO 19 (.ext 0 (.t 16)),qO 20 (.ext 1 (.t 16)),qM 5 19,qM 6 20]) (.seq (.reg [qO 7 (.nilr 44 12)]) (.seq (.seq (.reg [qM 21 5,qO 22 (.len (.t 21)),qO 23 (.mov (.c (.int .i64 0)))]) (.block 0 (.loop qcY))) (.seq (.seq (.reg [qM 52 7,qO 53 (.call 16 [.t 52]),qM 12 53]) (.seq (.reg [qM 54 12,qO 55 (.bin .neq (.t 54) (.c (.int .i64 0)))]) (.cond (.t 55) (.seq (.reg [qM 56 12,qO 2 (.mov (.c (.nl 12))),qO 3 (.mov (.c (.int .i64 0))),qM 4 56]) .ret) .skip))) (.seq (.reg [qM 57 7,qM 2 57,qO 3 (.mov (.c (.int .i64 0))),qO 4 (.mov (.c (.int .i64 0)))]) .ret)))))))
def qd8:List IRes:=[.t 2,.t 3,.t 4]
theorem qhq:chkF Tryz.prog Tryz.f9 qek qd8 58=true:=by kernel_rfl
def parR (o:List Dd×Int×Int):PV:=.tup [.sl 12 (ddE o.1),int o.2.1,int o.2.2]
set_option maxRecDepth 100000 in
set_option maxHeartbeats 2000000 in
theorem qmM (s:List UInt8) (hs:s.length≤100000000000):PCall Tryz.prog E9 9 [.str s] (·=parR (parF s)):=by
 refine qaf mixed Tryz.func9 qhq ?_
 simp only [a0,l0,OS.ao,zl,zt,zk,zp,zo,zq,zu,zd,zj,zm,qek,qd8,ZZ,WW,Ze,reduceCtorEq,zd,ze,za,zf,zb]
 unfold parF
 ((repeat' (with_reducible apply And.intro))<;>try ((exact sc_)))
 refine br ?_ ?_
 ·intro h
  have h:200000 < s.length:=by have:=of_decide_eq_true h;omega
  rw [if_pos h]
  simp only [ZZ,WW,Ze,reduceCtorEq,zd,ze,za,zf,zb]
  rfl
 intro h
 have h:s.length≤200000:=by have:=of_decide_eq_false h;omega
 rw [if_neg (by omega)]
 simp only [ZZ,WW,Ze,reduceCtorEq,zd,ze,za,zf,zb]
 refine use1 (up90 (qsz s (by omega))) rfl (.inl rfl) ?_
 obtain ⟨hf1,hf2⟩:=qrC s
 rw [qlL]
 generalize (linF s).1=W at *
 generalize (linF s).2=b at *
 obtain ⟨R,hR⟩:∃ R,goF (splF s 10).dropLast 0 []=R:=⟨_,rfl⟩
 rw [hR]
 have hsl:=qjP s 10
 have hsm:=qh6 s 10
 have hS0:0 < (splF s 10).length:=yf.2 (by rw [qgv];exact qql 10 s)
 generalize splF s 10=S at *
 have hWl:W.length≤S.length:=by
  cases b
  ·rw [(hf2 rfl).1];omega
  ·rw [(hf1 rfl).1];simp
 simp only [ZZ,WW,Ze,reduceCtorEq,zd,ze,za,zf,zb,qau]
 refine qag (fun n fr L=>∃ (k:Nat) (q:List Dd),k≤W.length∧n=W.length - k∧(goF (S.dropLast.drop k) k q=R)∧(b=false→k < W.length)∧(DdsB q)∧(q.length≤k)∧fr=[oo,oo,oo,oo,oo,.p (.sl 1 (strE W)),.p (.bool b),.row (.l 7),oo,oo,oo,oo,oo,oo,oo,oo,oo,oo,oo,oo,oo,.p (.sl 1 (strE W)),.p (int (W.length:Nat)),.p (int (k:Nat)),oo,oo,oo,oo,oo,oo,oo,oo,oo,oo,oo,oo,oo,oo,oo,oo,oo,oo,oo,oo,oo,oo,oo,oo,oo,oo,oo,oo,oo,oo,oo,oo,oo,oo]∧L=[(.l 7,.row (ddE q) tDd 12 true)]) (W.length) _ _ (by simp only [qau,ZZ,WW,Ze,reduceCtorEq,zd,ze,za,zf,zb];try trivial) (by (simp only [ZZ,WW,Ze,reduceCtorEq,zd,ze,za,zf,zb];try trivial)) ⟨0,[],by omega,by omega,hR,fun hb=>by rw [(hf2 hb).1];exact hS0,DdsB.nil,by simp,rfl,rfl⟩ ?_
 rintro n fr L ⟨k,q,hk,rfl,hg,hbk,hqB,hql,rfl,rfl⟩
 simp only [qcY,ZZ,WW,Ze,reduceCtorEq,zd,ze,za,zf,zb]
 refine br ?_ ?_
 ·intro h1
  have hlt:k < W.length:=by have:=of_decide_eq_true h1;omega
  obtain ⟨x,hx⟩:∃ x,W[k]?=some x:=⟨_,zr hlt⟩
  have hgx:(strE W).getD k []=[.str x]:=qh4 hx
  have hxl:x.length≤200000:=by
   have hm:x∈S:=by
    have:=zD hx
    cases b
    ·rwa [(hf2 rfl).1] at this
    ·rw [(hf1 rfl).1] at this
     exact (List.dropLast_sublist S).subset this
   exact z8 (hsm x hm) h
  have hxw:∀ y∈splF x 32,y.length≤200000:=fun y hy=>z8 (qh6 x 32 y hy) hxl
  have hlast:b=false∧k+1=W.length→R=.ok q∧k+1=S.length:=by
   rintro ⟨hb,hk1⟩
   have hWS:=(hf2 hb).1
   rw [hWS] at hk1
   rw [yz (by simp;omega)] at hg
   exact ⟨hg.symm,hk1⟩
  have hnext:¬ (b=false∧k+1=W.length)→goF (S.dropLast.drop k) k q=match prsW (splF x 32) with|none=>.error k|some d=>goF (S.dropLast.drop (k+1)) (k+1) (q++[d]):=by
   intro hn
   have hxd:S.dropLast[k]?=some x:=by
    cases b
    ·have hWS:=(hf2 rfl).1
     have hk1:k+1 < S.length:=by rw [← hWS];rcases Nat.lt_or_ge (k+1) W.length with h6|h6;exact h6;exact absurd ⟨rfl,by omega⟩ hn
     rw [List.getElem?_dropLast,if_pos (by omega),← hWS,hx]
    ·rw [← (hf1 rfl).1,hx]
   obtain ⟨hlk,he⟩:=zw.1 hxd
   rw [List.drop_eq_getElem_cons hlk,he]
   rfl
  simp only [ZZ,WW,Ze,reduceCtorEq,zd,ze,za,zf,zb,hgx,qau]
  refine ⟨⟨by omega,by omega⟩,hlt,?_⟩
  refine use (qwo x hxl) rfl (.inl rfl) ?_
  rintro y ⟨d,rfl,hd⟩
  have hfin:b=false∧k+1=W.length→PV.tup [.sl 12 [],int (k:Nat),int 9]=parR (parE S R):=by
   intro hb
   obtain ⟨h6,h7⟩:=hlast hb
   rw [h6,qkj (hf2 hb.1).2,← h7]
   simp [parR,ddE]
  cases hp:prsW (splF x 32) with
  |none=>
   rw [hp] at hnext
   simp only [ZZ,WW,Ze,reduceCtorEq,zd,ze,za,zf,zb,ddC,qau,Option.isSome_none,Bool.not_false,Bool.not_true,Bool.false_and,Bool.true_or]
   refine ⟨False.elim,False.elim,?_⟩
   by_cases hl:b=false∧k+1=W.length
   ·exact hfin hl
   ·rw [← hg,hnext hl]
    rfl
  |some d'=>
   obtain rfl:=hd d' hp
   rw [hp] at hnext
   simp only [ZZ,WW,Ze,reduceCtorEq,zd,ze,za,zf,zb,ddC,qau,Option.isSome_some,Bool.not_false,Bool.not_true,Bool.true_and,Bool.false_or]
   refine ⟨fun h=>⟨h,qaj (by omega) (by omega)⟩,?_⟩
   have dB:DdB d:=qum hp hxw
   refine br ?_ ?_
   ·intro h2
    rw [zh,zW,decide_eq_true_eq] at h2
    simp only [ZZ,WW,Ze,reduceCtorEq,zd,ze,za,zf,zb]
    exact hfin ⟨h2.1,by omega⟩
   intro h2
   have hl:¬ (b=false∧k+1=W.length):=by
    rintro ⟨hb,hk1⟩
    rw [Bool.and_eq_false_iff,yp,decide_eq_false_iff_not] at h2
    rcases h2 with h2|h2
    ·rw [hb] at h2;cases h2
    ·omega
   have hn:=hnext hl
   rw [hg] at hn
   have hn:R=goF (S.dropLast.drop (k+1)) (k+1) (q++[d]):=hn
   have happ:ddE q++[[.str d.site,int d.no,int d.tm,int d.kind,.str d.id,.str d.field,.str d.value,int d.frm,int d.upto,.str d.osite,int d.ono,.str d.sum]]=ddE (q++[d]):=by simp [ddE,ddC]
   have hbk':b=false→k+1 < W.length:=fun hb=>by
    rcases Nat.lt_or_ge (k+1) W.length with h6|h6
    ·exact h6
    ·exact absurd ⟨hb,by omega⟩ hl
   simp only [ZZ,WW,Ze,reduceCtorEq,zd,ze,za,zf,zb,happ]
   refine ⟨by rw [qac];omega,qaj (by omega) (by omega),?_⟩
   refine qae (W.length - (k+1)) _ _ (by omega) (by (simp only [ZZ,WW,Ze,reduceCtorEq,zd,ze,za,zf,zb];try trivial)) (by (simp only [ZZ,WW,Ze,reduceCtorEq,zd,ze,za,zf,zb];try trivial)) ⟨k+1,q++[d],by omega,rfl,hn.symm,hbk',hqB.app (fun y hy=>by rw [zL] at hy;rw [hy];exact dB),by rw [zx];simp only [zk,zp];omega,rfl,rfl⟩
 ·intro h1
  have hge:k=W.length:=by have:=of_decide_eq_false h1;omega
  have hb:b=true:=by
   cases b
   ·have:=hbk rfl;omega
   ·rfl
  obtain ⟨hW,hS⟩:=hf1 hb
  rw [hge,hW,yz (Nat.le_refl _)] at hg
  have hg:Except.ok q=R:=hg
  rw [← hg,qow hS]
  simp only [ZZ,WW,Ze,reduceCtorEq,zd,ze,za,zf,zb]
  refine use1 (up9D (qgJ q hqB (by omega))) rfl (.inr rfl) ?_
  simp only [ZZ,WW,Ze,reduceCtorEq,zd,ze,za,zf,zb]
  refine br ?_ ?_
  ·intro h2
   have h2:¬ (ckdF q).2=0:=by simpa using h2
   rw [if_pos h2]
   simp only [ZZ,WW,Ze,reduceCtorEq,zd,ze,za,zf,zb]
   rfl
  ·intro h2
   have h2:(ckdF q).2=0:=by simpa using h2
   rw [if_neg (fun e=>e h2)]
   simp only [ZZ,WW,Ze,reduceCtorEq,zd,ze,za,zf,zb]
   rfl
def qco:IC:=(.seq (.reg [qO 58 (.bin .lss (.t 57) (.t 56))]) (.seq (.cond (.t 58) .skip (.exit 2)) (.seq (.block 3 (.seq (.reg [qM 59 57,qO 60 (.ixa 1 (.t 55) (.t 57)),qO 61 (.ld 1 false (.t 60)),qM 12 59,qM 13 61]) (.seq (.reg [qM 63 9,qM 64 13,qO 65 (.ixa 1 (.t 63) (.t 64)),qO 66 (.ld 1 false (.t 65)),qO 67 (.call 39 [.t 66,.c (.int .i64 9)]),qM 62 67,qO 68 (.ext 0 (.t 62)),qO 69 (.ext 1 (.t 62)),qM 14 68,qM 15 69]) (.reg [qM 70 12,qM 71 14,qM 72 11,qM 73 72,⟨some 74,.mov (.t 15),(some (73,true))⟩,qO 75 (.pick (.t 73) (.t 74) (.c (.bool false))),qO 76 (.ixv 1 5 (.t 10) (.t 70)),⟨none,.st 1 (.t 76) (.t 71),none⟩,qM 11 75])))) (.reg [qO 77 (.bin .add (.t 57) (.c (.int .i64 1))),qM 57 77]))))
def qcp:IC:=(.seq (.reg [qO 35 (.bin .lss (.t 34) (.t 33))]) (.seq (.cond (.t 35) .skip (.exit 0)) (.seq (.block 1 (.seq (.reg [qM 36 34,qO 37 (.ixa 1 (.t 32) (.t 34)),qO 38 (.ld 1 false (.t 37)),qM 7 36,qM 8 38]) (.seq (.reg [qM 39 8,qO 40 (.call 37 [.t 39,.c (.str [32])]),qM 9 40]) (.seq (.seq (.reg [qM 41 9,qO 42 (.len (.t 41)),qO 43 (.bin .neq (.t 42) (.c (.int .i64 13))),qM 44 43,⟨some 45,.mov (.t 9),(some (44,false))⟩,⟨some 46,.ixa 1 (.t 45) (.c (.int .i64 0)),(some (44,false))⟩,⟨some 47,.ld 1 false (.t 46),(some (44,false))⟩,⟨some 48,.bin .neq (.t 47) (.c (.str [100,101,101,100])),(some (44,false))⟩,qO 49 (.pick (.t 44) (.c (.bool true)) (.t 48)),qM 50 49,⟨some 51,.mov (.t 9),(some (50,false))⟩,⟨some 52,.call 38 [.t 51,.c (.str [])],(some (50,false))⟩,qO 53 (.pick (.t 50) (.c (.bool true)) (.t 52))]) (.cond (.t 53) (.seq (.reg [qM 54 7,qO 2 (.mov (.c (.nl 12))),qM 3 54,qO 4 (.mov (.c (.int .i64 9)))]) .ret) .skip)) (.seq (.reg [qO 10 (.alc 78 [.int .i64 0,.int .i64 0,.int .i64 0,.int .i64 0,.int .i64 0])]) (.seq (.reg [qO 11 (.mov (.c (.bool true)))]) (.seq (.seq (.reg [qO 55 (.bsl 1 [.c (.int .i64 2),.c (.int .i64 3),.c (.int .i64 8),.c (.int .i64 9),.c (.int .i64 11)]),qO 56 (.len (.t 55)),qO 57 (.mov (.c (.int .i64 0)))]) (.block 2 (.loop qco))) (.seq (.drg [qO 78 (.pcall 0 30 []),qM 79 9,qO 80 (.ixa 1 (.t 79) (.c (.int .i64 4))),qO 81 (.ld 1 false (.t 80)),qO 82 (.pcall 1 40 [.t 78,.t 81]),qM 16 82]) (.seq (.reg [qM 84 9,qO 85 (.ixa 1 (.t 84) (.c (.int .i64 7))),qO 86 (.ld 1 false (.t 85)),qO 87 (.call 41 [.t 86]),qM 83 87,qO 88 (.ext 0 (.t 83)),qO 89 (.ext 1 (.t 83)),qO 90 (.ext 2 (.t 83)),qM 17 88,qM 18 89,qM 19 90]) (.seq (.seq (.reg [qM 91 11,qO 92 (.not (.t 91)),qM 93 92,⟨some 94,.mov (.t 16),(some (93,false))⟩,⟨some 95,.bin .lss (.t 94) (.c (.int .i64 1)),(some (93,false))⟩,qO 96 (.pick (.t 93) (.c (.bool true)) (.t 95)),qM 97 96,⟨some 98,.mov (.t 19),(some (97,false))⟩,⟨some 99,.not (.t 98),(some (97,false))⟩,qO 100 (.pick (.t 97) (.c (.bool true)) (.t 99)),qM 101 100,⟨some 102,.mov (.t 18),(some (101,false))⟩,⟨some 103,.mov (.t 9),(some (101,false))⟩,⟨some 104,.ixa 1 (.t 103) (.c (.int .i64 7)),(some (101,false))⟩,⟨some 105,.ld 1 false (.t 104),(some (101,false))⟩,⟨some 106,.sln (.t 105),(some (101,false))⟩,⟨some 107,.bin .neq (.t 102) (.t 106),(some (101,false))⟩,qO 108 (.pick (.t 101) (.c (.bool true)) (.t 107))]) (.cond (.t 108) (.seq (.reg [qM 109 7,qO 2 (.mov (.c (.nl 12))),qM 3 109,qO 4 (.mov (.c (.int .i64 9)))]) .ret) .skip)) (.seq (.reg [qO 20 (.mov (.f 42))]) (.drg [qM 110 6,qM 111 9,qO 112 (.ixa 1 (.t 111) (.c (.int .i64 1))),qO 113 (.ld 1 false (.t 112)),qO 114 (.fla 0 (.t 10)),qO 115 (.ld 1 false (.t 114)),qO 116 (.bld [.str [],.int .i64 0] [(0,1,.t 113),(1,1,.t 115)]),qO 117 (.fla 1 (.t 10)),qO 118 (.ld 1 false (.t 117)),qM 119 16,qM 120 20,qM 121 9,qO 122 (.ixa 1 (.t 121) (.c (.int .i64 5))),qO 123 (.ld 1 false (.t 122)),qO 124 (.pcv 0 (.t 120) [.t 123]),qM 125 20,qM 126 9,qO 127 (.ixa 1 (.t 126) (.c (.int .i64 6))),qO 128 (.ld 1 false (.t 127)),qO 129 (.pcv 1 (.t 125) [.t 128]),qM 130 17,qO 131 (.fla 2 (.t 10)),qO 132 (.ld 1 false (.t 131)),qO 133 (.fla 3 (.t 10)),qO 134 (.ld 1 false (.t 133)),qO 135 (.bld [.int .i64 0,.int .i64 0] [(0,1,.t 132),(1,1,.t 134)]),qM 136 20,qM 137 9,qO 138 (.ixa 1 (.t 137) (.c (.int .i64 10))),qO 139 (.ld 1 false (.t 138)),qO 140 (.pcv 2 (.t 136) [.t 139]),qO 141 (.fla 4 (.t 10)),qO 142 (.ld 1 false (.t 141)),qO 143 (.bld [.str [],.int .i64 0] [(0,1,.t 140),(1,1,.t 142)]),qM 144 9,qO 145 (.ixa 1 (.t 144) (.c (.int .i64 12))),qO 146 (.ld 1 false (.t 145)),qO 147 (.bld [.str [],.int .i64 0,.int .i64 0,.int .i64 0,.str [],.str [],.str [],.int .i64 0,.int .i64 0,.str [],.int .i64 0,.str []] [(0,2,.t 116),(2,1,.t 118),(3,1,.t 119),(4,1,.t 124),(5,1,.t 129),(6,1,.t 130),(7,2,.t 135),(9,2,.t 143),(11,1,.t 146)]),qO 148 (.bsl 12 [.t 147]),qO 149 (.app 44 12 144 (.t 110) (.t 148)),qM 6 149])))))))))))) (.reg [qO 150 (.bin .add (.t 34) (.c (.int .i64 1))),qM 34 150]))))
def qdy:IC:=(.seq (.reg [qO 2 (.mov (.c (.nl 12))),qO 3 (.mov (.c (.int .i64 0))),qO 4 (.mov (.c (.int .i64 0)))]) (.seq (.seq (.reg [qM 23 0,qO 24 (.sln (.t 23)),qO 25 (.bin .gtr (.t 24) (.c (.int .i64 200000)))]) (.cond (.t 25) (.seq (.reg [qO 2 (.mov (.c (.nl 12))),qO 3 (.mov (.c (.int .i64 0))),qO 4 (.mov (.c (.int .i64 2)))]) .ret) .skip)) (.seq (.reg [qM 26 0,qO 27 (.call 37 [.t 26,.c (.str [10])]),qM 5 27]) (.seq (.reg [qO 6 (.nilr 44 12)]) (.seq (.seq (.reg [qM 28 5,qM 29 5,qO 30 (.len (.t 29)),qO 31 (.bin .sub (.t 30) (.c (.int .i64 1))),qO 32 (.vsl 1 (.t 28) none (some (.t 31))),qO 33 (.len (.t 32)),qO 34 (.mov (.c (.int .i64 0)))]) (.block 0 (.loop qcp))) (.seq (.seq (.reg [qM 151 5,qM 152 5,qO 153 (.len (.t 152)),qO 154 (.bin .sub (.t 153) (.c (.int .i64 1))),qO 155 (.ixa 1 (.t 151) (.t 154)),qO 156 (.ld 1 false (.t 155)),qO 157 (.bin .neq (.t 156) (.c (.str [])))]) (.cond (.t 157) (.seq (.reg [qM 158 5,qO 159 (.len (.t 158)),qO 160 (.bin .sub (.t 159) (.c (.int .i64 1))),qO 2 (.mov (.c (.nl 12))),qM 3 160,qO 4 (.mov (.c (.int .i64 9)))]) .ret) .skip)) (.seq (.seq (.reg [qM 162 6,qO 163 (.call 6 [.t 162]),qM 161 163,qO 164 (.ext 0 (.t 161)),qO 165 (.ext 1 (.t 161)),qM 21 164,qM 22 165]) (.seq (.reg [qM 166 22,qO 167 (.bin .neq (.t 166) (.c (.int .i64 0)))]) (.cond (.t 167) (.seq (.reg [qM 168 22,qO 2 (.mov (.c (.nl 12))),qO 3 (.mov (.c (.int .i64 0))),qM 4 168]) .ret) .skip))) (.seq (.reg [qM 169 6,qM 2 169,qO 3 (.mov (.c (.int .i64 0))),qO 4 (.mov (.c (.int .i64 0)))]) .ret))))))))
def qdr:List IRes:=[.t 2,.t 3,.t 4]
theorem qgt:chkF Tryz.prog Tryz.f10 qdy qdr 170=true:=by kernel_rfl
theorem qnx (y:List UInt8) (l:List (List UInt8)) (x:List UInt8):∀ n k:Nat,l.length - k≤n→idxS (y :: l) x (k+1)=if idxS l x k < 0 then -1 else idxS l x k+1
 |0,k,h=>by
  rw [idxS,dif_neg (by simp only [zk];omega),idxS,dif_neg (by omega)]
  rfl
 |n+1,k,h=>by
  rw [idxS.eq_def (y :: l) x (k+1),idxS.eq_def l x k]
  by_cases hk:k < l.length
  ·rw [dif_pos (by simp only [zk];omega),dif_pos hk,List.getElem_cons_succ]
   split
   ·rw [if_neg (by omega)]
    omega
   ·exact qnx y l x n (k+1) (by omega)
  ·rw [dif_neg (by simp only [zk];omega),dif_neg hk]
   rfl
theorem qvS {x:List UInt8} (h:x≠[]):idxS ([] :: kndW) x 0=if idxS kndW x 0 < 0 then -1 else idxS kndW x 0+1:=by
 rw [idxS,dif_pos (by simp),if_neg (by simpa using h)]
 exact qnx [] kndW x 6 0 (by decide)
theorem quN (S:List (List UInt8)):(strE S).take (S.length - 1)=strE S.dropLast:=by
 rw [strE,strE,List.dropLast_eq_take,List.map_take]
set_option maxRecDepth 100000 in
set_option maxHeartbeats 2000000 in
theorem qoa (s:List UInt8) (hs:s.length≤100000000000):PCall Tryz.prog E9 10 [.str s] (·=parR (parF s)):=by
 refine qaf mixed Tryz.func10 qgt ?_
 simp only [a0,l0,OS.ao,zl,zt,zk,zp,zo,zq,zu,zd,zj,zm,qdy,qdr,ZZ,WW,Ze,reduceCtorEq,zd,ze,za,zf,zb]
 unfold parF
 ((repeat' (with_reducible apply And.intro))<;>try ((exact sc_)))
 refine br ?_ ?_
 ·intro h
  have h:200000 < s.length:=by have:=of_decide_eq_true h;omega
  rw [if_pos h]
  simp only [ZZ,WW,Ze,reduceCtorEq,zd,ze,za,zf,zb]
  rfl
 intro h
 have h:s.length≤200000:=by have:=of_decide_eq_false h;omega
 rw [if_neg (by omega)]
 simp only [ZZ,WW,Ze,reduceCtorEq,zd,ze,za,zf,zb]
 refine use1 (up90 (qj0 s 10 (by omega))) rfl (.inl rfl) ?_
 rw [qlL]
 obtain ⟨R,hR⟩:∃ R,goF (splF s 10).dropLast 0 []=R:=⟨_,rfl⟩
 rw [hR]
 have hsl:=qjP s 10
 have hsm:=qh6 s 10
 have hS0:0 < (splF s 10).length:=yf.2 (by rw [qgv];exact qql 10 s)
 generalize splF s 10=S at *
 have e1:(((S.length:Nat):Int) - 1).toNat=S.length - 1:=by omega
 have hdl:S.dropLast.length=S.length - 1:=List.length_dropLast ..
 simp only [ZZ,WW,Ze,reduceCtorEq,zd,ze,za,zf,zb,qau,e1,quN]
 refine ⟨qaj (by omega) (by omega),⟨by omega,by omega⟩,?_⟩
 refine qag (fun n fr L=>∃ (k:Nat) (q:List Dd),k≤S.dropLast.length∧n=S.dropLast.length - k∧(goF (S.dropLast.drop k) k q=R)∧(DdsB q)∧(q.length≤k)∧fr=[oo,oo,oo,oo,oo,.p (.sl 1 (strE S)),.row (.l 6),oo,oo,oo,oo,oo,oo,oo,oo,oo,oo,oo,oo,oo,oo,oo,oo,oo,oo,oo,oo,oo,oo,oo,oo,oo,.p (.sl 1 (strE S.dropLast)),.p (int (S.dropLast.length:Nat)),.p (int (k:Nat)),oo,oo,oo,oo,oo,oo,oo,oo,oo,oo,oo,oo,oo,oo,oo,oo,oo,oo,oo,oo,oo,oo,oo,oo,oo,oo,oo,oo,oo,oo,oo,oo,oo,oo,oo,oo,oo,oo,oo,oo,oo,oo,oo,oo,oo,oo,oo,oo,oo,oo,oo,oo,oo,oo,oo,oo,oo,oo,oo,oo,oo,oo,oo,oo,oo,oo,oo,oo,oo,oo,oo,oo,oo,oo,oo,oo,oo,oo,oo,oo,oo,oo,oo,oo,oo,oo,oo,oo,oo,oo,oo,oo,oo,oo,oo,oo,oo,oo,oo,oo,oo,oo,oo,oo,oo,oo,oo,oo,oo,oo,oo,oo,oo,oo,oo,oo,oo,oo,oo,oo,oo,oo,oo,oo,oo,oo,oo,oo,oo,oo,oo,oo,oo,oo,oo]∧L=[(.l 6,.row (ddE q) tDd 12 true)]) (S.dropLast.length) _ _ (by simp only [qau,ZZ,WW,Ze,reduceCtorEq,zd,ze,za,zf,zb];try trivial) (by (simp only [ZZ,WW,Ze,reduceCtorEq,zd,ze,za,zf,zb];try trivial)) ⟨0,[],by omega,by omega,hR,DdsB.nil,by simp,rfl,rfl⟩ ?_
 rintro n fr L ⟨k,q,hk,rfl,hg,hqB,hql,rfl,rfl⟩
 simp only [qcp,ZZ,WW,Ze,reduceCtorEq,zd,ze,za,zf,zb]
 refine br ?_ ?_
 ·intro h1
  have hlt:k < S.dropLast.length:=by have:=of_decide_eq_true h1;omega
  obtain ⟨x,hx⟩:∃ x,S.dropLast[k]?=some x:=⟨_,zr hlt⟩
  have hgx:(strE S.dropLast).getD k []=[.str x]:=qh4 hx
  have hxl:x.length≤200000:=z8 (hsm x ((List.dropLast_sublist S).subset (zD hx))) h
  have hxw:∀ y∈splF x 32,y.length≤200000:=fun y hy=>z8 (qh6 x 32 y hy) hxl
  have hnext:goF (S.dropLast.drop k) k q=match prsW (splF x 32) with|none=>.error k|some d=>goF (S.dropLast.drop (k+1)) (k+1) (q++[d]):=by
   obtain ⟨hlk,he⟩:=zw.1 hx
   rw [List.drop_eq_getElem_cons hlk,he]
   rfl
  simp only [ZZ,WW,Ze,reduceCtorEq,zd,ze,za,zf,zb,hgx,qau]
  refine ⟨⟨by omega,by omega⟩,hlt,?_⟩
  have hln:=qjP x 32
  refine use1 (up90 (qj0 x 32 (by omega))) rfl (.inl rfl) ?_
  rw [qlL]
  have hwn:splF x 32≠[]:=by rw [qgv];exact qql 32 x
  generalize splF x 32=w at *
  have hw0:0 < w.length:=yf.2 hwn
  have e0:yn 0=0:=rfl
  have hbad:prsW w=none→PV.tup [.sl 12 [],int (k:Nat),int 9]=parR (parE S R):=by
   intro hp
   rw [← hg,hnext,hp]
   rfl
  simp only [ZZ,WW,Ze,reduceCtorEq,zd,ze,za,zf,zb,qau,e0,qbl hw0]
  refine ⟨fun h=>⟨h,by omega,by omega⟩,fun h=>⟨h,hw0⟩,?_⟩
  refine ⟨fun h=>by rw [h];rfl,?_⟩
  refine useG (fun _=>up90 (qjz w [] (by omega))) rfl (.inl rfl) ?_
  simp only [ZZ,WW,Ze,reduceCtorEq,zd,ze,za,zf,zb]
  refine ⟨fun h=>by rw [h];rfl,?_⟩
  refine br ?_ ?_
  ·intro h
   have hp:prsW w=none:=by
    unfold prsW
    rw [if_pos]
    rcases Bool.or_eq_true_iff.1 h with h|h
    ·rcases Bool.or_eq_true_iff.1 h with h|h
     ·exact .inl (by rw [zW,decide_eq_false_iff_not] at h;omega)
     ·exact .inr (.inl (by rw [zW,decide_eq_false_iff_not] at h;exact h))
    ·exact .inr (.inr (of_decide_eq_true h))
   simp only [ZZ,WW,Ze,reduceCtorEq,zd,ze,za,zf,zb]
   exact hbad hp
  intro h
  rw [zZ,zZ,yp,decide_eq_true_eq,yp,decide_eq_true_eq,decide_eq_false_iff_not] at h
  have hw13:w.length=13:=by have:=h.1.1;omega
  have hpw:prsW w=prsN w:=by
   unfold prsW
   rw [if_neg (fun e=>e.elim (fun e=>e hw13) (fun e=>e.elim (fun e=>e h.1.2) h.2))]
  simp only [ZZ,WW,Ze,reduceCtorEq,zd,ze,za,zf,zb]
  refine qag (fun n fr L=>∃ (j:Nat) (cs:List PV) (o:Bool),j≤5∧n=5 - j∧(cs.length=5)∧(∀ i,i < j→cs.getD i (int 0)=int (atV (w.getD (nplL.getD i 0) [])))∧(o=true↔∀ i,i < j→qkY (w.getD (nplL.getD i 0) []) 9=true)∧fr=[oo,oo,oo,oo,oo,.p (.sl 1 (strE S)),.row (.l 6),.p (int (k:Nat)),oo,.p (.sl 1 (strE w)),.adr (.l 10) 0,.p (.bool o),oo,oo,oo,oo,oo,oo,oo,oo,oo,oo,oo,oo,oo,oo,oo,oo,oo,oo,oo,oo,.p (.sl 1 (strE S.dropLast)),.p (int (S.dropLast.length:Nat)),.p (int (k:Nat)),oo,oo,oo,oo,oo,oo,oo,oo,oo,oo,oo,oo,oo,oo,oo,oo,oo,oo,oo,oo,.p (.sl 1 [[int 2],[int 3],[int 8],[int 9],[int 11]]),.p (int 5),.p (int (j:Nat)),oo,oo,oo,oo,oo,oo,oo,oo,oo,oo,oo,oo,oo,oo,oo,oo,oo,oo,oo,oo,oo,oo,oo,oo,oo,oo,oo,oo,oo,oo,oo,oo,oo,oo,oo,oo,oo,oo,oo,oo,oo,oo,oo,oo,oo,oo,oo,oo,oo,oo,oo,oo,oo,oo,oo,oo,oo,oo,oo,oo,oo,oo,oo,oo,oo,oo,oo,oo,oo,oo,oo,oo,oo,oo,oo,oo,oo,oo,oo,oo,oo,oo,oo,oo,oo,oo,oo,oo,oo,oo,oo,oo,oo,oo,oo,oo,oo,oo,oo,oo,oo,oo,oo,oo,oo,oo,oo,oo,oo,oo,oo,oo]∧L=[(.l 6,.row (ddE q) tDd 12 true),(.l 10,.box (cs.map .p) 78)]) (5) [oo,oo,oo,oo,oo,.p (.sl 1 (strE S)),.row (.l 6),.p (int (k:Nat)),oo,.p (.sl 1 (strE w)),.adr (.l 10) 0,.p (.bool true),oo,oo,oo,oo,oo,oo,oo,oo,oo,oo,oo,oo,oo,oo,oo,oo,oo,oo,oo,oo,.p (.sl 1 (strE S.dropLast)),.p (int (S.dropLast.length:Nat)),.p (int (k:Nat)),oo,oo,oo,oo,oo,oo,oo,oo,oo,oo,oo,oo,oo,oo,oo,oo,oo,oo,oo,oo,.p (.sl 1 [[int 2],[int 3],[int 8],[int 9],[int 11]]),.p (int 5),.p (int (0:Nat)),oo,oo,oo,oo,oo,oo,oo,oo,oo,oo,oo,oo,oo,oo,oo,oo,oo,oo,oo,oo,oo,oo,oo,oo,oo,oo,oo,oo,oo,oo,oo,oo,oo,oo,oo,oo,oo,oo,oo,oo,oo,oo,oo,oo,oo,oo,oo,oo,oo,oo,oo,oo,oo,oo,oo,oo,oo,oo,oo,oo,oo,oo,oo,oo,oo,oo,oo,oo,oo,oo,oo,oo,oo,oo,oo,oo,oo,oo,oo,oo,oo,oo,oo,oo,oo,oo,oo,oo,oo,oo,oo,oo,oo,oo,oo,oo,oo,oo,oo,oo,oo,oo,oo,oo,oo,oo,oo,oo,oo,oo,oo,oo] [(.l 6,.row (ddE q) tDd 12 true),(.l 10,.box (([int 0,int 0,int 0,int 0,int 0]).map .p) 78)] (by (simp only [ZZ,WW,Ze,reduceCtorEq,zd,ze,za,zf,zb];try trivial)) (by (simp only [ZZ,WW,Ze,reduceCtorEq,zd,ze,za,zf,zb];try trivial)) ⟨0,[int 0,int 0,int 0,int 0,int 0],true,by omega,by omega,rfl,by intro i hi;omega,⟨fun _ i hi=>by omega,fun _=>rfl⟩,rfl,rfl⟩ ?_
  rintro n fr L ⟨j,cs,o,hj,rfl,hcl,hcs,hok,rfl,rfl⟩
  simp only [qco,ZZ,WW,Ze,reduceCtorEq,zd,ze,za,zf,zb]
  refine br ?_ ?_
  ·intro h2
   have hj5:j < 5:=by have:=of_decide_eq_true h2;omega
   obtain ⟨i,hi⟩:∃ i,nplL.getD j 0=i:=⟨_,rfl⟩
   have hi13:i < 13∧([[int 2],[int 3],[int 8],[int 9],[int 11]]:List (List PV)).getD j []=[int (i:Nat)]:=by
    rw [← hi]
    match j,hj5 with
    |0,_|1,_|2,_|3,_|4,_=>exact ⟨by decide,rfl⟩
   have hat:=qbl (w:=w) (j:=i) (by omega)
   have hxi:(w.getD i []).length≤200000:=by
    rw [zG,zr (show i < w.length by omega)]
    exact hxw _ (List.getElem_mem _)
   simp only [ZZ,WW,Ze,reduceCtorEq,zd,ze,za,zf,zb,hi13.2,qau,yi,hat]
   refine ⟨⟨by omega,by omega⟩,hj5,⟨by omega,by omega⟩,by omega,?_⟩
   refine use1 (up95 (qrt (w.getD i []) 9 (by omega))) rfl (.inl rfl) ?_
   have hle:(j * 1+1≤(cs.map AV.p).length)=True:=by rw [zV,hcl];simp;omega
   have hset:(cs.map AV.p).set (j * 1) (.p (int (atV (w.getD i []))))=(cs.set j (int (atV (w.getD i [])))).map AV.p:=by rw [Nat.mul_one,List.map_set]
   have hcs':∀ i',i' < j+1→(cs.set j (int (atV (w.getD i [])))).getD i' (int 0)=int (atV (w.getD (nplL.getD i' 0) [])):=by
    intro i' hi'
    by_cases hkj:j=i'
    ·subst hkj
     rw [zG,List.getElem?_set_self (by omega),hi]
     rfl
    ·rw [zG,List.getElem?_set_ne hkj,← zG]
     exact hcs i' (by omega)
   have hok':(o && qkY (w.getD i []) 9)=true↔∀ i',i' < j+1→qkY (w.getD (nplL.getD i' 0) []) 9=true:=by
    rw [zh,hok]
    constructor
    ·rintro ⟨h3,h4⟩ i' hi'
     by_cases hkj:j=i'
     ·subst hkj
      rw [hi]
      exact h4
     ·exact h3 i' (by omega)
    ·intro h3
     refine ⟨fun i' hi'=>h3 i' (by omega),?_⟩
     have:=h3 j (by omega)
     rwa [hi] at this
   simp only [ZZ,WW,Ze,reduceCtorEq,zd,ze,za,zf,zb,hle,if_true,hset]
   refine ⟨⟨by omega,by omega⟩,qaj (by omega) (by omega),?_⟩
   refine qae (5 - (j+1)) _ _ (by omega) (by (simp only [ZZ,WW,Ze,reduceCtorEq,zd,ze,za,zf,zb];try trivial)) (by (simp only [ZZ,WW,Ze,reduceCtorEq,zd,ze,za,zf,zb];try trivial)) ⟨j+1,cs.set j (int (atV (w.getD i []))),(o && qkY (w.getD i []) 9),by omega,rfl,by rw [List.length_set,hcl],hcs',hok',rfl,rfl⟩
  ·intro h2
   have hj5:j=5:=by have:=of_decide_eq_false h2;omega
   subst hj5
   have hnu:o=true↔∀ i∈nplL,nuF (w.getD i []):=by
    rw [hok]
    constructor
    ·intro h3 i hi
     refine (ql9 _).2 ?_
     simp only [nplL,zI,zU,or_false] at hi
     rcases hi with rfl|rfl|rfl|rfl|rfl
     ·exact h3 0 (by omega)
     ·exact h3 1 (by omega)
     ·exact h3 2 (by omega)
     ·exact h3 3 (by omega)
     ·exact h3 4 (by omega)
    ·intro h3 i hi
     refine ((ql9 _).1 (h3 _ ?_)).2
     rw [zG,zr (show i < nplL.length from hi)]
     exact List.getElem_mem _
   have e7:yn 7=7:=rfl
   have e4:yn 4=4:=rfl
   have e1:yn 1=1:=rfl
   have e5:yn 5=5:=rfl
   have e6:yn 6=6:=rfl
   have e10:yn 10=10:=rfl
   have e12:yn 12=12:=rfl
   have hx7:(w.getD 7 []).length≤200000:=by
    rw [zG,zr (show 7 < w.length by omega)]
    exact hxw _ (List.getElem_mem _)
   have hx4:w.getD 4 []≠[]:=by
    intro e
    apply h.2
    rw [← e,zG,zr (show 4 < w.length by omega)]
    exact List.getElem_mem _
   have hkb:=qjT kndW (w.getD 4 []) 6 0 (by decide)
   have hk6:kndW.length=6:=rfl
   obtain ⟨kd,hkd⟩:∃ kd,idxS ([] :: kndW) (w.getD 4 []) 0=kd:=⟨_,rfl⟩
   have hkd2:=qvS hx4
   rw [hkd] at hkd2
   simp only [ZZ,WW,Ze,reduceCtorEq,zd,ze,za,zf,zb]
   refine drg2 (x1:=.sl 1 (strE ([] :: kndW))) (x2:=int kd) ?_
   simp only [ZZ,WW,Ze,reduceCtorEq,zd,ze,za,zf,zb,e4,e7,qbl (w:=w) (j:=4) (by omega),qbl (w:=w) (j:=7) (by omega),qau]
   refine ⟨usep qjt rfl (.inl rfl),⟨by omega,by omega⟩,by omega,usep (by rw [← hkd];exact up90 (qkM ([] :: kndW) (w.getD 4 []) (by simp [hk6]))) rfl (.inl rfl),⟨by omega,by omega⟩,by omega,?_⟩
   obtain ⟨V,N,r,hU,hP⟩:∃ (V:List UInt8) (N:Int) (r:Bool),unqR (w.getD 7 []) (unqF (w.getD 7 []))=.tup [.str V,int N,.bool r]∧prsN w=if (((!o || decide (kd < 1)) || !r) || !decide (N=((w.getD 7 []).length:Nat)))=true then none else some (mkD w V):=by
    by_cases hal:∀ i∈nplL,nuF (w.getD i [])
    ·have ho:o=true:=hnu.2 hal
     cases hu:unqF (w.getD 7 []) with
     |none=>exact ⟨[],0,false,rfl,by rw [qpB hal hu,if_pos (by simp)]⟩
     |some p=>
      obtain ⟨v,r⟩:=p
      have hl:=qlI hu
      refine ⟨v,_,true,rfl,?_⟩
      rw [qnj hal hu,ho]
      by_cases h5:r≠[]∨idxS kndW (w.getD 4 []) 0 < 0
      ·rw [if_pos h5,if_pos]
       rcases h5 with h5|h5
       ·have:=yf.2 h5
        simp only [Bool.or_eq_true,zW,decide_eq_false_iff_not]
        exact .inr (by omega)
       ·rw [if_pos h5] at hkd2
        rw [hkd2]
        simp
      ·rw [if_neg h5,if_neg]
       simp only [not_or,Classical.not_not] at h5
       rw [if_neg h5.2] at hkd2
       rw [h5.1]
       simp only [Bool.not_true,Bool.false_or,Bool.or_false,zp,Nat.sub_zero,decide_true,decide_eq_true_eq]
       omega
    ·have ho:o=false:=by
      cases o
      ·rfl
      ·exact absurd (hnu.1 rfl) hal
     rw [qpC hal,ho]
     cases unqF (w.getD 7 []) with
     |none=>exact ⟨[],0,false,rfl,by simp⟩
     |some p=>exact ⟨p.1,_,true,rfl,by simp⟩
   have hQ:=qo9 (E:=E9) (w.getD 7 []) (by omega)
   rw [hU] at hQ
   refine use1 hQ rfl (.inl rfl) ?_
   simp only [ZZ,WW,Ze,reduceCtorEq,zd,ze,za,zf,zb,e7,qbl (w:=w) (j:=7) (by omega),qau]
   refine ⟨fun h=>by rw [h];rfl,fun h=>by rw [h];rfl,fun h=>⟨h,by omega,by omega⟩,fun h=>⟨h,by omega⟩,fun h=>by rw [h];rfl,?_⟩
   refine br ?_ ?_
   ·intro h2
    have hp:prsW w=none:=by rw [hpw,hP,if_pos h2]
    simp only [ZZ,WW,Ze,reduceCtorEq,zd,ze,za,zf,zb]
    exact hbad hp
   intro h2
   have hp:prsW w=some (mkD w V):=by rw [hpw,hP,if_neg (by rw [h2];simp)]
   have dB:DdB (mkD w V):=qum hp hxw
   have hkd3:idxS kndW (w.getD 4 []) 0+1=kd:=by
    rw [zZ,zZ,zZ,decide_eq_false_iff_not] at h2
    split at hkd2
    ·omega
    ·exact hkd2.symm
   rw [hp] at hnext
   rw [hg] at hnext
   have hn:R=goF (S.dropLast.drop (k+1)) (k+1) (q++[mkD w V]):=hnext
   obtain ⟨c0,c1,c2,c3,c4,rfl⟩:∃ c0 c1 c2 c3 c4,cs=[c0,c1,c2,c3,c4]:=by
    match cs,hcl with
    |[c0,c1,c2,c3,c4],_=>exact ⟨c0,c1,c2,c3,c4,rfl⟩
   have n0:c0=int (atV (w.getD 2 [])):=hcs 0 (by omega)
   have n1:c1=int (atV (w.getD 3 [])):=hcs 1 (by omega)
   have n2:c2=int (atV (w.getD 8 [])):=hcs 2 (by omega)
   have n3:c3=int (atV (w.getD 9 [])):=hcs 3 (by omega)
   have n4:c4=int (atV (w.getD 11 [])):=hcs 4 (by omega)
   subst n0 n1 n2 n3 n4
   have happ:ddE q++[[.str (w.getD 1 []),int (atV (w.getD 2 [])),int (atV (w.getD 3 [])),int kd,.str (nonF (w.getD 5 [])),.str (nonF (w.getD 6 [])),.str V,int (atV (w.getD 8 [])),int (atV (w.getD 9 [])),.str (nonF (w.getD 10 [])),int (atV (w.getD 11 [])),.str (w.getD 12 [])]]=ddE (q++[mkD w V]):=by
    rw [← hkd3]
    simp [ddE,ddC,mkD]
   simp only [ZZ,WW,Ze,reduceCtorEq,zd,ze,za,zf,zb]
   refine drg3 (x1:=.str (nonF (w.getD 5 []))) (x2:=.str (nonF (w.getD 6 []))) (x3:=.str (nonF (w.getD 10 []))) ?_
   simp only [ZZ,WW,Ze,reduceCtorEq,zd,ze,za,zf,zb,e1,e5,e6,e10,e12,qbl (w:=w) (j:=1) (by omega),qbl (w:=w) (j:=5) (by omega),qbl (w:=w) (j:=6) (by omega),qbl (w:=w) (j:=10) (by omega),qbl (w:=w) (j:=12) (by omega),qau,happ]
   have hfn:fnB Tryz.prog 42=true:=by kernel_rfl
   refine ⟨⟨by omega,by omega⟩,by omega,⟨by omega,by omega⟩,by omega,⟨hfn,usep (quF _) rfl (.inl rfl)⟩,⟨by omega,by omega⟩,by omega,⟨hfn,usep (quF _) rfl (.inl rfl)⟩,⟨by omega,by omega⟩,by omega,⟨hfn,usep (quF _) rfl (.inl rfl)⟩,⟨by omega,by omega⟩,by omega,by rw [qac];omega,qaj (by omega) (by omega),?_⟩
   refine qae (S.dropLast.length - (k+1)) _ _ (by omega) (by (simp only [ZZ,WW,Ze,reduceCtorEq,zd,ze,za,zf,zb];try trivial)) (by (simp only [ZZ,WW,Ze,reduceCtorEq,zd,ze,za,zf,zb];try trivial)) ⟨k+1,q++[mkD w V],by omega,rfl,hn.symm,hqB.app (fun y hy=>by rw [zL] at hy;rw [hy];exact dB),by rw [zx];simp only [zk,zp];omega,rfl,rfl⟩
 ·intro h1
  have hge:S.dropLast.length≤k:=by have:=of_decide_eq_false h1;omega
  rw [yz hge] at hg
  have hg:Except.ok q=R:=hg
  rw [← hg]
  have hgl:S.getD (S.length - 1) []=S.getLastD []:=by
   rw [List.getLastD_eq_getLast?,List.getLast?_eq_getElem?,zG]
  have hsg:(strE S).getD (S.length - 1) []=[.str (S.getLastD [])]:=by rw [qbl (by omega),hgl]
  simp only [ZZ,WW,Ze,reduceCtorEq,zd,ze,za,zf,zb,qau,e1,hsg]
  refine ⟨qaj (by omega) (by omega),⟨by omega,by omega⟩,by omega,?_⟩
  refine br ?_ ?_
  ·intro h2
   have h2:S.getLastD []≠[]:=by rw [zW,decide_eq_false_iff_not] at h2;exact h2
   rw [qkj h2]
   simp only [ZZ,WW,Ze,reduceCtorEq,zd,ze,za,zf,zb,qau]
   refine ⟨qaj (by omega) (by omega),?_⟩
   rfl
  intro h2
  have h2:S.getLastD []=[]:=by rw [yp,decide_eq_true_eq] at h2;exact h2
  rw [qow h2]
  simp only [ZZ,WW,Ze,reduceCtorEq,zd,ze,za,zf,zb]
  refine use1 (up9D (qf7 q hqB (by omega))) rfl (.inr rfl) ?_
  simp only [ZZ,WW,Ze,reduceCtorEq,zd,ze,za,zf,zb]
  refine br ?_ ?_
  ·intro h3
   have h3:¬ (ckdF q).2=0:=by simpa using h3
   rw [if_pos h3]
   simp only [ZZ,WW,Ze,reduceCtorEq,zd,ze,za,zf,zb]
   rfl
  ·intro h3
   have h3:(ckdF q).2=0:=by simpa using h3
   rw [if_neg (fun e=>e h3)]
   simp only [ZZ,WW,Ze,reduceCtorEq,zd,ze,za,zf,zb]
   rfl
end Go.Proofs.YtjgdjinhkgjpeaaGreatDoor
