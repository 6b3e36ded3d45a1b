import Derived.Test.YtekhobchfhhofaaGreatDoorZ10
import Derived.Test.YtekhobchfhhofaaGreatDoorLaySort
import Derived.Test.YtekhobchfhhofaaGreatDoorLayCompact
import Derived.Lib.OwnBridge
import Derived.Test.YtekhobchfhhofaaGreatDoorZ5
set_option linter.unusedVariables false
set_option linter.unusedSimpArgs false
set_option linter.defProp false
namespace Go.Proofs.YtekhobchfhhofaaGreatDoor
open Nat renaming le_refl→zO,reduceAdd→zd,reduceEqDiff→zb,reduceLT→zf,reduceLeDiff→za,reduceMul→ze
open List renaming cons_append→zH,drop_eq_nil_of_le→zU,eq_nil_of_length_eq_zero→zw,getD→zy,getElem?_eq_getElem→zh,getElem?_eq_some_iff→zm,getElem?_of_mem→zW,mem_cons→zo,mem_of_getElem?→zl,range→zz,take_length→ya
open Bool renaming and_eq_true→zj,not_eq_true'→yb
open Go.RowKit
theorem qqH (s:List UInt8) (c:UInt8) (i:Nat):Lib.occAt s [c] i=true↔s[i]?=some c:=by
 unfold Lib.occAt
 cases h:s.drop i with
 |nil=>
  have:s.length≤i:=by simpa using h
  simp [List.getElem?_eq_none this]
 |cons x r=>
  have hx:s[i]?=some x:=by
   have:=congrArg (fun l=>l[0]?) h
   simpa using this
  simp [hx]
  exact eq_comm
theorem qlY (s:List UInt8) (c:UInt8):(∃ a b,s=a++c :: b∧c∉a∧cutF s [c]=(a,b,true))∨(c∉s∧cutF s [c]=(s,[],false)):=by
 rcases Lib.index_spec s [c] with ⟨h1,h2⟩|⟨i,h1,h2,h3,h4⟩
 ·refine .inr ⟨fun hc=>?_,by rw [cutF,h1,if_neg (by decide)]⟩
  obtain ⟨j,hj⟩:=zW hc
  have:=h2 j (by have:=(zm.1 hj).1;omega)
  rw [(qqH s c j).2 hj] at this
  cases this
 ·have h5:=(qqH s c i).1 h3
  have hlt:=(zm.1 h5).1
  refine .inl ⟨s.take i,s.drop (i+1),?_,?_,?_⟩
  ·conv=>lhs;rw [← List.take_append_drop i s]
   rw [List.drop_eq_getElem_cons hlt,(zm.1 h5).2]
  ·intro hc
   obtain ⟨j,hj⟩:=zW hc
   rw [List.getElem?_take] at hj
   split at hj
   ·rename_i hji
    have:=h4 j hji
    rw [(qqH s c j).2 hj] at this
    cases this
   ·cases hj
  ·rw [cutF,h1,if_pos (by omega)]
   simp
theorem qu5 (s t:List UInt8):sufE s t=true↔∃ x,s=x++t:=by
 unfold sufE
 simp only [zj,decide_eq_true_eq]
 constructor
 ·rintro ⟨h1,h2⟩
  exact ⟨s.take (s.length - t.length),by conv=>lhs;rw [← List.take_append_drop (s.length - t.length) s];rw [h2]⟩
 ·rintro ⟨x,rfl⟩
  simp
  omega
def qca (dom n:List UInt8):Bool:=decide (n=dom) || sufE dom (46 :: n)
theorem qeo (dom n:List UInt8):qca dom n=true↔n=dom∨∃ x,dom=x++46 :: n:=by
 rw [qca,Bool.or_eq_true,decide_eq_true_eq,qu5]
theorem qtM {dom n:List UInt8} (h:qca dom n=true):n.length≤dom.length:=by
 rcases (qeo dom n).1 h with rfl|⟨x,rfl⟩
 ·exact zO _
 ·simp;omega
theorem qsm {dom n m:List UInt8} (h:qca dom n=true) (k:qca dom m=true) (hl:n.length=m.length):n=m:=by
 have key:∀ a b:List UInt8,(∃ x,dom=x++a)→(∃ x,dom=x++b)→a.length=b.length→a=b:=by
  rintro a b ⟨x,e1⟩ ⟨y,e2⟩ hab
  exact (List.append_inj' (e1.symm.trans e2) hab).2
 have lift:∀ a,qca dom a=true→∃ x,dom=x++a:=by
  intro a ha
  rcases (qeo dom a).1 ha with rfl|⟨x,rfl⟩
  ·exact ⟨[],rfl⟩
  ·exact ⟨x++[46],by simp⟩
 exact key n m (lift n h) (lift m k) hl
theorem qsn {a rest n:List UInt8} (ha:(46:UInt8)∉a) (hn:n≠a++46 :: rest):qca (a++46 :: rest) n=qca rest n:=by
 rw [Bool.eq_iff_iff,qeo,qeo]
 constructor
 ·rintro (h|⟨x,hx⟩)
  ·exact absurd h hn
  ·have hx':=hx
   rcases List.append_eq_append_iff.1 hx' with ⟨y,h1,h2⟩|⟨y,h1,h2⟩
   ·
    cases y with
    |nil=>simp at h2;exact .inl h2.symm
    |cons z y=>
     simp only [zH,List.cons.injEq] at h2
     exact .inr ⟨y,h2.2⟩
   ·
    cases y with
    |nil=>simp at h2;exact .inl h2
    |cons z y=>
     simp only [zH,List.cons.injEq] at h2
     exact absurd (by rw [h1,← h2.1];simp) ha
 ·rintro (rfl|⟨x,rfl⟩)
  ·exact .inr ⟨a,rfl⟩
  ·exact .inr ⟨a++46 :: x,by simp⟩
def qfb (l:List Par) (n:List UInt8):Option Par:=l.find? (fun p=>decide (p.1=n))
theorem qsx {l:List Par} {n:List UInt8} {p:Par} (h:qfb l n=some p):p∈l∧p.1=n:=⟨List.mem_of_find?_eq_some h,by simpa using List.find?_some h⟩
theorem qnm {l:List Par} {n:List UInt8} (h:qfb l n=none):∀ p∈l,p.1≠n:=by
 intro p hp
 have:=(List.find?_eq_none.1 h) p hp
 simpa using this
def refD (l:List Par):Nat→List UInt8→Option Par
 |0,s=>qfb l s
 |n+1,s=>match qfb l s with
  |some d=>some d
  |none=>if (cutF s [46]).2.2=true then refD l n (cutF s [46]).2.1 else none
theorem qpk (l:List Par) (n:Nat) (s:List UInt8):refD l (n+1) s=match qfb l s with|some d=>some d|none=>if (cutF s [46]).2.2=true then refD l n (cutF s [46]).2.1 else none:=rfl
theorem qpl (l:List Par):∀ (n:Nat) (s:List UInt8),s.length≤n→refD l (n+1) s=refD l n s
 |0,s,h=>by
  have:s=[]:=zw (by omega)
  subst this
  simp only [refD]
  rcases qlY [] 46 with ⟨a,b,h1,_⟩|⟨_,h2⟩
  ·simp at h1
  ·rw [h2];cases qfb l []<;>rfl
 |n+1,s,h=>by
  rw [qpk l (n+1) s,qpk l n s]
  cases hq:qfb l s with
  |some d=>rfl
  |none=>
   rcases qlY s 46 with ⟨a,b,h1,_,h3⟩|⟨_,h2⟩
   ·rw [h3]
    simp only [if_true]
    exact qpl l n b (by rw [h1] at h;simp at h;omega)
   ·rw [h2];simp
theorem qm1 (l:List Par) (s:List UInt8):∀ d,refD l (s.length+d) s=refD l s.length s
 |0=>rfl
 |d+1=>by rw [← Nat.add_assoc,qpl l (s.length+d) s (by omega)];exact qm1 l s d
theorem qtt (l:List Par) {s:List UInt8} (h:qfb l s=none) (hc:(cutF s [46]).2.2=true):refD l s.length s=refD l (cutF s [46]).2.1.length (cutF s [46]).2.1:=by
 rcases qlY s 46 with ⟨a,b,h1,_,h3⟩|⟨_,h2⟩
 ·rw [h3]
  have hl:s.length=b.length+a.length+1:=by rw [h1];simp;omega
  rw [hl,refD,h,h3]
  simp only [if_true]
  exact qm1 l b a.length
 ·rw [h2] at hc;cases hc
theorem qtr (l:List Par) {s:List UInt8} (h:qfb l s=none) (hc:(cutF s [46]).2.2=false):refD l s.length s=none:=by
 cases hs:s.length with
 |zero=>rw [refD,h]
 |succ n=>rw [refD,h];simp [hc]
theorem qvy (l:List Par) {s:List UInt8} {d:Par} (h:qfb l s=some d):refD l s.length s=some d:=by
 cases hs:s.length with
 |zero=>rw [refD,h]
 |succ n=>rw [refD,h]
theorem qts (l:List Par):∀ (n:Nat) (s:List UInt8),s.length≤n→
  (∀ d,refD l n s=some d→d∈l∧qca s d.1=true∧∀ e∈l,qca s e.1=true→e.1.length≤d.1.length)∧(refD l n s=none→∀ e∈l,qca s e.1=false):=by
 have base:∀ (s:List UInt8) (d:Par),qfb l s=some d→d∈l∧qca s d.1=true∧∀ e∈l,qca s e.1=true→e.1.length≤d.1.length:=by
  intro s d h
  obtain ⟨h1,h2⟩:=qsx h
  exact ⟨h1,(qeo _ _).2 (.inl h2),fun e _ he=>by rw [h2];exact qtM he⟩
 have nodot:∀ s:List UInt8,(46:UInt8)∉s→qfb l s=none→∀ e∈l,qca s e.1=false:=by
  intro s hs hq e he
  rw [Bool.eq_false_iff]
  intro hm
  rcases (qeo _ _).1 hm with h|⟨x,hx⟩
  ·exact qnm hq e he h
  ·exact hs (by rw [hx];simp)
 intro n
 induction n with
 |zero=>
  intro s hs
  have hs0:s=[]:=zw (by omega)
  refine ⟨fun d h=>base s d h,fun h=>nodot s (by rw [hs0];simp) h⟩
 |succ n ih=>
  intro s hs
  rw [refD]
  cases hq:qfb l s with
  |some d0=>
   refine ⟨fun d h=>?_,fun h=>(by cases h)⟩
   simp only [Option.some.injEq] at h
   subst h
   exact base s d0 hq
  |none=>
   rcases qlY s 46 with ⟨a,b,h1,h2,h3⟩|⟨h1,h2⟩
   ·rw [h3]
    simp only [if_true]
    obtain ⟨i1,i2⟩:=ih b (by rw [h1] at hs;simp at hs;omega)
    have hsame:∀ e∈l,qca s e.1=qca b e.1:=by
     intro e he
     have:=qnm hq e he
     rw [h1] at this ⊢
     exact qsn h2 this
    refine ⟨fun d h=>?_,fun h e he=>by rw [hsame e he];exact i2 h e he⟩
    obtain ⟨j1,j2,j3⟩:=i1 d h
    exact ⟨j1,by rw [hsame d j1];exact j2,fun e he hm=>j3 e he (by rw [← hsame e he];exact hm)⟩
   ·rw [h2]
    simp only [Bool.false_eq_true,if_false]
    exact ⟨fun d h=>(by cases h),fun _=>nodot s h1 hq⟩
def qmH (dom:List UInt8) (b d:Par):Par:=if (qca dom d.1 && decide (b.1.length < d.1.length))=true then d else b
def qmI (l:List Par) (dom:List UInt8):Par:=l.foldl (qmH dom) p00
theorem qsG {l:List Par} {dom:List UInt8} {k:Nat} {d:Par} (h:l[k]?=some d):qmI (l.take (k+1)) dom=qmH dom (qmI (l.take k) dom) d:=by
 rw [List.take_add_one,h,qmI,List.foldl_append]
 rfl
theorem qkq (dom:List UInt8):∀ (l:List Par) (b:Par),(b=p00∨qca dom b.1=true)→
  let r:=l.foldl (qmH dom) b
  (r=b∨(r∈l∧qca dom r.1=true))∧b.1.length≤r.1.length∧∀ e∈l,qca dom e.1=true→e.1.length≤r.1.length
 |[],b,hb=>⟨.inl rfl,zO _,by simp⟩
 |d :: l,b,hb=>by
  simp only [List.foldl_cons]
  by_cases hd:(qca dom d.1 && decide (b.1.length < d.1.length))=true
  ·have h1:qmH dom b d=d:=by rw [qmH,if_pos hd]
   simp only [zj,decide_eq_true_eq] at hd
   rw [h1]
   obtain ⟨i1,i2,i3⟩:=qkq dom l d (.inr hd.1)
   refine ⟨.inr ?_,by omega,fun e he hm=>?_⟩
   ·rcases i1 with h|⟨h,h'⟩
    ·rw [h];exact ⟨by simp,hd.1⟩
    ·exact ⟨by simp [h],h'⟩
   ·rcases zo.1 he with rfl|he
    ·exact i2
    ·exact i3 e he hm
  ·have h1:qmH dom b d=b:=by rw [qmH,if_neg hd]
   rw [h1]
   obtain ⟨i1,i2,i3⟩:=qkq dom l b hb
   refine ⟨?_,i2,fun e he hm=>?_⟩
   ·rcases i1 with h|⟨h,h'⟩
    ·exact .inl h
    ·exact .inr ⟨by simp [h],h'⟩
   ·rcases zo.1 he with rfl|he
    ·have:¬ b.1.length < e.1.length:=fun hlt=>hd (by simp [hm,hlt])
     omega
    ·exact i3 e he hm
theorem qwA {l:List Par} (dom:List UInt8) (hne:∀ d∈l,d.1≠[]) (hd:∀ d∈l,∀ e∈l,d.1=e.1→d=e) :
  (match refD l dom.length dom with
   |some d=>qmI l dom=d∧d.1≠[]
   |none=>(qmI l dom).1=[]):=by
 obtain ⟨r1,r2⟩:=qts l dom.length dom (zO _)
 obtain ⟨b1,b2,b3⟩:=qkq dom l p00 (.inl rfl)
 have hB:l.foldl (qmH dom) p00=qmI l dom:=rfl
 rw [hB] at b1 b2 b3
 cases hq:refD l dom.length dom with
 |some d=>
  obtain ⟨j1,j2,j3⟩:=r1 d hq
  refine ⟨?_,hne d j1⟩
  have hpos:0 < d.1.length:=by have:=hne d j1;exact List.length_pos_iff.2 this
  have h4:=b3 d j1 j2
  rcases b1 with h|⟨h5,h6⟩
  ·rw [h] at h4;simp [p00] at h4;have:=hne d j1;exact absurd h4 this
  ·have h7:=j3 _ h5 h6
   exact hd _ h5 d j1 (qsm h6 j2 (by omega))
 |none=>
  have h4:=r2 hq
  rcases b1 with h|⟨h5,h6⟩
  ·rw [h];rfl
  ·rw [h4 _ h5] at h6;cases h6
def qdT:IC:=(sR [qT 34 .lss 33 32] (.seq (jE 34) (.seq (.block 1 (sR [qX 35 3 31 33,qO 36 (.ld 3 true (.t 35)),qO 15 (.alc 72 [.str [],.int .i64 0,.int .i64 0]),qS 3 15 36] (sR [wF 37 0 15,qL 38 37,qM 39 11,qT 40 .eql 38 39,qM 41 40,⟨some 42,.mov (.t 11),(some (41,false))⟩,⟨some 43,.fla 0 (.t 15),(some (41,false))⟩,⟨some 44,.ld 1 false (.t 43),(some (41,false))⟩,⟨some 45,.bin .add (.c (.str [46])) (.t 44),(some (41,false))⟩,⟨some 46,.call 123 [.t 42,.t 45],(some (41,false))⟩,qO 47 (.pick (.t 41) (.c (.bool true)) (.t 46)),qM 48 47,⟨some 49,.fla 0 (.t 15),(some (48,true))⟩,⟨some 50,.ld 1 false (.t 49),(some (48,true))⟩,⟨some 51,.sln (.t 50),(some (48,true))⟩,⟨some 52,.fla 0 (.t 13),(some (48,true))⟩,⟨some 53,.ld 1 false (.t 52),(some (48,true))⟩,⟨some 54,.sln (.t 53),(some (48,true))⟩,⟨some 55,.bin .gtr (.t 51) (.t 54),(some (48,true))⟩,qO 56 (.pick (.t 48) (.t 55) (.c (.bool false)))] (jW 56 (.reg [qO 57 (.ld 3 true (.t 15)),qS 3 13 57]))))) (.cut (.reg [qB 58 .add 33 (cI 1),qM 33 58])))))
abbrev qjo:IC:=(sR [qO 6 (.alc 70 [.str [],.int .i64 0,.int .i64 0]),qO 7 (.mov (.c (.bool false)))] (.seq (sR [qM 17 0,qM 18 2,jC 19 122 [.t 17,.t 18],qM 16 19,qO 20 (.ext 0 (.t 16)),qO 21 (.ext 1 (.t 16)),qO 8 (.alc 70 [.str [],.int .i64 0,.int .i64 0]),qS 3 8 20,qM 9 21] (sR [qM 22 9] (jW 22 (sR [qO 23 (.ld 3 true (.t 8)),qS 3 6 23,qO 7 (.mov (.c (.bool true)))] .ret)))) (sR [qM 25 2,jC 26 111 [.t 25,.c (.str [64])],qM 24 26,qO 27 (.ext 0 (.t 24)),qO 28 (.ext 1 (.t 24)),qO 29 (.ext 2 (.t 24)),qM 10 27,qM 11 28,qM 12 29] (sR [qO 30 (.bld [.str [],.int .i64 0,.int .i64 0] []),qO 13 (.alc 72 [.str [],.int .i64 0,.int .i64 0]),qS 3 13 30] (.seq (sR [qM 31 1,qN 32 31,jI 33 0] (.block 0 (.loop qdT))) (.seq (sR [wF 59 0 13,qL 60 59,qB 61 .eql 60 (.c (.str []))] (jW 61 (sR [qO 62 (.bld [.str [],.int .i64 0,.int .i64 0] []),qS 3 6 62,qO 7 (.mov (.c (.bool false)))] .ret))) (sR [qM 63 2,wF 64 1 13,qL 65 64,wF 66 2 13,qL 67 66,qO 68 (.bld [.str [],.int .i64 0,.int .i64 0] [(0,1,.t 63),(1,1,.t 65),(2,1,.t 67)]),qS 3 6 68,qO 7 (.mov (.c (.bool true)))] .ret)))))))
theorem qjD:chkF Tryz.prog Tryz.f50 qjo [.c 6 3 true,.t 7] 69=true:=by kernel_rfl
def qdq:IC:=(sR [qT 39 .lss 38 37] (.seq (.cond (.t 39) .skip (.exit 4)) (.seq (.block 5 (sR [qX 40 3 36 38,qO 41 (.ld 3 true (.t 40)),qO 14 (.alc 72 [.str [],.int .i64 0,.int .i64 0]),qS 3 14 41] (sR [wF 42 0 14,qL 43 42,qM 44 11,qT 45 .eql 43 44] (jW 45 (sR [qM 46 2,wF 47 1 14,qL 48 47,wF 49 2 14,qL 50 49,qO 51 (.bld [.str [],.int .i64 0,.int .i64 0] [(0,1,.t 46),(1,1,.t 48),(2,1,.t 50)]),qS 3 6 51,qO 7 (.mov (.c (.bool true)))] .ret))))) (.reg [qB 52 .add 38 (cI 1),qM 38 52]))))
def qdr:IC:=(.block 3 (.seq (sR [qM 36 1,qN 37 36,jI 38 0] (.block 4 (.loop qdq))) (sR [qM 54 11,jC 55 111 [.t 54,.c (.str [46])],qM 53 55,qO 56 (.ext 0 (.t 53)),qO 57 (.ext 1 (.t 53)),qO 58 (.ext 2 (.t 53)),qM 15 56,qM 16 57,qM 17 58] (.seq (sR [qM 59 17,qO 60 (.not (.t 59))] (jW 60 (sR [qO 61 (.bld [.str [],.int .i64 0,.int .i64 0] []),qS 3 6 61,qO 7 (.mov (.c (.bool false)))] .ret))) (.reg [qM 62 16,qM 11 62])))))
def qds:IC:=(sR [qT 21 .lss 20 19] (.seq (jE 21) (.seq (.block 1 (sR [qX 22 3 18 20,qO 23 (.ld 3 true (.t 22)),qO 9 (.alc 70 [.str [],.int .i64 0,.int .i64 0]),qS 3 9 23] (sR [wF 24 0 9,qL 25 24,qM 26 2,qT 27 .eql 25 26] (jW 27 (sR [qO 28 (.ld 3 true (.t 9)),qS 3 6 28,qO 7 (.mov (.c (.bool true)))] .ret))))) (.reg [qB 29 .add 20 (cI 1),qM 20 29]))))
abbrev qh1:IC:=(sR [qO 6 (.alc 70 [.str [],.int .i64 0,.int .i64 0]),qO 7 (.mov (.c (.bool false)))] (.seq (sR [qM 18 0,qN 19 18,jI 20 0] (.block 0 (.loop qds))) (sR [qM 31 2,jC 32 111 [.t 31,.c (.str [64])],qM 30 32,qO 33 (.ext 0 (.t 30)),qO 34 (.ext 1 (.t 30)),qO 35 (.ext 2 (.t 30)),qM 10 33,qM 11 34,qM 12 35] (.block 2 (.loop qdr)))))
theorem qid:chkF Tryz.prog Tryz.f133 qh1 [.c 6 3 true,.t 7] 63=true:=by kernel_rfl
def qkh (m:List UInt8):List UInt8:=(cutF m [64]).2.1
def qm5 (l some':List Par) (m:List UInt8):Par×Bool:=
 if (qph l m).2=true then ((qph l m).1,true)
 else if (qmI some' (qkh m)).1=[] then (p00,false) else ((m,(qmI some' (qkh m)).2),true)
def qbo (l some':List Par) (m:List UInt8):Par×Bool:=
 match qfb l m with
 |some p=>(p,true)
 |none=>match refD some' (qkh m).length (qkh m) with
  |some d=>((m,d.2),true)
  |none=>(p00,false)
theorem qsg {l some':List Par} (m:List UInt8) (hne:∀ d∈some',d.1≠[]) (hd:∀ d∈some',∀ e∈some',d.1=e.1→d=e):qm5 l some' m=qbo l some' m:=by
 unfold qm5 qbo
 have hr:qph l m=match qfb l m with|some p=>(p,true)|none=>(p00,false):=rfl
 rw [hr]
 cases hq:qfb l m with
 |some p=>rfl
 |none=>
  have:=qwA (qkh m) hne hd
  cases h2:refD some' (qkh m).length (qkh m) with
  |some d=>
   rw [h2] at this
   obtain ⟨e1,e2⟩:=this
   simp only [e1]
   rw [if_neg e2]
   rfl
  |none=>
   rw [h2] at this
   simp only
   rw [if_pos this]
   rfl
theorem qvC (l some':List Par) (m:List UInt8) (hl:l.length≤1000000) (hs:qku l) (hl2:some'.length≤1000000) (hb:∀ p∈some',p.1.length≤1000000) (hm:m.length≤1000000):PCall Tryz.prog E0 50 [.sl 3 (parE l),.sl 3 (parE some'),.str m] (·=.tup [parA (qm5 l some' m).1,.bool (qm5 l some' m).2]):=by
 refine qag mixed Tryz.func50 qjD ?_
 refine zV ?_
 refine use1 (qx7 l m hl hs) rfl (.inl rfl) ?_
 unfold qm5
 generalize qph l m=q
 simp only [parA,par]
 refine zS ?_
 refine br ?_ ?_
 ·intro h
  rw [if_pos h]
  simp only [ZZ,WW,Ze,reduceCtorEq,zd,ze,za,zf,zb]
 intro h
 rw [if_neg (by simp [h])]
 refine zS ?_
 refine use1 (qqh m [64] (by omega)) rfl (.inl rfl) ?_
 have hcl:=qjB m [64]
 have hD:qkh m=(cutF m [64]).2.1:=rfl
 rw [hD]
 generalize cutF m [64]=cq at *
 simp only [ZZ,WW,Ze,reduceCtorEq,zd,ze,za,zf,zb,qay]
 refine qae (fun n fr L=>∃ (k:Nat) (b:Par),k≤some'.length∧n=some'.length - k∧(b=qmI (some'.take k) cq.2.1)∧fr=(oo::oo::.p (.str m)::oo::oo::oo::.adr (.l 6) 0::oo::oo::oo::oo::.p (.str cq.2.1)::oo::.adr (.l 13) 0::oE (oo::(.p (.sl 3 (parE some'))::.p (int (some'.length:Nat))::.p (int (k:Nat))::oF (oB (oo::[])))))∧L=[(.l 6,.box [.p (.str []),.p (int 0),.p (int 0)] qo5),(.l 13,.box [.p (.str b.1),.p (int b.2.1),.p (int b.2.2)] qdg)]) (some'.length) _ _ (by simp only [ZZ,WW,Ze,reduceCtorEq,zd,ze,za,zf,zb,qay];try trivial) zF_ ⟨0,p00,by omega,by omega,by simp [qmI],rfl,rfl⟩ ?_
 rintro n fr L ⟨k,b,hk,rfl,hbst,rfl,rfl⟩
 simp only [qdT,ZZ,WW,Ze,reduceCtorEq,zd,ze,za,zf,zb]
 refine br ?_ ?_
 ·intro h
  have hlt:k < some'.length:=by have:=of_decide_eq_true h;omega
  obtain ⟨x,hx⟩:∃ x,some'[k]?=some x:=⟨_,zh hlt⟩
  have hg:=qct hx
  have hbx:=hb x (zl hx)
  have hnx:=qsG (dom:=cq.2.1) hx
  rw [← hbst] at hnx
  simp only [ZZ,WW,Ze,reduceCtorEq,zd,ze,za,zf,zb,hg,qay]
  ((repeat' (with_reducible apply And.intro))<;>try (first|(intro _;simp;omega)|(exact sc_)))
  refine useG (fun _=>qe2 cq.2.1 (46 :: x.1) (by omega)) rfl (.inl rfl) ?_
  refine zS ?_
  ((with_reducible and_intros)<;>try exact sc_)
  have hq:((decide (x.1=cq.2.1) || sufE cq.2.1 (46 :: x.1)) && decide ((b.1.length:Int) < x.1.length))=(qca cq.2.1 x.1 && decide (b.1.length < x.1.length)):=by
   rw [qca]
   have:decide ((b.1.length:Int) < x.1.length)=decide (b.1.length < x.1.length):=by simp
   rw [this]
  rw [hq]
  refine br ?_ ?_
  ·intro hb1
   refine zS ?_
   refine qad zE_ ?_
   refine zS ?_
   refine ⟨qam (by omega) (by omega),?_⟩
   refine qab (some'.length - (k+1)) _ _ (by omega) zF_ zF_ ⟨k+1,x,by omega,rfl,by rw [hnx,qmH,if_pos hb1],rfl,rfl⟩
  ·intro hb1
   refine zS ?_
   refine qad zE_ ?_
   refine zS ?_
   refine ⟨qam (by omega) (by omega),?_⟩
   refine qab (some'.length - (k+1)) _ _ (by omega) zF_ zF_ ⟨k+1,b,by omega,rfl,by rw [hnx,qmH,if_neg (by rw [hb1];simp)],rfl,rfl⟩
 ·intro h
  have hge:k=some'.length:=by have:=of_decide_eq_false h;omega
  subst hge
  rw [ya] at hbst
  refine zS ?_
  refine br ?_ ?_
  ·intro h
   have h:b.1=[]:=of_decide_eq_true h
   refine zS ?_
   rw [← hbst,if_pos h]
   rfl
  ·intro h
   have h:¬ b.1=[]:=of_decide_eq_false h
   refine zS ?_
   rw [← hbst,if_neg h]
theorem qrR {l:List Par} {n:List UInt8} {k:Nat} (hno:∀ x∈l.take k,x.1≠n) {x:Par} (hx:l[k]?=some x) (h:x.1=n):qfb l n=some x:=by
 have hk:=(zm.1 hx).1
 have e:l=l.take k++x :: l.drop (k+1):=by
  conv=>lhs;rw [← List.take_append_drop k l]
  rw [List.drop_eq_getElem_cons hk,(zm.1 hx).2]
 rw [e,qfb,List.find?_append]
 have:(l.take k).find? (fun p=>decide (p.1=n))=none:=by
  rw [List.find?_eq_none];intro y hy;simpa using hno y hy
 rw [this]
 simp [h]
theorem qpL {l:List Par} {n:List UInt8} (hno:∀ x∈l,x.1≠n):qfb l n=none:=by
 rw [qfb,List.find?_eq_none];intro y hy;simpa using hno y hy
theorem qs2 {l:List Par} {n:List UInt8} {k:Nat} {x:Par} (hno:∀ y∈l.take k,y.1≠n) (hx:l[k]?=some x) (h:x.1≠n):∀ y∈l.take (k+1),y.1≠n:=by
 have hk:=(zm.1 hx).1
 rw [List.take_succ_eq_append_getElem hk]
 intro y hy
 rcases List.mem_append.1 hy with hy|hy
 ·exact hno y hy
 ·rw [List.mem_singleton] at hy;rw [hy,(zm.1 hx).2];exact h
theorem qm4 (l some':List Par) (m:List UInt8) (hl:l.length≤1000000) (hl2:some'.length≤1000000) (hb:∀ p∈some',p.1.length≤1000000) (hm:m.length≤1000000):PCall Tryz.prog E0 133 [.sl 3 (parE l),.sl 3 (parE some'),.str m] (·=.tup [parA (qbo l some' m).1,.bool (qbo l some' m).2]):=by
 refine qag mixed Tryz.func133 qid ?_
 refine zV ?_
 simp only [ZZ,WW,Ze,reduceCtorEq,zd,ze,za,zf,zb,qay]
 refine qae (fun n fr L=>∃ (k:Nat),k≤l.length∧n=l.length - k∧(∀ x∈l.take k,x.1≠m)∧fr=(oo::.p (.sl 3 (parE some'))::.p (.str m)::oo::oo::oo::.adr (.l 6) 0::oD (oB (oo::(.p (.sl 3 (parE l))::.p (int (l.length:Nat))::.p (int (k:Nat))::oF (oD (oB []))))))∧L=[(.l 6,.box [.p (.str []),.p (int 0),.p (int 0)] qo5)]) (l.length) _ _ (by simp only [ZZ,WW,Ze,reduceCtorEq,zd,ze,za,zf,zb,qay];try trivial) zF_ ⟨0,by omega,by omega,by simp,rfl,rfl⟩ ?_
 rintro n fr L ⟨k,hk,rfl,hno,rfl,rfl⟩
 simp only [qds,ZZ,WW,Ze,reduceCtorEq,zd,ze,za,zf,zb]
 refine br ?_ ?_
 ·intro h
  have hlt:k < l.length:=by have:=of_decide_eq_true h;omega
  obtain ⟨x,hx⟩:∃ x,l[k]?=some x:=⟨_,zh hlt⟩
  have hg:=qct hx
  simp only [ZZ,WW,Ze,reduceCtorEq,zd,ze,za,zf,zb,hg,qay]
  ((with_reducible and_intros)<;>try exact sc_)
  refine br ?_ ?_
  ·intro he
   have he:x.1=m:=of_decide_eq_true he
   refine zS ?_
   rw [qbo,qrR hno hx he]
   rfl
  ·intro he
   have he:x.1≠m:=of_decide_eq_false he
   refine zS ?_
   refine ⟨qam (by omega) (by omega),?_⟩
   refine qab (l.length - (k+1)) _ _ (by omega) zF_ zF_ ⟨k+1,by omega,rfl,qs2 hno hx he,rfl,rfl⟩
 intro h
 have hge:k=l.length:=by have:=of_decide_eq_false h;omega
 subst hge
 rw [ya] at hno
 have hR:qbo l some' m=match refD some' (qkh m).length (qkh m) with|some d=>((m,d.2),true)|none=>(p00,false):=by
  rw [qbo,qpL hno]
 rw [hR]
 refine zS ?_
 refine use1 (qqh m [64] (by omega)) rfl (.inl rfl) ?_
 have hcl:=qjB m [64]
 have hD:qkh m=(cutF m [64]).2.1:=rfl
 rw [hD]
 generalize cutF m [64]=cq at *
 refine zS ?_
 refine qae (fun n fr L=>∃ (s:List UInt8),s.length=n∧(s.length≤1000000)∧(refD some' cq.2.1.length cq.2.1=refD some' s.length s)∧fr=(oo::.p (.sl 3 (parE some'))::.p (.str m)::oo::oo::oo::.adr (.l 6) 0::oo::oo::oo::oo::.p (.str s)::oF (oE (oB (oo::[]))))∧L=[(.l 6,.box [.p (.str []),.p (int 0),.p (int 0)] qo5)]) ((cq.2.1).length) _ _ zF_ zF_ ⟨cq.2.1,rfl,by omega,rfl,rfl,rfl⟩ ?_
 rintro n fr L ⟨s,rfl,hsl,hrf,rfl,rfl⟩
 simp only [qdr,ZZ,WW,Ze,reduceCtorEq,zd,ze,za,zf,zb]
 rw [hrf]
 simp only [ZZ,WW,Ze,reduceCtorEq,zd,ze,za,zf,zb,qay]
 refine qae (fun n fr L=>∃ (k:Nat),k≤some'.length∧n=some'.length - k∧(∀ x∈some'.take k,x.1≠s)∧fr=(oo::.p (.sl 3 (parE some'))::.p (.str m)::oo::oo::oo::.adr (.l 6) 0::oo::oo::oo::oo::.p (.str s)::oE (oD (.p (.sl 3 (parE some'))::.p (int (some'.length:Nat))::.p (int (k:Nat))::oE (oD []))))∧L=[(.l 6,.box [.p (.str []),.p (int 0),.p (int 0)] qo5)]) (some'.length) _ _ (by simp only [ZZ,WW,Ze,reduceCtorEq,zd,ze,za,zf,zb,qay];try trivial) zF_ ⟨0,by omega,by omega,by simp,rfl,rfl⟩ ?_
 rintro n fr L ⟨k,hk,rfl,hno2,rfl,rfl⟩
 simp only [qdq,ZZ,WW,Ze,reduceCtorEq,zd,ze,za,zf,zb]
 refine br ?_ ?_
 ·intro h
  have hlt:k < some'.length:=by have:=of_decide_eq_true h;omega
  obtain ⟨x,hx⟩:∃ x,some'[k]?=some x:=⟨_,zh hlt⟩
  have hg:=qct hx
  simp only [ZZ,WW,Ze,reduceCtorEq,zd,ze,za,zf,zb,hg,qay]
  ((with_reducible and_intros)<;>try exact sc_)
  refine br ?_ ?_
  ·intro he
   have he:x.1=s:=of_decide_eq_true he
   refine zS ?_
   rw [qvy some' (qrR hno2 hx he)]
   rfl
  ·intro he
   have he:x.1≠s:=of_decide_eq_false he
   refine zS ?_
   refine ⟨qam (by omega) (by omega),?_⟩
   refine qab (some'.length - (k+1)) _ _ (by omega) zF_ zF_ ⟨k+1,by omega,rfl,qs2 hno2 hx he,rfl,rfl⟩
 intro h
 have hge:k=some'.length:=by have:=of_decide_eq_false h;omega
 subst hge
 rw [ya] at hno2
 refine zS ?_
 refine use1 (qqh s [46] (by omega)) rfl (.inl rfl) ?_
 have hnf:=qpL hno2
 have hnext:=qtt some' hnf
 have hstop:=qtr some' hnf
 have hlt:(cutF s [46]).2.2=true→(cutF s [46]).2.1.length < s.length:=by
  intro hc
  rcases qlY s 46 with ⟨a,b,h1,_,h3⟩|⟨_,h2⟩
  ·rw [h3,h1];simp;omega
  ·rw [h2] at hc;cases hc
 have hcl2:=qjB s [46]
 generalize cutF s [46]=r at *
 refine zS ?_
 refine br ?_ ?_
 ·intro hc
  have hc:r.2.2=false:=by rwa [yb] at hc
  refine zS ?_
  rw [hstop hc]
  rfl
 ·intro hc
  have hc:r.2.2=true:=by rwa [Bool.not_eq_false'] at hc
  refine zS ?_
  refine qab ((r.2.1).length) _ _ (hlt hc) zF_ zF_ ⟨r.2.1,rfl,by omega,hnext hc,rfl,rfl⟩
def qcc:IC:=(sR [qT 30 .lss 29 28] (.seq (jE 30) (.seq (.block 1 (sR [qM 31 29,qX 32 1 27 29,qL 33 32,qM 4 31,qM 5 33] (sR [qM 34 5,jC 35 100 [.t 34],qM 36 4,qB 37 .gtr 36 (cI 0),qM 38 37,⟨some 39,.mov (.t 5),(some (38,true))⟩,⟨some 40,.fla 3 (.t 1),(some (38,true))⟩,⟨some 41,.ld 1 false (.t 40),(some (38,true))⟩,⟨some 42,.mov (.t 4),(some (38,true))⟩,⟨some 43,.mx (.t 42) (cI 1),(some (38,true))⟩,⟨some 44,.bin .sub (.t 43) (cI 1),(some (38,true))⟩,⟨some 45,.ixa 1 (.t 41) (.t 44),(some (38,true))⟩,⟨some 46,.ld 1 false (.t 45),(some (38,true))⟩,⟨some 47,.bin .leq (.t 39) (.t 46),(some (38,true))⟩,qO 48 (.pick (.t 38) (.t 47) (.c (.bool false))),jC 49 99 [.t 48,.c (.int .i64 7)],qO 50 (.bsl 1 [.t 35,.t 49]),jC 51 38 [.t 50],qM 6 51] (sR [qM 52 6,qB 53 .neq 52 (cI 0)] (jW 53 (sR [qM 54 6,qM 2 54] .ret)))))) (.reg [qB 55 .add 29 (cI 1),qM 29 55]))))
abbrev qfx:IC:=(sR [qO 1 (.box 30 (.t 0)),jI 2 0] (.seq (.seq (.drg [wF 7 0 1,qL 8 7,qO 9 (.pcall 0 96 [.t 8]),wF 10 1 1,qL 11 10,qO 12 (.pcall 1 97 [.t 11]),wF 13 2 1,qL 14 13,qO 15 (.pcall 2 98 [.t 14]),wF 16 3 1,qL 17 16,qN 18 17,qB 19 .gtr 18 (cI 200),qO 20 (.pcall 3 99 [.t 19,.c (.int .i64 2)]),qO 21 (.bsl 1 [.t 9,.t 12,.t 15,.t 20]),qO 22 (.pcall 4 38 [.t 21]),qM 3 22]) (sR [qM 23 3,qB 24 .neq 23 (cI 0)] (jW 24 (sR [qM 25 3,qM 2 25] .ret)))) (.seq (sR [wF 26 3 1,qL 27 26,qN 28 27,jI 29 0] (.block 0 (.loop qcc))) (sR [jI 2 0] .ret))))
theorem qfM:chkF Tryz.prog Tryz.f39 qfx [.t 2] 56=true:=by kernel_rfl
def qcl:IC:=(sR [qT 28 .lss 27 26] (.seq (jE 28) (.seq (.block 1 (sR [qM 29 27,qX 30 1 25 27,qL 31 30,qM 4 29,qM 5 31] (.seq (sR [qM 32 5,jC 33 45 [.t 32],qO 34 (.not (.t 33))] (jW 34 (sR [jI 2 3] .ret))) (sR [qM 35 4,qB 36 .gtr 35 (cI 0),qM 37 36,⟨some 38,.mov (.t 5),(some (37,true))⟩,⟨some 39,.fla 3 (.t 1),(some (37,true))⟩,⟨some 40,.ld 1 false (.t 39),(some (37,true))⟩,⟨some 41,.mov (.t 4),(some (37,true))⟩,⟨some 42,.bin .sub (.t 41) (cI 1),(some (37,true))⟩,⟨some 43,.ixa 1 (.t 40) (.t 42),(some (37,true))⟩,⟨some 44,.ld 1 false (.t 43),(some (37,true))⟩,⟨some 45,.bin .leq (.t 38) (.t 44),(some (37,true))⟩,qO 46 (.pick (.t 37) (.t 45) (.c (.bool false)))] (jW 46 (sR [jI 2 7] .ret)))))) (.reg [qB 47 .add 27 (cI 1),qM 27 47]))))
abbrev qfD:IC:=(sR [qO 1 (.box 30 (.t 0)),jI 2 0] (.seq (.seq (.drg [wF 6 0 1,qL 7 6,qO 8 (.pcall 0 42 [.t 7]),wF 9 1 1,qL 10 9,qO 11 (.pcall 1 43 [.t 10]),wF 12 2 1,qL 13 12,qO 14 (.pcall 2 44 [.t 13]),qO 15 (.bsl 1 [.t 8,.t 11,.t 14]),qO 16 (.pcall 3 8 [.t 15]),qM 3 16]) (sR [qM 17 3,qB 18 .neq 17 (cI 0)] (jW 18 (sR [qM 19 3,qM 2 19] .ret)))) (.seq (sR [wF 20 3 1,qL 21 20,qN 22 21,qB 23 .gtr 22 (cI 200)] (jW 23 (sR [jI 2 2] .ret))) (.seq (sR [wF 24 3 1,qL 25 24,qN 26 25,jI 27 0] (.block 0 (.loop qcl))) (sR [jI 2 0] .ret)))))
theorem qfS:chkF Tryz.prog Tryz.f9 qfD [.t 2] 48=true:=by kernel_rfl
def cirV (P D:List Par) (Ts X:List (List UInt8)):List PV:=[.sl 3 (parE P),.sl 3 (parE D),.sl 1 (strE Ts),.sl 1 (strE X)]
theorem qyZ (P D:List Par) (Ts X:List (List UInt8)):circ P D Ts X=cirV P D Ts X:=rfl
structure CB (P D:List Par) (Ts X:List (List UInt8)):Prop where
 h1:P.length≤1000000
 h2:∀ p∈P,p.1.length≤1000000
 h3:D.length≤1000000
 h4:∀ p∈D,p.1.length≤1000000
 h5:Ts.length≤1000000
 h6:∀ t∈Ts,t.length≤25000
 h7:X.length≤1000000
 h8:∀ x∈X,x.length≤1000000
def pubE (X:List (List UInt8)) (k:Nat):Int:=qaf [qap (!qcN (X.getD k [])) 3,qap (decide (0 < k) && leS (X.getD k []) (X.getD (k - 1) [])) 7]
def cir3 (P D:List Par) (Ts:List (List UInt8)):Int:=qaf [qb8 P,qbu D,qfn Ts]
def cir4 (P D:List Par) (Ts X:List (List UInt8)):Int:=qaf [qb8 P,qbu D,qfn Ts,qap (decide (200 < (X.length:Int))) 2]
def cirF (P D:List Par) (Ts X:List (List UInt8)):Int:=if cir4 P D Ts X=0 then qaf ((zz X.length).map (pubE X)) else cir4 P D Ts X
theorem qBZ (P D:List Par) (Ts X:List (List UInt8)):cir4 P D Ts X=if cir3 P D Ts=0 then qap (decide (200 < (X.length:Int))) 2 else cir3 P D Ts:=by
 unfold cir4 cir3
 by_cases h1:qb8 P=0<;>by_cases h2:qbu D=0<;>by_cases h3:qfn Ts=0<;>simp [qaf,h1,h2,h3]<;>exact fun h=>h.symm
set_option maxHeartbeats 4000000 in
theorem qfj (P D:List Par) (Ts X:List (List UInt8)) (hB:CB P D Ts X):PCall Tryz.prog E0 39 [.agg (cirV P D Ts X)] (·=int (cirF P D Ts X)):=by
 refine qag mixed Tryz.func39 qfM ?_
 refine zV ?_
 simp only [cirV,ZZ,WW,Ze,reduceCtorEq,zd,ze,za,zf,zb]
 refine drg5 (x1:=int (qb8 P)) (x2:=int (qbu D)) (x3:=int (qfn Ts)) (x4:=int (qap (decide (200 < (X.length:Int))) 2)) (x5:=int (cir4 P D Ts X)) ?_
 simp only [ZZ,WW,Ze,reduceCtorEq,zd,ze,za,zf,zb,qac]
 ((repeat' (with_reducible apply And.intro))<;>try (first|exact usep (qmT P hB.h1 hB.h2) rfl (.inl rfl)|exact usep (qlX D hB.h3 hB.h4) rfl (.inl rfl)|exact usep (qoV Ts hB.h5 hB.h6) rfl (.inl rfl)|exact usep (qbC _ _) rfl (.inl rfl)|exact usep (qbv [_,_,_,_] (by simp)) rfl (.inl rfl)|(exact sc_)))
 refine br ?_ ?_
 ·intro h
  have h:¬ cir4 P D Ts X=0:=by simpa using h
  refine zS ?_
  rw [cirF,if_neg h]
 intro h
 have h0:cir4 P D Ts X=0:=by simpa using h
 simp only [ZZ,WW,Ze,reduceCtorEq,zd,ze,za,zf,zb,qac]
 rw [show cirF P D Ts X=qaf ((zz X.length).map (pubE X)) from by rw [cirF,if_pos h0]]
 have hget:=fun {k:Nat} (h:k < X.length)=>qaK _ k _ (qeO (pubE X) h)
 generalize hG:(zz X.length).map (pubE X)=G at *
 have hGl:G.length=X.length:=by rw [← hG];simp
 have hXl:=hB.h7
 refine qae (fun n fr L=>∃ (k:Nat),k≤X.length∧n=X.length - k∧(qaf G=qaf (G.drop k))∧fr=(oo::.adr (.l 1) 0::oE (oD (oo::(.p (.sl 1 (strE X))::.p (int (X.length:Nat))::.p (int (k:Nat))::oE (oD (oB []))))))∧L=[(.l 1,.box [.p (.sl 3 (parE P)),.p (.sl 3 (parE D)),.p (.sl 1 (strE Ts)),.p (.sl 1 (strE X))] qa0)]) (X.length) _ _ (by simp only [ZZ,WW,Ze,reduceCtorEq,zd,ze,za,zf,zb,qac];try trivial) zF_ ⟨0,by omega,by omega,by simp,rfl,rfl⟩ ?_
 rintro n fr L ⟨k,hk,rfl,hf,rfl,rfl⟩
 simp only [qcc,ZZ,WW,Ze,reduceCtorEq,zd,ze,za,zf,zb]
 refine br ?_ ?_
 ·intro h
  have hlt:k < X.length:=by have:=of_decide_eq_true h;omega
  obtain ⟨x,hx⟩:∃ x,X[k]?=some x:=⟨_,zh hlt⟩
  obtain ⟨y,hy⟩:∃ y,X[k - 1]?=some y:=⟨_,zh (by omega)⟩
  have hg:=qaD hx
  have hg2:=qaD hy
  have hxd:X.getD k []=x:=by simp [zy,hx]
  have hyd:X.getD (k - 1) []=y:=by simp [zy,hy]
  have hbx:=hB.h8 x (zl hx)
  have hd:=hget hlt
  have hn1:(max (k:Int) 1 - 1).toNat=k - 1:=by omega
  have he:qaf [qap (!qcN x) 3,qap (decide (0 < (k:Int)) && (bytesLess x y || decide (x=y))) 7]=pubE X k:=by
   rw [pubE,hxd,hyd,leS]
   have:decide (0 < (k:Int))=decide (0 < k):=by simp
   rw [this]
  simp only [ZZ,WW,Ze,reduceCtorEq,zd,ze,za,zf,zb,hg,qac]
  ((with_reducible and_intros)<;>try exact sc_)
  refine use1 (qkz x (by omega)) rfl (.inl rfl) ?_
  simp only [ZZ,WW,Ze,reduceCtorEq,zd,ze,za,zf,zb,hn1,hg2,qac]
  ((with_reducible and_intros)<;>try exact sc_)
  refine use1 (qbC _ _) rfl (.inl rfl) ?_
  refine zS ?_
  refine use1 (qbv [_,_] (by simp)) rfl (.inl rfl) ?_
  rw [he]
  refine zS ?_
  refine br ?_ ?_
  ·intro h7
   have:¬ pubE X k=0:=by simpa using h7
   refine zS ?_
   rw [hf,hd,if_neg this]
  intro h7
  have:pubE X k=0:=by simpa using h7
  refine zS ?_
  refine ⟨qam (by omega) (by omega),?_⟩
  refine qab (X.length - (k+1)) _ _ (by omega) zF_ zF_ ⟨k+1,by omega,rfl,by rw [hf,hd,if_pos this],rfl,rfl⟩
 ·intro h
  have hge:X.length≤k:=by have:=of_decide_eq_false h;omega
  refine zS ?_
  rw [hf,zU (by omega)]
  rfl
set_option maxHeartbeats 4000000 in
theorem qmS (P D:List Par) (Ts X:List (List UInt8)) (hB:CB P D Ts X):PCall Tryz.prog E0 9 [.agg (cirV P D Ts X)] (·=int (cirF P D Ts X)):=by
 refine qag mixed Tryz.func9 qfS ?_
 refine zV ?_
 simp only [cirV,ZZ,WW,Ze,reduceCtorEq,zd,ze,za,zf,zb]
 refine drg4 (x1:=int (qb8 P)) (x2:=int (qbu D)) (x3:=int (qfn Ts)) (x4:=int (cir3 P D Ts)) ?_
 simp only [ZZ,WW,Ze,reduceCtorEq,zd,ze,za,zf,zb,qac]
 ((repeat' (with_reducible apply And.intro))<;>try (first|exact usep (qmO P hB.h1 hB.h2) rfl (.inl rfl)|exact usep (qmm D hB.h3 hB.h4) rfl (.inl rfl)|exact usep (qoK Ts hB.h5 hB.h6) rfl (.inl rfl)|exact usep (qwP [_,_,_] (by simp)) rfl (.inl rfl)|(exact sc_)))
 have h43:=qBZ P D Ts X
 refine br ?_ ?_
 ·intro h
  have h:¬ cir3 P D Ts=0:=by simpa using h
  rw [if_neg h] at h43
  refine zS ?_
  rw [cirF,if_neg (by rw [h43];exact h),h43]
 intro h
 have h0:cir3 P D Ts=0:=by simpa using h
 rw [if_pos h0] at h43
 simp only [ZZ,WW,Ze,reduceCtorEq,zd,ze,za,zf,zb,qac]
 refine br ?_ ?_
 ·intro h2
  have h3:cir4 P D Ts X=2:=by rw [h43,h2];rfl
  refine zS ?_
  rw [cirF,h3,if_neg (by decide)]
 intro h2
 have h3:cir4 P D Ts X=0:=by rw [h43,h2];rfl
 simp only [ZZ,WW,Ze,reduceCtorEq,zd,ze,za,zf,zb,qac]
 rw [show cirF P D Ts X=qaf ((zz X.length).map (pubE X)) from by rw [cirF,if_pos h3]]
 have hget:=fun {k:Nat} (h:k < X.length)=>qaK _ k _ (qeO (pubE X) h)
 generalize hG:(zz X.length).map (pubE X)=G at *
 have hGl:G.length=X.length:=by rw [← hG];simp
 have hXl:=hB.h7
 refine qae (fun n fr L=>∃ (k:Nat),k≤X.length∧n=X.length - k∧(qaf G=qaf (G.drop k))∧fr=(oo::.adr (.l 1) 0::oE (oC (oB (oo::(.p (.sl 1 (strE X))::.p (int (X.length:Nat))::.p (int (k:Nat))::oE (oC []))))))∧L=[(.l 1,.box [.p (.sl 3 (parE P)),.p (.sl 3 (parE D)),.p (.sl 1 (strE Ts)),.p (.sl 1 (strE X))] qa0)]) (X.length) _ _ (by simp only [ZZ,WW,Ze,reduceCtorEq,zd,ze,za,zf,zb,qac];try trivial) zF_ ⟨0,by omega,by omega,by simp,rfl,rfl⟩ ?_
 rintro n fr L ⟨k,hk,rfl,hf,rfl,rfl⟩
 simp only [qcl,ZZ,WW,Ze,reduceCtorEq,zd,ze,za,zf,zb]
 refine br ?_ ?_
 ·intro h
  have hlt:k < X.length:=by have:=of_decide_eq_true h;omega
  obtain ⟨x,hx⟩:∃ x,X[k]?=some x:=⟨_,zh hlt⟩
  obtain ⟨y,hy⟩:∃ y,X[k - 1]?=some y:=⟨_,zh (by omega)⟩
  have hg:=qaD hx
  have hg2:=qaD hy
  have hxd:X.getD k []=x:=by simp [zy,hx]
  have hyd:X.getD (k - 1) []=y:=by simp [zy,hy]
  have hbx:=hB.h8 x (zl hx)
  have hd:=hget hlt
  have hn1:((k:Int) - 1).toNat=k - 1:=by omega
  have he:pubE X k=qaf [qap (!qcN x) 3,qap (decide (0 < k) && (bytesLess x y || decide (x=y))) 7]:=by
   rw [pubE,hxd,hyd,leS]
  simp only [ZZ,WW,Ze,reduceCtorEq,zd,ze,za,zf,zb,hg,qac]
  ((with_reducible and_intros)<;>try exact sc_)
  refine use1 (qjV x (by omega)) rfl (.inl rfl) ?_
  refine zS ?_
  refine br ?_ ?_
  ·intro hm
   have hm:qcN x=false:=by rwa [yb] at hm
   have he:pubE X k=3:=by rw [he,hm];rfl
   refine zS ?_
   rw [hf,hd,he]
   rfl
  intro hm
  have hm:qcN x=true:=by rwa [Bool.not_eq_false'] at hm
  simp only [ZZ,WW,Ze,reduceCtorEq,zd,ze,za,zf,zb,hn1,hg2,qac]
  ((with_reducible and_intros)<;>try exact sc_)
  refine br ?_ ?_
  ·intro ho
   have ho:(decide (0 < k) && (bytesLess x y || decide (x=y)))=true:=by simpa using ho
   have he:pubE X k=7:=by rw [he,hm,ho];rfl
   refine zS ?_
   rw [hf,hd,he]
   rfl
  intro ho
  have ho:(decide (0 < k) && (bytesLess x y || decide (x=y)))=false:=by
   have:decide (0 < (k:Int))=decide (0 < k):=by simp
   rwa [this] at ho
  have he:pubE X k=0:=by rw [he,hm,ho];rfl
  refine zS ?_
  refine ⟨qam (by omega) (by omega),?_⟩
  refine qab (X.length - (k+1)) _ _ (by omega) zF_ zF_ ⟨k+1,by omega,rfl,by rw [hf,hd,if_pos he],rfl,rfl⟩
 ·intro h
  have hge:X.length≤k:=by have:=of_decide_eq_false h;omega
  refine zS ?_
  rw [hf,zU (by omega)]
  rfl
def qbp:IC:=(sR [qT 9 .lss 8 7] (.seq (jE 9) (.seq (.block 1 (sR [qM 10 8,qM 5 10] (sR [qM 11 1,qM 12 0,qM 13 5,qX 14 1 12 13,qL 15 14,qT 16 .eql 11 15] (jW 16 (sR [qM 17 5,qM 4 17] .ret))))) (.reg [qB 18 .add 8 (cI 1),qM 8 18]))))
abbrev qd6:IC:=(sR [jI 4 0] (.seq (sR [qM 6 0,qN 7 6,jI 8 0] (.block 0 (.loop qbp))) (sR [jI 4 (-1)] .ret)))
theorem qea:chkF Tryz.prog Tryz.f82 qd6 [.t 4] 19=true:=by kernel_rfl
abbrev qdC:IC:=(sR [qO 4 (.mov (.c (.bool false)))] (sR [qM 5 0,qM 6 1,jC 7 82 [.t 5,.t 6],qB 8 .geq 7 (cI 0),qM 4 8] .ret))
theorem qdD:chkF Tryz.prog Tryz.f58 qdC [.t 4] 9=true:=by kernel_rfl
def idxS (l:List (List UInt8)) (x:List UInt8) (k:Nat):Int:=if h:k < l.length then (if x=l[k] then k else idxS l x (k+1)) else -1
termination_by l.length - k
theorem quT (l:List (List UInt8)) (x:List UInt8) (hl:l.length≤1000000000):PCall Tryz.prog E0 82 [.sl 1 (strE l),.str x] (·=int (idxS l x 0)):=by
 refine qag mixed Tryz.func82 qea ?_
 refine zV ?_
 simp only [ZZ,WW,Ze,reduceCtorEq,zd,ze,za,zf,zb,qac]
 refine qae (fun n fr L=>∃ (k:Nat),k≤l.length∧n=l.length - k∧(idxS l x 0=idxS l x k)∧fr=(.p (.sl 1 (strE l))::.p (.str x)::oC (oo::(.p (int (l.length:Nat))::.p (int (k:Nat))::oD (oB []))))∧L=[]) (l.length) _ [] (by simp only [ZZ,WW,Ze,reduceCtorEq,zd,ze,za,zf,zb,qac];try trivial) zF_ ⟨0,by omega,by omega,rfl,rfl,rfl⟩ ?_
 rintro n fr L ⟨k,hk,rfl,hf,rfl,rfl⟩
 simp only [qbp,ZZ,WW,Ze,reduceCtorEq,zd,ze,za,zf,zb]
 refine br ?_ ?_
 ·intro h
  have hlt:k < l.length:=by have:=of_decide_eq_true h;omega
  have hg:=qaD (zh hlt)
  simp only [ZZ,WW,Ze,reduceCtorEq,zd,ze,za,zf,zb,hg,qac]
  ((with_reducible and_intros)<;>try exact sc_)
  refine br ?_ ?_
  ·intro h2
   have h2:x=l[k]:=of_decide_eq_true h2
   refine zS ?_
   rw [hf,idxS,dif_pos hlt,if_pos h2]
  ·intro h2
   have h2:¬ x=l[k]:=of_decide_eq_false h2
   refine zS ?_
   ((with_reducible and_intros)<;>try exact sc_)
   refine qab (l.length - (k+1)) _ [] (by omega) zF_ zF_ ⟨k+1,by omega,rfl,by rw [hf,idxS,dif_pos hlt,if_neg h2],rfl,rfl⟩
 ·intro h
  have hge:¬ k < l.length:=by have:=of_decide_eq_false h;omega
  refine zS ?_
  rw [hf,idxS,dif_neg hge]
theorem qv6 (l:List (List UInt8)) (x:List UInt8):∀ (n k:Nat),l.length - k≤n→(0≤idxS l x k↔x∈l.drop k):=by
 intro n
 induction n with
 |zero=>
  intro k hk
  rw [idxS,dif_neg (by omega),zU (by omega)]
  simp
 |succ n ih=>
  intro k hk
  rw [idxS]
  split
  ·rename_i h
   rw [List.drop_eq_getElem_cons h,zo]
   split
   ·rename_i e;simp [e]
   ·rename_i e
    rw [ih (k+1) (by omega)]
    simp [e]
  ·rename_i h
   rw [zU (by omega)]
   simp
theorem qbk (l:List (List UInt8)) (x:List UInt8) (hl:l.length≤1000000000):PCall Tryz.prog E0 58 [.sl 1 (strE l),.str x] (·=.bool (decide (x∈l))):=by
 refine qag mixed Tryz.func58 qdD ?_
 refine zV ?_
 refine use1 (quT l x hl) rfl (.inl rfl) ?_
 refine zS ?_
 have:=qv6 l x _ 0 (zO _)
 rw [List.drop_zero] at this
 simp only [this]
end Go.Proofs.YtekhobchfhhofaaGreatDoor
namespace Go.Proofs.YtekhobchfhhofaaGreatDoor
open List renaming eq_nil_of_length_eq_zero→zw,getElem?_eq_none→zY,replicate→zL
open Option renaming isSome_iff_exists→zT
open Go.Lib Go.RowKit Go.Shelf Go.Sort
def sE (l:List UInt8):Value:=.string ⟨l.toArray⟩
theorem strE_vals {w:World} {U:Nat→Prop}:∀ {l:List (List UInt8)} {vs:List Value},PRepL w U (strE l).flatten vs↔vs=l.map sE
 |[],vs=>by simp [strE,PRepL]
 |c :: r,vs=>by
  have ih:∀ vs,PRepL w U (strE r).flatten vs↔vs=r.map sE:=fun vs=>strE_vals
  simp only [strE,List.map_cons,List.flatten_cons,List.cons_append,List.nil_append,PRepL,PRep] at ih ⊢
  constructor
  ·rintro ⟨v,r',rfl,rfl,h⟩
   rw [(ih r').1 h]
   rfl
  ·rintro rfl
   exact ⟨_,_,rfl,rfl,(ih _).2 rfl⟩
theorem qnJ {w:World} {U:Nat→Prop} {b:Nat}:∀ (l:List (List UInt8)) (off:Nat),(∀ i u,(l.map sE)[i]?=some u→w.cell? ⟨b,off+i,none⟩=some u)→PRepE w U b 1 off (strE l)
 |[],off,h=>trivial
 |x :: r,off,h=>by
  refine ⟨rfl,⟨⟨.string ⟨x.toArray⟩,by simpa [sE] using h 0 _ rfl,rfl,rfl⟩,trivial⟩,qnJ r (off+1) fun i u hu=>?_⟩
  have:=h (i+1) u (by simpa using hu)
  rwa [show off+(i+1)=off+1+i from by omega] at this
theorem qtf {E:Envt} (et:Nat) (l:List (List UInt8)) (hl:l.length≤1000000000000):RCall Tryz.prog E 147 et 1 (strE l) [] (fun x es'=>x=.tup []∧es'=strE (l.mergeSort fun x y=>decide (x≤y))):=by
 intro w U vs v0 hU hE hEb hA hB
 obtain ⟨hB1,us,hrow,h1,hrep,hz⟩:=hB
 simp only [PRepL] at hA
 subst hA
 rw [strE_vals] at hrep
 subst hrep
 rw [qac] at hrow
 have hml:(l.mergeSort fun x y=>decide (x≤y)).length=l.length:=List.length_mergeSort _
 rcases hrow.2 with ⟨rfl,hn⟩|⟨b,cap,cur,fz,rfl,hg,hn,hcap,hcs,htk,hfz⟩
 ·have hl0:l=[]:=zw hn
  subst hl0
  refine (AnyM.slices_Sort_string_none Tryz.laySort none 0 w).mono ?_
  rintro e w' ⟨rfl,rfl⟩
  exact ⟨_,.p (.tup []),.row et 1 [],rfl,⟨_,_,rfl,rfl,rfl,by simp [strE]⟩,⟨[],rfl,by simp [PRepL]⟩,Grow.refl _ _,⟨[],⟨by simp,.inl ⟨rfl,rfl⟩⟩,by simp,by simp [PRepL],by simp⟩⟩
 ·have hf0:fz=(0,0):=by rcases hfz with h|h;exact h;exact absurd h.1 (by simp)
  subst hf0
  have hb:b < w.heap.size:=by
   rcases Nat.lt_or_ge b w.heap.size with h|h
   ·exact h
   ·rw [Array.getElem?_eq_none h] at hg;cases hg
  simp only [Nat.mul_one] at htk hcs
  have hH:Holds encStr w b 0 l.toArray:=by
   intro j hj
   have hj':j < l.length:=by simpa using hj
   have e1:cur[j]?=some (encStr l.toArray[j]!):=by
    rw [← Array.getElem?_toList,← List.getElem?_take_of_lt hj',htk,List.getElem?_map,List.getElem?_eq_getElem hj',getElem!_pos l.toArray j hj]
    rfl
   refine ⟨?_,?_⟩
   ·simp only [World.cell?,hg]
    simpa using e1
   ·simp [World.frozen?,hg]
  refine (AnyM.slices_Sort_string Tryz.laySort b 0 cap l w hH hb (by omega)).mono ?_
  rintro e w' ⟨rfl,n,os,rfl⟩
  generalize (l.mergeSort fun x y=>decide (x≤y))=m at *
  have hblk:∀ c,c≠b→c < w.heap.size→(grow (putRow encStr (Sort.ahead w n) b 0 m.toArray) os).heap[c]?=w.heap[c]?:=by
   intro c hc hlt
   simp only [grow,putRow,mapBlock]
   rw [Array.getElem?_append_left (by simpa using hlt),Array.getElem?_modify,if_neg (fun e=>hc e.symm)]
   rfl
  have hnew:(grow (putRow encStr (Sort.ahead w n) b 0 m.toArray) os).heap[b]?=some (.cells (putCells encStr 0 m.toArray cur) et (0,0)):=by
   simp only [grow,putRow,mapBlock]
   rw [Array.getElem?_append_left (by simpa using hb),Array.getElem?_modify,if_pos rfl]
   show Option.map _ w.heap[b]?=_
   rw [hg]
   rfl
  have hGr:Grow w (grow (putRow encStr (Sort.ahead w n) b 0 m.toArray) os) (fun c=>blk (.slice (some ⟨b,0,none⟩) l.length cap)=some c):=by
   refine ⟨rfl,rfl,rfl,?_,fun c hc hne=>hblk c (fun e=>hne (by rw [e];rfl)) hc⟩
   simp [grow,putRow,mapBlock,Sort.ahead]
  refine ⟨_,.p (.tup []),.row et 1 (strE m),rfl,⟨_,_,rfl,rfl,rfl,rfl⟩,⟨[],rfl,by simp [PRepL]⟩,hGr,?_⟩
  refine ⟨m.map sE,⟨by rw [qac];simp,.inr ⟨b,cap,_,(0,0),by rw [qac,hml],hnew,by rw [qac,hml];exact hn,hcap,by simp [putCells,hcs],?_,.inl rfl⟩⟩,?_,strE_vals.2 rfl,?_⟩
  ·rw [qac]
   apply List.ext_getElem?
   intro j
   by_cases hj:j < m.length
   ·rw [List.getElem?_take_of_lt (by simpa using hj),Array.getElem?_toList]
    simp only [putCells,Array.getElem?_mapIdx]
    rw [Array.getElem?_eq_getElem (by omega),Option.map_some,if_pos ⟨Nat.zero_le _,by simpa using hj⟩,Nat.sub_zero,getElem!_pos _ j (by simpa using hj)]
    simp [hj,sE]
   ·rw [zY (by rw [List.length_take];omega),zY (by simp;omega)]
  ·intro u hu
   obtain ⟨x,_,rfl⟩:=List.mem_map.1 hu
   rfl
  ·intro x hx
   simp only [strE,List.mem_map] at hx
   obtain ⟨y,_,rfl⟩:=hx
   rfl
theorem qno (l:List (List UInt8)):(Lib.compact l).length≤l.length:=by
 unfold Lib.compact Lib.compactUpTo
 rw [List.length_map]
 exact Nat.le_trans (List.length_filter_le _ _) (by simp)
section
variable {E:Envt} {L:Objs} {k:Key} {fr:List AV} {d:Option Nat} {is:List IOper} {Y:List PV} {K:List AV→Objs→Prop}
theorem qxm (i:Nat) (l:List (List UInt8)) (hlen:l.length≤1000000000) (hlk:Zas L k=some (.row (strE l) 9 1 true))
  (hk:qaa Tryz.prog E Y is (Zg (fr.map (·.kill (.l i))) d (.p (.sl 1 (strE (Lib.compact l))))) (delO L k) K):qbr Tryz.prog E 154 [.row k] L d fr (qd1 Tryz.prog E Y is K):=by
 refine .inr (.inr ⟨i,?_⟩)
 intro w X ι vs hs hX hE hEb hA
 simp only [ARepL,ARep] at hA
 obtain ⟨v1,r1,rfl,⟨rfl,A,n,c,hv⟩,rfl⟩:=hA
 obtain ⟨us,u1,u2,u3,u4⟩:=hs.obj k _ hlk
 rw [strE_vals] at u3
 subst u3
 have hown:=u1.owns
 rw [qac] at hown
 by_cases hne:ι k=.slice none 0 0
 ·have hl0:l=[]:=by
   rcases hown.2 with ⟨_,h0⟩|⟨q,cap,cur,h1,_⟩
   ·exact zw h0
   ·rw [hne] at h1;cases h1
  subst hl0
  rw [hne]
  refine (Any.slices_Compact_string_empty Tryz.layCompact none 0 w).mono ?_
  rintro e w' ⟨rfl,rfl⟩
  have hsub:∀ j a,Zas (delO L k) j=some a→Zas L j=some a:=by
   intro j a hj
   rw [qhf] at hj
   by_cases e:j=k
   ·rw [if_pos e] at hj;cases hj
   ·rwa [if_neg e] at hj
  have hown3:∀ x,Own (delO L k) ι x→Own L ι x:=fun x ⟨j,a,h1,h2⟩=>⟨j,a,hsub j a h1,h2⟩
  have hkp:Keeps w' w' (fun x=>Own L ι x∨X x) (fun x=>Own (delO L k) ι x∨X x):=fun x hx hu=>⟨rfl,fun h=>hu (h.imp (hown3 x) id)⟩
  refine ⟨_,.p (.sl 1 (strE (Lib.compact []))),delO L k,ι,rfl,hk,?_,⟨⟨?_,fun j j' a a' x h1 h2 h3 h4=>hs.inj j j' a a' x (hsub j a h1) (hsub j' a' h2) h3 h4⟩,Grow.refl _ _,fun x h=>.inl (hown3 x h),fun j _=>rfl,fun j hj=>?_⟩⟩
  ·show PRep w' _ (.sl 1 (strE (Lib.compact []))) _
   exact ⟨none,0,rfl,by simp [strE,Lib.compact,Lib.compactUpTo],fun h=>absurd rfl h⟩
  ·intro j a h1
   exact ObjOk.mono hkp (fun x hx=>rfl) (hs.obj j a (hsub j a h1))
  ·obtain ⟨a,ha⟩:=zT.1 hj
   exact .inl (by rw [hsub j a ha];rfl)
 obtain ⟨b,cap,hvb,_,hlt,hnc,hcm,_,hH⟩:=Lib.holds_of_ownsRow (enc:=encStr) hown hne
 rw [hvb] at hown
 have hOb:Own L ι b:=⟨k,_,hlk,by rw [hvb];rfl⟩
 have hcall:=Any.slices_Compact_string Tryz.layCompact b 0 cap l w hH (by omega) (by simpa using hnc)
 rw [hvb]
 refine hcall.mono ?_
 rintro e w' ⟨rfl,q,rfl⟩
 have hle:(Lib.compact l).length≤l.length:=qno l
 have hown2:=Lib.ownsRow_putRow (enc:=encStr) (q:=q) (k:=(Lib.compact l).length) (ys:=(Lib.compact l)++zL (l.length - (Lib.compact l).length) []) hown (by simp;omega) hle
 rw [List.take_left' rfl] at hown2
 generalize hW:putRow encStr (Sort.ahead w q) b 0 ((Lib.compact l)++zL (l.length - (Lib.compact l).length) []).toArray=w1 at hown2 ⊢
 have hG:Grow w w1 (fun x=>x=b):=by
  rw [← hW]
  refine ⟨rfl,rfl,rfl,by simp [putRow,mapBlock,Sort.ahead],fun x hx hn=>?_⟩
  simp [putRow,mapBlock,Sort.ahead,Array.getElem?_modify,show b≠x from fun e=>hn e.symm]
 have hsub:∀ j a,Zas (delO L k) j=some a→j≠k∧Zas L j=some a:=by
  intro j a hj
  rw [qhf] at hj
  by_cases e:j=k
  ·rw [if_pos e] at hj;cases hj
  ·rw [if_neg e] at hj;exact ⟨e,hj⟩
 have hown3:∀ x,Own (delO L k) ι x→Own L ι x:=fun x ⟨j,a,h1,h2⟩=>⟨j,a,(hsub j a h1).2,h2⟩
 have hnb:¬ (Own (delO L k) ι b∨X b):=by
  rintro (⟨j,a,h1,h2⟩|h)
  ·obtain ⟨e,h3⟩:=hsub j a h1
   exact e (hs.inj j k a _ b h3 hlk h2 (by rw [hvb];rfl))
  ·exact (hX b h).2 hOb
 have hgrow:Grow w w1 (Own L ι):=⟨hG.os,hG.tape,hG.output,hG.size,fun x hx hn=>hG.block x hx (fun e=>hn (by rw [e];exact hOb))⟩
 have hkp:Keeps w w1 (fun x=>Own L ι x∨X x) (fun x=>Own (delO L k) ι x∨X x):=fun x hx hu=>⟨hgrow.block x hx (fun h=>hu (.inl h)),fun h=>hu (h.imp (hown3 x) id)⟩
 refine ⟨_,.p (.sl 1 (strE (Lib.compact l))),delO L k,ι,rfl,hk,?_,⟨⟨?_,fun j j' a a' x h1 h2 h3 h4=>hs.inj j j' a a' x (hsub j a h1).2 (hsub j' a' h2).2 h3 h4⟩,hgrow,fun x h=>.inl (hown3 x h),fun j _=>rfl,fun j hj=>?_⟩⟩
 ·show PRep w1 _ (.sl 1 (strE _)) _
  refine ⟨some ⟨b,0,none⟩,cap,by rw [qac],by rw [qac];omega,fun _=>⟨b,0,rfl,Nat.lt_of_lt_of_le hlt hG.size,hnb,qnJ _ 0 fun j u hu=>?_⟩⟩
  rw [Nat.zero_add]
  have:=hown2.cells (g:=b) rfl j u hu
  rw [show ({ block:=b,off:=0 }:Addr).add j=⟨b,j,none⟩ from by cases j<;>simp [Addr.add]] at this
  exact this
 ·intro j a h1
  obtain ⟨e,h2⟩:=hsub j a h1
  refine ObjOk.mono hkp (fun x hx=>hG.block x ((hs.obj j a h2).blk_lt hx) (fun ex=>?_)) (hs.obj j a h2)
  subst ex
  exact e (hs.inj j k a _ x h2 hlk hx (by rw [hvb];rfl))
 ·obtain ⟨a,ha⟩:=zT.1 hj
  exact .inl (by rw [(hsub j a ha).2];rfl)
end
end Go.Proofs.YtekhobchfhhofaaGreatDoor
namespace Go.Proofs.YtekhobchfhhofaaGreatDoor
open Nat renaming lt_or_ge→yl,reduceAdd→zd,reduceEqDiff→zb,reduceLT→zf,reduceLeDiff→za,reduceMul→ze
open List renaming getElem?_eq_getElem→zh,getElem?_eq_some_iff→zm,getElem?_of_mem→zW
open Bool renaming false_and→yo
open Go.RowKit
abbrev qiD:IC:=(sR [qO 2 (.mov (.c (.bool false)))] (sR [qM 3 0,qM 4 0,qT 5 .neq 3 4,qM 2 5] .ret))
theorem qiV:chkF Tryz.prog Tryz.f183 qiD [.t 2] 6=true:=by kernel_rfl
abbrev qgG:IC:=(sR [qO 2 (.mov (.c (.bool false)))] (sR [qM 3 0,qM 4 0,qT 5 .neq 3 4,qM 2 5] .ret))
theorem qgQ:chkF Tryz.prog Tryz.f125 qgG [.t 2] 6=true:=by kernel_rfl
abbrev qjs:IC:=(sR [qO 4 (.mov (.c (.bool false)))] (sR [qM 5 0,jC 6 183 [.t 5],qM 7 6,⟨some 8,.mov (.t 1),(some (7,true))⟩,⟨some 9,.call 183 [.t 8],(some (7,true))⟩,⟨some 10,.not (.t 9),(some (7,true))⟩,qO 11 (.pick (.t 7) (.t 10) (.c (.bool false))),qM 12 11,⟨some 13,.mov (.t 0),(some (12,false))⟩,⟨some 14,.mov (.t 1),(some (12,false))⟩,⟨some 15,.bin .lss (.t 13) (.t 14),(some (12,false))⟩,qO 16 (.pick (.t 12) (.c (.bool true)) (.t 15)),qM 4 16] .ret))
theorem qjH:chkF Tryz.prog Tryz.f124 qjs [.t 4] 17=true:=by kernel_rfl
def qa8:IC:=(.seq (sR [qM 13 7,qM 14 8,qT 15 .lss 13 14] (jE 15)) (.block 1 (sR [qM 16 7,qM 17 8,qT 18 .add 16 17,qO 19 (.cvi .u64 (.t 18)),qB 20 .shr 19 (.c (.int .u64 1)),qO 21 (.cvi .i64 (.t 20)),qM 9 21] (sR [qM 22 0,qM 23 9,qX 24 1 22 23,qL 25 24,qM 26 1,jC 27 124 [.t 25,.t 26]] (.cond (.t 27) (.reg [qM 28 9,qB 29 .add 28 (cI 1),qM 7 29]) (.reg [qM 30 9,qM 8 30]))))))
abbrev qcQ:IC:=(sR [jI 4 0,qO 5 (.mov (.c (.bool false)))] (sR [qM 10 0,qN 11 10,qM 6 11] (sR [qM 12 6,jI 7 0,qM 8 12] (.seq (.block 0 (.loop qa8)) (sR [qM 31 7,qM 32 7,qM 33 6,qT 34 .lss 32 33,qM 35 34,⟨some 36,.mov (.t 0),(some (35,true))⟩,⟨some 37,.mov (.t 7),(some (35,true))⟩,⟨some 38,.ixa 1 (.t 36) (.t 37),(some (35,true))⟩,⟨some 39,.ld 1 false (.t 38),(some (35,true))⟩,⟨none,.re,none⟩,⟨some 40,.mov (.t 1),(some (35,true))⟩,⟨some 41,.bin .eql (.t 39) (.t 40),(some (35,true))⟩,⟨some 42,.mov (.t 41),(some (35,true))⟩,⟨some 43,.mov (.t 0),(some (42,false))⟩,⟨some 44,.mov (.t 7),(some (42,false))⟩,⟨some 45,.ixa 1 (.t 43) (.t 44),(some (42,false))⟩,⟨some 46,.ld 1 false (.t 45),(some (42,false))⟩,⟨some 47,.call 125 [.t 46],(some (42,false))⟩,⟨some 48,.mov (.t 47),(some (42,false))⟩,⟨some 49,.mov (.t 1),(some (48,true))⟩,⟨some 50,.call 125 [.t 49],(some (48,true))⟩,⟨some 51,.pick (.t 48) (.t 50) (.c (.bool false)),(some (42,false))⟩,⟨some 52,.pick (.t 42) (.c (.bool true)) (.t 51),(some (35,true))⟩,qO 53 (.pick (.t 35) (.t 52) (.c (.bool false))),qM 4 31,qM 5 53] .ret)))))
theorem qcX:chkF Tryz.prog Tryz.f51 qcQ [.t 4,.t 5] 54=true:=by kernel_rfl
section
variable {E:Envt}
theorem qtG (x:List UInt8):PCall Tryz.prog E 183 [.str x] (·=.bool false):=by
 refine qag mixed Tryz.func183 qiV ?_
 refine zV ?_
 simp
theorem qyr (x:List UInt8):PCall Tryz.prog E 125 [.str x] (·=.bool false):=by
 refine qag mixed Tryz.func125 qgQ ?_
 refine zV ?_
 simp
theorem qwR (x y:List UInt8):PCall Tryz.prog E 124 [.str x,.str y] (·=.bool (decide (x < y))):=by
 refine qag mixed Tryz.func124 qjH ?_
 refine zV ?_
 refine use1 (qtG x) rfl (.inl rfl) ?_
 refine zS ?_
 refine useG (fun _=>qtG y) rfl (.inl rfl) ?_
 refine zS ?_
 simp only [bytesLess,bytesLess_eq]
end
theorem qyc {E:Envt} {fr:List AV} {L:Objs} {d:Nat} {x y:AV} (h:fr[d]?=some (.g false y)):ReOk E fr L (fr.set d (.g false x)) L:=fun B w ι a hs=>by
 refine ⟨ι,hs.1,⟨by rw [hs.2.1.1,List.length_set],fun i z hz=>?_⟩,hs.2.2⟩
 rw [List.getElem?_set] at hz
 split at hz
 ·rename_i e
  subst e
  split at hz
  ·cases hz
   obtain ⟨v,hv,hr⟩:=hs.2.1.2 d _ h
   exact ⟨v,hv,fun hc=>(by cases hc),hr.2⟩
  ·cases hz
 ·exact hs.2.1.2 i z hz
def SrtS (l:List (List UInt8)):Prop:=∀ (a b:Nat) (p q:List UInt8),a < b→l[a]?=some p→l[b]?=some q→p < q
theorem qu7 {l:List (List UInt8)} (h:∀ (a:Nat) (p q:List UInt8),l[a]?=some p→l[a+1]?=some q→p < q):SrtS l:=by
 intro a b
 induction b with
 |zero=>intro p q hab;omega
 |succ b ih=>
  intro p q hab hp hq
  rcases yl a b with h1|h1
  ·have hb:b < l.length:=by have:=(zm.1 hq).1;omega
   obtain ⟨r,hr⟩:∃ r,l[b]?=some r:=⟨_,zh hb⟩
   exact List.lt_trans (ih p r h1 hp hr) (h b r q hr hq)
  ·have:a=b:=by omega
   subst this
   exact h a p q hp hq
set_option maxHeartbeats 4000000 in
set_option maxRecDepth 100000 in
theorem qnu {E:Envt} (l:List (List UInt8)) (m:List UInt8) (hl:l.length≤1000000) (hs:SrtS l):PCall Tryz.prog E 51 [.sl 1 (strE l),.str m] (fun y=>∃ i:Nat,y=.tup [int i,.bool (decide (m∈l))]):=by
 refine qag mixed Tryz.func51 qcX ?_
 refine zV ?_
 simp only [ZZ,WW,Ze,reduceCtorEq,zd,ze,za,zf,zb,qac]
 refine qae (fun n fr L=>∃ (i:Nat) (j:Nat),j - i=n∧(i≤j)∧(j≤l.length)∧(∀ (a:Nat) (p:List UInt8),a < i→l[a]?=some p→p < m)∧(∀ (a:Nat) (p:List UInt8),j≤a→l[a]?=some p→¬ p < m)∧fr=(.p (.sl 1 (strE l))::.p (.str m)::oo::oo::oo::oo::.p (int (l.length:Nat))::.p (int (i:Nat))::.p (int (j:Nat))::oF (oD (oC (oo::[]))))∧L=[]) ((l.length) - 0) _ [] (by simp only [ZZ,WW,Ze,reduceCtorEq,zd,ze,za,zf,zb,qac];try trivial) (trivial) ⟨0,l.length,rfl,by omega,by omega,fun a p h=>absurd h (by omega),fun a p h hp=>absurd (zm.1 hp).1 (by omega),rfl,rfl⟩ ?_
 rintro n fr L ⟨i,j,rfl,hij,hjn,hlo,hhi,rfl,rfl⟩
 simp only [qa8,ZZ,WW,Ze,reduceCtorEq,zd,ze,za,zf,zb]
 refine br ?_ ?_
 ·intro h
  have hlt:i < j:=by have:=of_decide_eq_true h;omega
  have hm:((IntKind.u64.wrap ((i:Int)+j)).fdiv (2 ^ min (Int.toNat 1) IntKind.u64.bits))=(((i+j) / 2:Nat):Int):=by
   have e1:IntKind.u64.wrap ((i:Int)+j)=((i+j:Nat):Int):=by simp [IntKind.wrap,IntKind.bits,IntKind.signed];omega
   rw [e1]
   have e2:(2:Int) ^ min (Int.toNat 1) IntKind.u64.bits=2:=by decide
   rw [e2,Int.fdiv_eq_ediv_of_nonneg _ (by omega)]
   omega
  obtain ⟨x,hx⟩:∃ x,l[(i+j) / 2]?=some x:=⟨_,zh (by omega)⟩
  have hg:=qaD hx
  have hmn:(((((i+j) / 2:Nat):Int))).toNat=(i+j) / 2:=by omega
  simp only [ZZ,WW,Ze,reduceCtorEq,zd,ze,za,zf,zb,qac,hm]
  generalize hh:(i+j) / 2=g at *
  have hg1:i≤g:=by omega
  have hg2:g < j:=by omega
  simp only [ZZ,WW,Ze,reduceCtorEq,zd,ze,za,zf,zb,hg]
  ((with_reducible and_intros)<;>try exact sc_)
  refine use1 (qwR x m) rfl (.inl rfl) ?_
  refine zS ?_
  refine br ?_ ?_
  ·intro hc
   have hc:x < m:=of_decide_eq_true hc
   have hlow:∀ (a:Nat) (p:List UInt8),a < g+1→l[a]?=some p→p < m:=by
    intro a p ha hp
    rcases yl a g with h1|h1
    ·exact List.lt_trans (hs a g p x h1 hp hx) hc
    ·have:a=g:=by omega
     subst this
     rw [hx] at hp;cases hp;exact hc
   refine zS ?_
   ((with_reducible and_intros)<;>try exact sc_)
   refine qab (j - (g+1)) _ [] (by omega) zF_ zF_ ⟨g+1,j,rfl,by omega,hjn,hlow,hhi,rfl,rfl⟩
  ·intro hc
   have hc:¬ x < m:=of_decide_eq_false hc
   have hupp:∀ (a:Nat) (p:List UInt8),g≤a→l[a]?=some p→¬ p < m:=by
    intro a p ha hp hpm
    rcases yl g a with h1|h1
    ·exact hc (List.lt_trans (hs g a x p h1 hx hp) hpm)
    ·have:a=g:=by omega
     subst this
     rw [hx] at hp;cases hp;exact hc hpm
   refine zS ?_
   refine qab ((g) - i) _ [] (by omega) zF_ zF_ ⟨i,g,rfl,by omega,by omega,hlo,hupp,rfl,rfl⟩
 ·intro h
  have hge:i=j:=by have:=of_decide_eq_false h;omega
  subst hge
  by_cases hin:i < l.length
  ·obtain ⟨x,hx⟩:∃ x,l[i]?=some x:=⟨_,zh hin⟩
   have hg:=qaD hx
   have hd:decide ((i:Int) < l.length)=true:=by simp;omega
   have hmem:decide (x=m)=decide (m∈l):=by
    rw [Bool.eq_iff_iff,decide_eq_true_iff,decide_eq_true_iff]
    refine ⟨fun e=>e ▸ List.mem_of_getElem? hx,fun hml=>?_⟩
    obtain ⟨a,ha⟩:=zW hml
    rcases Nat.lt_trichotomy a i with h1|h1|h1
    ·exact absurd (hlo a m h1 ha) (List.lt_irrefl m)
    ·subst h1;rw [hx] at ha;cases ha;rfl
    ·exact absurd (hs i a x m h1 hx ha) (hhi i x (Nat.le_refl _) hx)
   simp only [ZZ,WW,Ze,reduceCtorEq,zd,ze,za,zf,zb,qac,hg,hd]
   ((with_reducible and_intros)<;>try exact sc_)
   rw [qm9]
   refine ⟨_,_,ReOk.refl,?_⟩
   simp only [ZZ,WW,Ze,reduceCtorEq,zd,ze,za,zf,zb,hg,qac]
   ((with_reducible and_intros)<;>try exact sc_)
   refine useG (fun _=>qyr x) rfl (.inl rfl) ?_
   refine zS ?_
   refine qsX (fun h=>by simp at h) (fun _=>?_)
   refine zS ?_
   exact ⟨fun h=>by rw [h];rfl,i,by rw [hmem]⟩
  ·have hgd:(strE l).getD i []=[]:=by simp [List.getD,strE];rw [List.getElem?_eq_none (by omega)];rfl
   have hfl:decide ((i:Int) < l.length)=false:=by simp;omega
   have hmem:decide (m∈l)=false:=by
    rw [decide_eq_false_iff_not]
    intro hml
    obtain ⟨a,ha⟩:=zW hml
    have:=(zm.1 ha).1
    exact absurd (hlo a m (by omega) ha) (List.lt_irrefl m)
   simp only [ZZ,WW,Ze,reduceCtorEq,zd,ze,za,zf,zb,qac,hgd,hfl]
   ((with_reducible and_intros)<;>try exact sc_)
   rw [qm9]
   refine ⟨_,_,qyc (d:=39) (x:=.p (.str [])) rfl,?_⟩
   simp only [ZZ,WW,Ze,reduceCtorEq,zd,ze,za,zf,zb,yo,hgd,qac]
   ((with_reducible and_intros)<;>try exact sc_)
   refine useG (r:=.bool false) (fun h=>by cases h) rfl (.inl rfl) ?_
   refine zS ?_
   refine qsX (fun h=>by cases h) (fun _=>?_)
   simp only [ZZ,WW,Ze,reduceCtorEq,zd,ze,za,zf,zb,yo]
   exact ⟨by simp,i,by rw [hmem]⟩
end Go.Proofs.YtekhobchfhhofaaGreatDoor
