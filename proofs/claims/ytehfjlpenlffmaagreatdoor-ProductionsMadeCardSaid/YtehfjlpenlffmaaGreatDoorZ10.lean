import Derived.Test.YtehfjlpenlffmaaGreatDoorZ9
import Derived.Test.YtehfjlpenlffmaaGreatDoorLayDecode
import Derived.Test.YtehfjlpenlffmaaGreatDoorZ8
import Derived.Lib.LastIndexByte
import Derived.Test.YtehfjlpenlffmaaGreatDoorLayLastIndex
import Derived.Test.YtehfjlpenlffmaaGreatDoorZ4
import Derived.Lib.OwnBridge
import Derived.WalkKit
set_option linter.unusedVariables false
set_option linter.unusedSimpArgs false
set_option linter.defProp false
namespace Go.Proofs.YtehfjlpenlffmaaGreatDoor
open Nat renaming reduceAdd→zd,reduceEqDiff→za,reduceLT→zf,reduceLeDiff→zb,reduceMul→ze,reduceSub→zu
open List renaming cons_append→zl,eq_nil_of_length_eq_zero→zA,getElem?_drop→yg,getElem?_eq_some_iff→zt,getElem?_take→yk,length_cons→zi,length_nil→zo,map_cons→zk,map_nil→zr,nil_append→zm,replicate_succ→zh,replicate_zero→zj
open Go.RowKit
section
variable {P:Program} {E:Envt} {w:World} {U:Nat→Prop}
theorem qwy {z b:Nat}:∀ (es:List (List PV)) (vs:List Value) (off:Nat),(∀ x∈es,x.length=z)→PRepL w U es.flatten vs→(∀ v∈vs,v.oneCell'=true)→(∀ j u,vs[j]?=some u→w.cell? ⟨b,off+j,none⟩=some u)→PRepE w U b z off es:=by
 intro es
 induction es with
 |nil=>intros;simp [PRepE]
 |cons x r ih=>
  intro vs off hz hv h1 hc
  simp only [PRepE]
  have hx:=hz x (by simp)
  simp only [List.flatten_cons] at hv
  have ha:=hv.take x.length
  have hb:=hv.drop x.length
  rw [List.take_left] at ha
  rw [List.drop_left] at hb
  refine ⟨hx,PRepC.of ha (fun v hv=>h1 v (List.mem_of_mem_take hv)) (fun j u hu=>hc j u (by rw [yk] at hu;split at hu;exact hu;cases hu)),ih _ (off+z) (fun y hy=>hz y (by simp [hy])) hb (fun v hv=>h1 v (List.mem_of_mem_drop hv)) (fun j u hu=>?_)⟩
  rw [yg] at hu
  have:=hc _ u hu
  rwa [hx,← Nat.add_assoc] at this
theorem qBS {f:FuncId} {args:List PV} {e z:Nat} {φ:List (List PV)→Prop} (h:FCall P E f args e z φ):PCall P E f args (fun x=>∃ es,x=.sl z es∧φ es):=by
 intro w U vs hU hE hEb hA
 refine (h w U vs undef hU hE (fun c hc=>⟨hEb c hc,fun h=>by cases h⟩) hA trivial).mono ?_
 rintro e' w' ⟨v,r,os',rfl,⟨es,rfl,hφ⟩,⟨us,hrow,h1,hl,hz,hb⟩,hg⟩
 refine ⟨v,.sl z es,rfl,⟨es,rfl,hφ⟩,?_,hg⟩
 have hcl:=fun g m c hv=>hrow.cells (g:=g) (m:=m) (c:=c) hv
 rcases hrow.2 with ⟨rfl,g2⟩|⟨g,cap,cur,fz,rfl,k2,k3,_⟩
 ·exact ⟨none,0,by rw [g2],by omega,fun hne=>absurd (zA g2) hne⟩
 ·refine ⟨_,cap,rfl,k3,fun _=>⟨g,0,rfl,(Array.getElem?_eq_some_iff.1 k2).1,fun hu=>?_,?_⟩⟩
  ·have h1:=hU g hu
   have h2:=hb g rfl
   omega
  ·refine qwy es us 0 hz (PRepL.mono (fun c _ hu=>⟨rfl,fun h=>hu (.inl h)⟩) _ _ hl) h1 (fun j u hu=>?_)
   rw [Nat.zero_add]
   exact hcl g _ _ rfl j u hu
theorem qAc {f:FuncId} {args:List PV} {e z:Nat} {es:List (List PV)} (h:FCall P E f args e z (·=es)):PCall P E f args (·=.sl z es):=by
 intro w U vs hU hE hEb hA
 refine (qBS h w U vs hU hE hEb hA).mono ?_
 rintro e' w' ⟨v,x,h1,⟨es',rfl,rfl⟩,h2⟩
 exact ⟨v,_,h1,rfl,h2⟩
end
def qc4:IC:=(sR [qT 9 .lss 8 7] (.seq (.cond (.t 9) .skip (.exit 0)) (.seq (.block 1 (sR [qM 10 8,qM 5 10] (sR [qM 11 1,qM 12 0,qM 13 5,qX 14 1 12 13,qL 15 14,qO 16 (.bnb .eql (.t 11) (.t 15))] (.cond (.t 16) (sR [qM 17 5,qM 4 17] .ret) .skip)))) (.reg [qB 18 .add 8 (cI 1),qM 8 18]))))
def qd0:IC:=(sR [qO 4 (.mov (cI 0))] (.seq (sR [qM 6 0,qN 7 6,qO 8 (.mov (cI 0))] (.block 0 (.loop qc4))) (sR [qO 4 (.mov (cI (-1)))] .ret)))
def qdQ:List IRes:=[.t 4]
theorem qiu:chkF Tryz.prog Tryz.f316 qd0 qdQ 19=true:=by kernel_rfl
def qc5:IC:=(sR [qO 4 (.mov (.c (.bool false)))] (sR [qM 5 0,qM 6 1,qO 7 (.call 316 [.t 5,.t 6]),qB 8 .geq 7 (cI 0),qM 4 8] .ret))
def qcZ:List IRes:=[.t 4]
theorem qgT:chkF Tryz.prog Tryz.f266 qc5 qcZ 9=true:=by kernel_rfl
def qd6:IC:=(sR [qT 39 .lss 38 37] (.seq (.cond (.t 39) .skip (.exit 2)) (.seq (.block 3 (sR [qM 40 38,qM 11 40] (.reg [qM 41 6,qM 42 7,qM 43 11,qT 44 .add 42 43,qM 45 10,qX 46 1 41 44,qS 1 46 45]))) (.reg [qB 47 .add 38 (cI 1),qM 38 47]))))
def qd7:IC:=(.seq (sR [qM 19 7,qM 20 0,qO 21 (.sln (.t 20)),qT 22 .lss 19 21] (.cond (.t 22) .skip (.exit 0))) (.block 1 (sR [qM 24 0,qM 25 7,qO 26 (.ssl (.t 24) (some (.t 25)) none),qO 27 (.call 265 [.t 26]),qM 23 27,qO 28 (.ext 0 (.t 23)),qO 29 (.ext 1 (.t 23)),qM 8 28,qM 9 29] (sR [qM 30 5,qM 31 7,qM 32 7,qM 33 9,qT 34 .add 32 33,qO 35 (.vsl 1 (.t 30) (some (.t 31)) (some (.t 34))),qO 36 (.call 266 [.t 35,.c (.bool true)]),qM 10 36] (.seq (sR [qM 37 9,qO 38 (.mov (cI 0))] (.block 2 (.loop qd6))) (.reg [qM 48 7,qM 49 9,qT 50 .add 48 49,qM 7 50]))))))
def qfu:IC:=(sR [qO 4 (.mov (.c (.nl 1)))] (sR [qM 12 1,qM 13 0,qO 14 (.sln (.t 13)),qO 15 (.call 264 [.t 12,.t 14]),qM 5 15] (sR [qM 16 0,qO 17 (.sln (.t 16)),qO 18 (.mks 4 1 1 [.bool false] (.t 17) (.t 17)),qM 6 18] (.seq (sR [qO 7 (.mov (cI 0))] (.block 0 (.loop qd7))) (sR [qM 51 6,qM 4 51] .ret)))))
def qfe:List IRes:=[.t 4]
theorem qjP:chkF Tryz.prog Tryz.f202 qfu qfe 52=true:=by kernel_rfl
section
variable {E:Envt}
theorem qwY (l:List Bool) (b:Bool) (hl:l.length≤1000000000):PCall Tryz.prog E 316 [.sl 1 (bl l),.bool b] (·=int (idxF (· == b) l)):=by
 refine qae mixed Tryz.func316 qiu ?_
 simp only [a0,l0,OS.ao,zk,zr,zi,zo,zl,zm,zu,zd,zh,zj,qd0,qdQ,ZZ,WW,Zd,reduceCtorEq,zd,ze,zb,zf,za]
 have hln:=qm9 l
 have hget:∀ k x,l[k]?=some x→(bl l).getD k []=[.bool x]:=fun k p hp=>qas hp
 generalize bl l=es at hln hget ⊢
 simp only [ZZ,WW,Zd,reduceCtorEq,zd,ze,zb,zf,za,hln]
 refine qad (fun n fr L=>∃ (k:Nat),k≤l.length∧n=l.length - k∧(∀ x∈l.take k,(x == b)=false)∧fr=(.p (.sl 1 es)::.p (.bool b)::oC (oo::(.p (int (l.length:Nat))::.p (int (k:Nat))::oD (oB []))))∧L=[]) (l.length) _ [] (by (simp only [ZZ,WW,Zd,reduceCtorEq,zd,ze,zb,zf,za];try trivial)) (by (simp only [ZZ,WW,Zd,reduceCtorEq,zd,ze,zb,zf,za];try trivial)) ⟨0,by omega,by omega,by simp,rfl,rfl⟩ ?_
 rintro n fr L ⟨k,hk,rfl,hno,rfl,rfl⟩
 simp only [qc4,ZZ,WW,Zd,reduceCtorEq,zd,ze,zb,zf,za]
 refine br ?_ ?_
 ·intro h
  have hlt:k < l.length:=by have:=of_decide_eq_true h;omega
  obtain ⟨x,hx⟩:∃ x,l[k]?=some x:=⟨_,List.getElem?_eq_getElem hlt⟩
  have hg:=hget k x hx
  simp only [ZZ,WW,Zd,reduceCtorEq,zd,ze,zb,zf,za,hg,hln]
  ((with_reducible and_intros)<;>try exact sc_)
  refine br ?_ ?_
  ·intro hq
   refine zS ?_
   rw [qja hx (by rw [Bool.beq_comm];exact hq) hno]
  ·intro hq
   refine zS ?_
   ((with_reducible and_intros)<;>try exact sc_)
   refine qac (l.length - (k+1)) _ [] (by omega) (by (simp only [ZZ,WW,Zd,reduceCtorEq,zd,ze,zb,zf,za];try trivial)) (by (simp only [ZZ,WW,Zd,reduceCtorEq,zd,ze,zb,zf,za];try trivial)) ⟨k+1,by omega,rfl,by rw [List.take_succ_eq_append_getElem hlt];intro y hy;rcases List.mem_append.1 hy with hy|hy;exact hno y hy;rw [List.mem_singleton] at hy;rw [hy,(zt.1 hx).2,Bool.beq_comm];exact hq,rfl,rfl⟩
 ·intro h
  have hge:l.length≤k:=by have:=of_decide_eq_false h;omega
  rw [List.take_of_length_le hge] at hno
  refine zS ?_
  rw [qgd hno]
theorem qr3 (l:List Bool) (b:Bool) (hl:l.length≤1000000000):PCall Tryz.prog E 266 [.sl 1 (bl l),.bool b] (·=.bool (l.any (· == b))):=by
 refine qae mixed Tryz.func266 qgT ?_
 simp only [a0,l0,OS.ao,zk,zr,zi,zo,zl,zm,zu,zd,zh,zj,qc5,qcZ,ZZ,WW,Zd,reduceCtorEq,zd,ze,zb,zf,za]
 refine use1 (qwY l b hl) rfl (.inl rfl) ?_
 refine zS ?_
 rw [ql2]
theorem qyA {N a b:Nat} {c:Nat→Bool}:(((tab N c).take b).drop a).any (· == true)=true↔∃ j,a≤j∧j < b∧j < N∧c j=true:=by
 rw [List.any_eq_true]
 constructor
 ·rintro ⟨x,hx,h⟩
  obtain ⟨i,hi⟩:=List.getElem?_of_mem hx
  rw [yg,yk] at hi
  split at hi
  ·rename_i hlt
   have hN:a+i < N:=by have:=(zt.1 hi).1;rw [qi3] at this;exact this
   rw [qpo hN] at hi
   cases hi
   exact ⟨a+i,by omega,hlt,hN,by simpa using h⟩
  ·cases hi
 ·rintro ⟨j,h1,h2,h3,h4⟩
  refine ⟨true,?_,rfl⟩
  refine List.mem_of_getElem? (i:=j - a) ?_
  rw [yg,yk,if_pos (by omega),show a+(j - a)=j from by omega,qpo h3,h4]
theorem qA9 {l:List Bool} {a b:Nat}:((bl l).take b).drop a=bl ((l.take b).drop a):=by simp [bl,List.map_drop,List.map_take]
theorem qw2 (t:List UInt8) (ht:t≠[]):PCall Tryz.prog E0 265 [.str t] (·=.tup [.int .i32 (Lib.decodeL t).1,int (Lib.decodeL t).2]):=
 qbA rfl rfl fun w hE=>(Any.utf8_DecodeRuneInString Tryz.layDecode ⟨t.toArray⟩ w hE.1).mono fun e w' h=>⟨by
  have hd:Lib.decodeGo ⟨t.toArray⟩=Lib.decodeL t:=by
   unfold Lib.decodeGo
   rw [if_neg (by rw [qhD];exact fun e=>ht (zA e))]
   rfl
  rw [h.1,hd];rfl,qiX h.2⟩
theorem qrA (s:List UInt8) (l:List (Int×Int)) (hs:s.length≤1000000) (hl:l.length≤1000000) (hv:Lib.validD s=true) (hb:∀ p∈l,0≤p.1∧p.1 < p.2∧p.2≤s.length) :
  FCall Tryz.prog E0 202 [.str s,sps l] 4 1 (·=bl (tab s.length (cov (qbV s l)))):=by
 unfold FCall
 refine qio mixed Tryz.func202 qjP ?_
 simp only [a0,l0,OS.ao,zk,zr,zi,zo,zl,zm,zu,zd,zh,zj,qfu,qfe,ZZ,WW,Zd,reduceCtorEq,zd,ze,zb,zf,za]
 refine use1 (qAc (qur l s.length hl hs (fun p hp=>by have:=hb p hp;omega))) rfl (.inl rfl) ?_
 refine zS ?_
 ((with_reducible and_intros)<;>try exact sc_)
 rw [qz2]
 have hcp:=fun j=>quE hb j
 have hpl:=qm9 (tab s.length (cov l))
 rw [qi3] at hpl
 have hpart:=fun a b=>@qA9 (tab s.length (cov l)) a b
 generalize cov (qbV s l)=C at *
 have hany:=fun a b=>@qyA s.length a b (cov l)
 refine qad (fun n fr L=>∃ (i:Nat) (g:Nat→Bool),s.length - i=n∧(i≤s.length)∧(Lib.validD (s.drop i)=true)∧(∀ j,j < s.length→g j=(decide (j < i) && C j))∧fr=(.p (.str s)::oo::oo::oo::oo::.p (.sl 1 (bl (tab s.length (cov l))))::.row (.l 18)::.p (int (i:Nat))::oF (oD (oC [])))∧L=[(.l 18,.row (bl (tab s.length g)) 4 1 true)]) (s.length - 0) (.p (.str s)::oo::oo::oo::oo::.p (.sl 1 (bl (tab s.length (cov l))))::.row (.l 18)::.p (int (0:Nat))::oF (oD (oC []))) [(.l 18,.row (bl (tab s.length (fun _=>false))) 4 1 true)] (by (simp only [ZZ,WW,Zd,reduceCtorEq,zd,ze,zb,zf,za];try trivial)) (by (simp only [ZZ,WW,Zd,reduceCtorEq,zd,ze,zb,zf,za];try trivial)) ⟨0,fun _=>false,rfl,by omega,hv,by intro j _;simp,rfl,rfl⟩ ?_
 rintro n fr L ⟨i,g,rfl,hi,hvi,hg,rfl,rfl⟩
 simp only [qd7,ZZ,WW,Zd,reduceCtorEq,zd,ze,zb,zf,za]
 refine br ?_ ?_
 ·intro h
  have hlt:i < s.length:=by have:=of_decide_eq_true h;omega
  obtain ⟨c1,c2,c3,c4,c5⟩:=qqG hvi hlt
  have hne:s.drop i≠[]:=by intro e;have:=congrArg List.length e;rw [List.length_drop] at this;simp at this;omega
  refine zS ?_
  ((with_reducible and_intros)<;>try exact sc_)
  rw [List.take_length]
  refine use1 (qw2 (s.drop i) hne) rfl (.inl rfl) ?_
  generalize (Lib.decodeL (s.drop i)).1=r at *
  generalize (Lib.decodeL (s.drop i)).2=m at *
  have e1:((i:Nat):Int)+((m:Nat):Int)=((i+m:Nat):Int):=by omega
  simp only [ZZ,WW,Zd,reduceCtorEq,zd,ze,zb,zf,za,hpl,e1]
  ((with_reducible and_intros)<;>try exact sc_)
  rw [hpart]
  refine use1 (qr3 _ true (by simp [qi3];omega)) rfl (.inl rfl) ?_
  have hon:∀ j,i≤j→j < i+m→(((tab s.length (cov l)).take (i+m)).drop i).any (· == true)=C j:=by
   intro j h1 h2
   rw [Bool.eq_iff_iff,hany,hcp]
   have hbk:=fun j'=>qui (j':=j') c1 c4 (quT c5) ⟨h1,h2⟩
   constructor
   ·rintro ⟨k,k1,k2,k3,k4⟩
    exact ⟨k,k4,(hbk k).2 ⟨k1,k2⟩⟩
   ·rintro ⟨k,k4,k5⟩
    obtain ⟨k1,k2⟩:=(hbk k).1 k5
    exact ⟨k,k1,k2,by omega,k4⟩
  generalize (((tab s.length (cov l)).take (i+m)).drop i).any (· == true)=on at *
  refine zS ?_
  refine qad (fun n fr L=>∃ (k:Nat) (g':Nat→Bool),k≤m∧n=m - k∧(∀ j,j < s.length→g' j=(decide (j < i+k) && C j))∧fr=(.p (.str s)::oo::oo::oo::oo::.p (.sl 1 (bl (tab s.length (cov l))))::.row (.l 18)::.p (int (i:Nat))::oo::.p (int (m:Nat))::.p (.bool on)::oE (oD (oB (.p (int (m:Nat))::.p (int (k:Nat))::oD (oC (oo::[]))))))∧L=[(.l 18,.row (bl (tab s.length g')) 4 1 true)]) (m) _ _ (by (simp only [ZZ,WW,Zd,reduceCtorEq,zd,ze,zb,zf,za];try trivial)) (by (simp only [ZZ,WW,Zd,reduceCtorEq,zd,ze,zb,zf,za];try trivial)) ⟨0,g,by omega,by omega,by intro j hj;rw [hg j hj];rfl,rfl,rfl⟩ ?_
  rintro n fr L ⟨k,g',hk,rfl,hg',rfl,rfl⟩
  simp only [qd6,ZZ,WW,Zd,reduceCtorEq,zd,ze,zb,zf,za]
  refine br ?_ ?_
  ·intro h2
   have hkn:k < m:=by have:=of_decide_eq_true h2;omega
   have hin:i+k < s.length:=by omega
   have e2:((i:Nat):Int)+((k:Nat):Int)=((i+k:Nat):Int):=by omega
   have hnx:∀ j,j < s.length→((fun j=>if j=i+k then on else g' j) j=(decide (j < i+(k+1)) && C j)):=by
    intro j hj
    simp only
    by_cases hji:j=i+k
    ·rw [if_pos hji,hon j (by omega) (by omega)]
     simp;omega
    ·rw [if_neg hji,hg' j hj]
     congr 1
     simp only [decide_eq_decide]
     omega
   simp only [ZZ,WW,Zd,reduceCtorEq,zd,ze,zb,zf,za,e2,qm9,qi3,qwE hin]
   simp only [Zaa,List.set_cons_zero,qzf]
   ((with_reducible and_intros)<;>try exact sc_)
   refine qac (m - (k+1)) _ _ (by omega) (by (simp only [ZZ,WW,Zd,reduceCtorEq,zd,ze,zb,zf,za];try trivial)) (by (simp only [ZZ,WW,Zd,reduceCtorEq,zd,ze,zb,zf,za];try trivial)) ⟨k+1,fun j=>if j=i+k then on else g' j,by omega,rfl,hnx,rfl,rfl⟩
  ·intro h2
   have hkn:k=m:=by have:=of_decide_eq_false h2;omega
   subst hkn
   simp only [ZZ,WW,Zd,reduceCtorEq,zd,ze,zb,zf,za,e1]
   ((with_reducible and_intros)<;>try exact sc_)
   refine qac (s.length - (i+k)) _ _ (by omega) (by (simp only [ZZ,WW,Zd,reduceCtorEq,zd,ze,zb,zf,za];try trivial)) (by (simp only [ZZ,WW,Zd,reduceCtorEq,zd,ze,zb,zf,za];try trivial)) ⟨i+k,g',rfl,by omega,c5,hg',rfl,rfl⟩
 ·intro h
  have hge:i=s.length:=by have:=of_decide_eq_false h;omega
  have htab:tab s.length g=tab s.length C:=qlB fun j hj=>by rw [hg j hj];simp;omega
  refine zS ?_
  exact qle 18 _ rfl rfl (by rw [htab])
end
end Go.Proofs.YtehfjlpenlffmaaGreatDoor
namespace Go.Proofs.YtehfjlpenlffmaaGreatDoor
open Nat renaming reduceAdd→zd,reduceEqDiff→za,reduceLT→zf,reduceLeDiff→zb,reduceMul→ze
open List renaming getElem?_eq_getElem→zg,take_of_length_le→zC
def qcd:IC:=(sR [qT 14 .lss 13 12] (.seq (.cond (.t 14) .skip (.exit 0)) (.seq (.block 1 (sR [qM 15 13,qM 5 15] (.seq (.drg [qM 16 0,qM 17 5,qX 18 1 16 17,qL 19 18,qM 20 1,qM 21 5,qX 22 1 20 21,qL 23 22,qT 24 .neq 19 23]) (.cond (.t 24) (sR [qO 4 (.mov (.c (.bool false)))] .ret) .skip)))) (.reg [qB 25 .add 13 (cI 1),qM 13 25]))))
def qcO:IC:=(sR [qO 4 (.mov (.c (.bool false)))] (.seq (sR [qM 6 0,qN 7 6,qM 8 1,qN 9 8,qT 10 .neq 7 9] (.cond (.t 10) (sR [qO 4 (.mov (.c (.bool false)))] .ret) .skip)) (.seq (sR [qM 11 0,qN 12 11,qO 13 (.mov (cI 0))] (.block 0 (.loop qcd))) (sR [qO 4 (.mov (.c (.bool true)))] .ret))))
def qcK:List IRes:=[.t 4]
theorem qgl:chkF Tryz.prog Tryz.f35 qcO qcK 26=true:=by kernel_rfl
section
variable {E:Envt}
theorem qw0 (l m:List (List UInt8)) (hl:l.length≤1000000000):PCall Tryz.prog E 35 [strs l,strs m] (·=.bool (decide (l=m))):=by
 refine qae mixed Tryz.func35 qgl ?_
 simp only [a0,l0,OS.ao,List.map_cons,List.map_nil,List.length_cons,List.length_nil,List.cons_append,List.nil_append,Nat.reduceSub,zd,List.replicate_succ,List.replicate_zero,qcO,qcK,ZZ,WW,Zd,reduceCtorEq,zd,ze,zb,zf,za]
 simp only [strs,ZZ,WW,Zd,reduceCtorEq,zd,ze,zb,zf,za]
 have hln:(l.map fun x=>[PV.str x]).length=l.length:=by simp
 have hlm:(m.map fun x=>[PV.str x]).length=m.length:=by simp
 have hget:∀ k x,l[k]?=some x→(l.map fun x=>[PV.str x]).getD k []=[.str x]:=fun k p hp=>qas hp
 have hgem:∀ k x,m[k]?=some x→(m.map fun x=>[PV.str x]).getD k []=[.str x]:=fun k p hp=>qas hp
 generalize (l.map fun x=>[PV.str x])=es at *
 generalize (m.map fun x=>[PV.str x])=fs at *
 simp only [ZZ,WW,Zd,reduceCtorEq,zd,ze,zb,zf,za,hln,hlm]
 refine br ?_ ?_
 ·intro h
  have:¬ l=m:=by rintro rfl;simp at h
  refine zS ?_
  simp [this]
 intro h
 have hlen:l.length=m.length:=by have:(l.length:Int)=m.length:=by simpa using h
                                 omega
 refine zS ?_
 refine qad (fun n fr L=>∃ (k:Nat),k≤l.length∧n=l.length - k∧(l.take k=m.take k)∧fr=(.p (.sl 1 es)::.p (.sl 1 fs)::oD (oB (.p (int (l.length:Nat))::.p (int (k:Nat))::oD (oC []))))∧L=[]) (l.length) _ [] (by simp only [hln,ZZ,WW,Zd,reduceCtorEq,zd,ze,zb,zf,za];try trivial) (by (simp only [ZZ,WW,Zd,reduceCtorEq,zd,ze,zb,zf,za];try trivial)) ⟨0,by omega,by omega,by simp,rfl,rfl⟩ ?_
 rintro n fr L ⟨k,hk,rfl,hf,rfl,rfl⟩
 simp only [qcd,ZZ,WW,Zd,reduceCtorEq,zd,ze,zb,zf,za]
 refine br ?_ ?_
 ·intro h
  have hlt:k < l.length:=by have:=of_decide_eq_true h;omega
  obtain ⟨x,hx⟩:∃ x,l[k]?=some x:=⟨_,zg hlt⟩
  obtain ⟨y,hy⟩:∃ y,m[k]?=some y:=⟨_,zg (by omega)⟩
  have hg:=hget k x hx
  have hg2:=hgem k y hy
  refine zS ?_
  refine drg0 ?_
  simp only [ZZ,WW,Zd,reduceCtorEq,zd,ze,zb,zf,za,hg,hg2,hln,hlm]
  ((with_reducible and_intros)<;>try exact sc_)
  refine br ?_ ?_
  ·intro h2
   have:¬ l=m:=by
    rintro rfl
    rw [hx] at hy
    cases hy
    simp at h2
   refine zS ?_
   simp [this]
  ·intro h2
   have hxy:x=y:=by simpa using h2
   refine zS ?_
   ((with_reducible and_intros)<;>try exact sc_)
   refine qac (l.length - (k+1)) _ [] (by omega) (by (simp only [ZZ,WW,Zd,reduceCtorEq,zd,ze,zb,zf,za];try trivial)) (by (simp only [ZZ,WW,Zd,reduceCtorEq,zd,ze,zb,zf,za];try trivial)) ⟨k+1,by omega,rfl,by rw [List.take_add_one,List.take_add_one,hf,hx,hy,hxy],rfl,rfl⟩
 ·intro h
  have hge:l.length≤k:=by have:=of_decide_eq_false h;omega
  refine zS ?_
  rw [zC hge,zC (by omega)] at hf
  simp [hf]
end
end Go.Proofs.YtehfjlpenlffmaaGreatDoor
namespace Go.Proofs.YtehfjlpenlffmaaGreatDoor
open Nat renaming reduceAdd→zd,reduceEqDiff→za,reduceLT→zf,reduceLeDiff→zb,reduceMul→ze,reduceSub→zu
open List renaming cons_append→zl,length_cons→zi,length_nil→zo,map_cons→zk,map_nil→zr,nil_append→zm,replicate_succ→zh,replicate_zero→zj
open Bool renaming and_eq_false_iff→yu,eq_iff_iff→yq,not_eq_true'→zW,or_eq_true→z6
open Go.RowKit
section
end
def sp (c:UInt8):List UInt8→List (List UInt8)
 |[]=>[[]]
 |x :: s=>if x=c then [] :: sp c s else (x :: (sp c s).headD []) :: (sp c s).tail
theorem qBv (c:UInt8) (s:List UInt8):sp c s≠[]:=by
 cases s with
 |nil=>simp [sp]
 |cons x s=>unfold sp;split<;>simp
theorem qmx {s:List UInt8} {c:UInt8} (h:Lib.index s [c]=-1):Lib.split s [c]=[s]:=by
 unfold Lib.split
 rw [Lib.count_miss h]
 rfl
theorem qnS {s:List UInt8} {c:UInt8} {i:Nat} (h:Lib.index s [c]=i):Lib.split s [c]=s.take i :: Lib.split (s.drop (i+1)) [c]:=by
 unfold Lib.split
 rw [Lib.count_hit (by simp) h,Nat.add_comm,Lib.splitK,if_neg (by rw [h];simp),h]
 simp
theorem qxe (c:UInt8):∀ s:List UInt8,Lib.split s [c]=sp c s:=by
 intro s
 induction s with
 |nil=>rw [qmx (by rfl)];rfl
 |cons x s ih=>
  by_cases hx:x=c
  ·subst hx
   have h0:Lib.index (x :: s) [x]=((0:Nat):Int):=by rw [Lib.index_one];simp [Lib.indexByte]
   rw [qnS h0,sp,if_pos rfl,← ih]
   simp
  ·have hi:Lib.index (x :: s) [c]=if Lib.index s [c]=-1 then -1 else Lib.index s [c]+1:=by
    rw [Lib.index_one,Lib.index_one,Lib.indexByte]
    simp [hx]
   rw [sp,if_neg hx,← ih]
   by_cases hm:Lib.index s [c]=-1
   ·rw [if_pos hm] at hi
    rw [qmx hi,qmx hm]
    rfl
   ·rw [if_neg hm] at hi
    have hge:=Lib.indexByte_ge s c
    rw [← Lib.index_one] at hge
    obtain ⟨i,hi2⟩:∃ i:Nat,Lib.index s [c]=i:=⟨(Lib.index s [c]).toNat,by omega⟩
    rw [hi2] at hi
    rw [qnS (i:=i+1) (by rw [hi];simp),qnS hi2]
    simp
theorem qnT (s:List UInt8) (c:UInt8):splF s c=sp c s:=by
 rw [← qxe]
 unfold splF Lib.split
 rw [Lib.splitB_data]
theorem qBw (c:UInt8) (b:List UInt8):∀ a:List UInt8,sp c (a++c :: b)=sp c a++sp c b:=by
 intro a
 induction a with
 |nil=>simp [sp]
 |cons x a ih=>
  rw [zl,sp,sp,ih]
  split
  ·simp
  ·have:=qBv c a
   cases h:sp c a with
   |nil=>exact absurd h this
   |cons y r=>simp
def wgt:List (List UInt8)→Nat
 |[]=>0
 |x :: r=>x.length+1+wgt r
theorem qzm (a b:List (List UInt8)):wgt (a++b)=wgt a+wgt b:=by
 induction a with
 |nil=>simp [wgt]
 |cons x a ih=>simp only [zl,wgt,ih];omega
theorem qzl (a:List (List UInt8)):a.length≤wgt a:=by
 induction a with
 |nil=>simp
 |cons x a ih=>simp only [wgt,zi];omega
theorem qBu (c:UInt8):∀ s:List UInt8,wgt (sp c s)=s.length+1:=by
 intro s
 induction s with
 |nil=>simp [sp,wgt]
 |cons y s ih=>
  rw [sp]
  split
  ·simp only [wgt,ih,zi,zo];omega
  ·cases h:sp c s with
   |nil=>exact absurd h (qBv c s)
   |cons z r=>
    rw [h] at ih
    simp only [wgt,List.headD_cons,List.tail_cons,zi] at ih ⊢
    omega
def liF (s:List UInt8) (c:UInt8):Int:=Lib.lastIndexByte ⟨s.toArray⟩ (c.toNat:Nat)
theorem suf1 (s:List UInt8) (c:UInt8):sufE s [c]=true↔∃ t,s=t++[c]:=by
 unfold sufE
 simp only [Bool.and_eq_true,decide_eq_true_eq,zi,zo,Nat.zero_add]
 constructor
 ·rintro ⟨_,h⟩
  exact ⟨s.take (s.length - 1),by rw [← h,List.take_append_drop]⟩
 ·rintro ⟨t,rfl⟩
  simp
  omega
theorem qrW {E:Envt} (s:List UInt8) (c:UInt8) (hs:s.length≤1000000000):PCall Tryz.prog E 262 [.str s,.str [c]] (·=int (liF s c)):=
 qbA rfl rfl fun w _=>(Any.strings_LastIndex_one Tryz.layLastIndex ⟨s.toArray⟩ ⟨#[c]⟩ rfl (by rw [qhD];omega) w).mono fun e w' h=>⟨h.1,by rw [h.2];exact Grow.refl _ _⟩
theorem quZ (s:List UInt8) (cs:List UInt8):(Lib.trimRightS s cs).length≤s.length:=by
 unfold Lib.trimRightS
 have:=(List.dropWhile_suffix (l:=s.reverse) (fun x=>cs.contains x)).length_le
 simpa using this
theorem quX (s:List UInt8) (cs:List UInt8):(Lib.trimS s cs).length≤s.length:=by
 unfold Lib.trimS Lib.trimLeftS
 exact Nat.le_trans (List.dropWhile_suffix _).length_le (quZ s cs)
theorem quY (s:List UInt8) (cs:List UInt8):Lib.trimRightS s cs <+: s:=by
 unfold Lib.trimRightS
 have:=List.reverse_prefix.2 (List.dropWhile_suffix (l:=s.reverse) (fun x=>cs.contains x))
 rwa [List.reverse_reverse] at this
theorem quW (s:List UInt8):decide (Lib.trimS s [32]=s)=(!Lib.hasPrefix s [32] && !sufE s [32]):=by
 by_cases h1:Lib.hasPrefix s [32]=true
 ·obtain ⟨t,rfl⟩:=(hp1 _ _).1 h1
  rw [h1,decide_eq_false]
  ·rfl
  ·intro h
   have hl:=congrArg List.length h
   have hp:=quY (32 :: t) [32]
   unfold Lib.trimS Lib.trimLeftS at hl
   cases hu:Lib.trimRightS (32 :: t) [32] with
   |nil=>rw [hu] at hl;simp at hl
   |cons y u=>
    rw [hu] at hl hp
    have hy:y=32:=by obtain ⟨r,hr⟩:=hp;simp at hr;exact hr.1
    subst hy
    have h2:=hp.length_le
    have h3:=(List.dropWhile_suffix (l:=u) (fun x=>[(32:UInt8)].contains x)).length_le
    simp [List.dropWhile_cons] at hl h2 h3
    omega
 ·have h1':Lib.hasPrefix s [32]=false:=Bool.eq_false_iff.2 h1
  rw [h1']
  by_cases h2:sufE s [32]=true
  ·rw [h2,decide_eq_false]
   ·rfl
   ·intro h
    obtain ⟨t,rfl⟩:=(suf1 _ _).1 h2
    have hl:=congrArg List.length h
    have h3:=quX t [32]
    have e:Lib.trimS (t++[32]) [32]=Lib.trimS t [32]:=by
     unfold Lib.trimS Lib.trimRightS
     simp [List.dropWhile_cons]
    rw [e] at hl
    simp at hl
    omega
  ·have h2':sufE s [32]=false:=Bool.eq_false_iff.2 h2
   rw [h2',decide_eq_true]
   ·rfl
   ·have hr:Lib.trimRightS s [32]=s:=by
     unfold Lib.trimRightS
     cases hs:s.reverse with
     |nil=>simp at hs;subst hs;rfl
     |cons y r=>
      have hy:y≠32:=by
       rintro rfl
       apply h2
       refine (suf1 _ _).2 ⟨r.reverse,?_⟩
       have:=congrArg List.reverse hs
       simpa using this
      rw [List.dropWhile_cons,if_neg (by simp [hy]),← hs,List.reverse_reverse]
    unfold Lib.trimS
    rw [hr]
    unfold Lib.trimLeftS
    cases s with
    |nil=>rfl
    |cons y r=>
     have hy:y≠32:=by
      rintro rfl
      exact h1 ((hp1 _ _).2 ⟨r,rfl⟩)
     rw [List.dropWhile_cons,if_neg (by simp [hy])]
def qgN:IC:=(sR [qO 2 (.mov (.c (.bool false)))] (sR [qM 3 0,qO 4 (.call 147 [.t 3,.c (.bool false)]),qM 5 4,⟨some 6,.mov (.t 0),(some (5,true))⟩,⟨some 7,.call 155 [.t 6,.c (.str [32])],(some (5,true))⟩,⟨some 8,.mov (.t 0),(some (5,true))⟩,⟨some 9,.bin .eql (.t 7) (.t 8),(some (5,true))⟩,qO 10 (.pick (.t 5) (.t 9) (.c (.bool false))),qM 11 10,⟨some 12,.mov (.t 0),(some (11,true))⟩,⟨some 13,.call 156 [.t 12,.c (.str [32,32])],(some (11,true))⟩,⟨some 14,.not (.t 13),(some (11,true))⟩,qO 15 (.pick (.t 11) (.t 14) (.c (.bool false))),qM 2 15] .ret))
def qgz:List IRes:=[.t 2]
theorem qkU:chkF Tryz.prog Tryz.f76 qgN qgz 16=true:=by kernel_rfl
theorem quK (s:List UInt8) (hs:s.length≤1000000000):PCall Tryz.prog E0 76 [.str s] (·=.bool (qj4 s)):=by
 refine qae mixed Tryz.func76 qkU ?_
 simp only [a0,l0,OS.ao,zk,zr,zi,zo,zl,zm,zu,zd,zh,zj,qgN,qgz,ZZ,WW,Zd,reduceCtorEq,zd,ze,zb,zf,za]
 refine use1 (qly s false hs) rfl (.inl rfl) ?_
 refine zS ?_
 refine useG (fun _=>qgZ s [32] hs (by decide) (by decide)) rfl (.inl rfl) ?_
 refine zS ?_
 refine useG (fun _=>qlv s [32,32] hs) rfl (.inl rfl) ?_
 refine zS ?_
 rw [qj4,quW]
 cases visE s false<;>cases Lib.hasPrefix s [32]<;>cases sufE s [32]<;>rfl
def qiQ:IC:=(sR [qO 2 (.mov (.c (.bool false)))] (sR [qM 3 0,qO 4 (.sln (.t 3)),qO 5 (.call 51 [.t 4,.c (.int .i64 1),.c (.int .i64 80)]),qM 6 5,⟨some 7,.mov (.t 0),(some (6,true))⟩,⟨some 8,.call 108 [.t 7],(some (6,true))⟩,qO 9 (.pick (.t 6) (.t 8) (.c (.bool false))),qM 2 9] .ret))
def qiG:List IRes:=[.t 2]
theorem qmJ:chkF Tryz.prog Tryz.f75 qiQ qiG 10=true:=by kernel_rfl
def qf1:IC:=(sR [qO 2 (.mov (cI 0))] (sR [qM 3 0,qO 4 (.call 51 [.t 3,.c (.int .i64 1),.c (.int .i64 3)]),qO 5 (.not (.t 4)),qO 6 (.call 50 [.t 5,.c (.int .i64 4)]),qM 2 6] .ret))
def qfM:List IRes:=[.t 2]
theorem qkj:chkF Tryz.prog Tryz.f74 qf1 qfM 7=true:=by kernel_rfl
def qf2:IC:=(sR [qO 1 (.box 45 (.t 0)),qO 2 (.mov (cI 0))] (.seq (.drg [qF 3 0 1,qL 4 3,qF 5 1 1,qL 6 5,qO 7 (.pcall 0 52 [.t 4,.t 6]),qF 8 2 1,qL 9 8,qO 10 (.pcall 1 74 [.t 9]),qF 11 3 1,qL 12 11,qO 13 (.pcall 2 75 [.t 12]),qO 14 (.not (.t 13)),qM 15 14,⟨some 16,.fla 4 (.t 1),(some (15,false))⟩,⟨some 17,.ld 1 false (.t 16),(some (15,false))⟩,⟨some 18,.pcall 3 75 [.t 17],(some (15,false))⟩,⟨some 19,.not (.t 18),(some (15,false))⟩,qO 20 (.pick (.t 15) (.c (.bool true)) (.t 19)),qO 21 (.pcall 4 50 [.t 20,.c (.int .i64 3)]),qF 22 5 1,qL 23 22,qO 24 (.pcall 5 51 [.t 23,.c (.int .i64 1),.c (.int .i64 100000)]),qO 25 (.not (.t 24)),qO 26 (.pcall 6 50 [.t 25,.c (.int .i64 1)]),qO 27 (.bsl 1 [.t 7,.t 10,.t 21,.t 26]),qO 28 (.pcall 7 49 [.t 27]),qM 2 28]) .ret))
def qfN:List IRes:=[.t 2]
theorem qkk:chkF Tryz.prog Tryz.f21 qf2 qfN 29=true:=by kernel_rfl
def qdH:IC:=(sR [qT 29 .lss 28 27] (.seq (.cond (.t 29) .skip (.exit 0)) (.seq (.block 1 (sR [qX 30 1 26 28,qL 31 30,qM 5 31] (sR [qM 32 5,qO 33 (.call 76 [.t 32]),qO 34 (.not (.t 33)),qM 35 34,⟨some 36,.mov (.t 5),(some (35,false))⟩,⟨some 37,.sln (.t 36),(some (35,false))⟩,⟨some 38,.bin .lss (.t 37) (cI 1),(some (35,false))⟩,qO 39 (.pick (.t 35) (.c (.bool true)) (.t 38)),qM 40 39,⟨some 41,.mov (.t 5),(some (40,false))⟩,⟨some 42,.sln (.t 41),(some (40,false))⟩,⟨some 43,.bin .gtr (.t 42) (cI 80),(some (40,false))⟩,qO 44 (.pick (.t 40) (.c (.bool true)) (.t 43))] (.cond (.t 44) (sR [qO 2 (.mov (cI 3))] .ret) .skip)))) (.reg [qB 45 .add 28 (cI 1),qM 28 45]))))
def qeY:IC:=(sR [qO 1 (.box 45 (.t 0)),qO 2 (.mov (cI 0))] (.seq (sR [qF 6 0 1,qL 7 6,qF 8 1 1,qL 9 8,qO 10 (.call 56 [.t 7,.t 9]),qM 3 10] (sR [qM 11 3,qB 12 .neq 11 (cI 0)] (.cond (.t 12) (sR [qM 13 3,qM 2 13] .ret) .skip))) (.seq (sR [qF 14 2 1,qL 15 14,qB 16 .lss 15 (cI 1),qM 17 16,⟨some 18,.fla 2 (.t 1),(some (17,false))⟩,⟨some 19,.ld 1 false (.t 18),(some (17,false))⟩,⟨some 20,.bin .gtr (.t 19) (cI 3),(some (17,false))⟩,qO 21 (.pick (.t 17) (.c (.bool true)) (.t 20))] (.cond (.t 21) (sR [qO 2 (.mov (cI 4))] .ret) .skip)) (.seq (sR [qF 22 3 1,qL 23 22,qF 24 4 1,qL 25 24,qO 26 (.bsl 1 [.t 23,.t 25]),qN 27 26,qO 28 (.mov (cI 0))] (.block 0 (.loop qdH))) (.seq (sR [qF 46 5 1,qL 47 46,qB 48 .lss 47 (cI 1),qM 49 48,⟨some 50,.fla 5 (.t 1),(some (49,false))⟩,⟨some 51,.ld 1 false (.t 50),(some (49,false))⟩,⟨some 52,.bin .gtr (.t 51) (cI 100000),(some (49,false))⟩,qO 53 (.pick (.t 49) (.c (.bool true)) (.t 52))] (.cond (.t 53) (sR [qO 2 (.mov (cI 1))] .ret) .skip)) (sR [qO 2 (.mov (cI 0))] .ret))))))
def qeL:List IRes:=[.t 2]
theorem qjl:chkF Tryz.prog Tryz.f22 qeY qeL 54=true:=by kernel_rfl
def qd9:IC:=(sR [qO 2 (.alc 45 [.str [],.int .i64 0,.int .i64 0,.str [],.str [],.int .i64 0])] (sR [qM 4 0,qO 5 (.bsl 1 [.c (.str [65,66]),.c (.str [65,66]),.c (.str [67,68,69])]),qO 6 (.call 42 [.t 4,.t 5]),qM 7 0,qO 8 (.bsl 1 [.c (.int .i64 4),.c (.int .i64 4),.c (.int .i64 6)]),qO 9 (.call 43 [.t 7,.t 8]),qM 10 0,qO 11 (.call 19 [.t 10,.c (.int .i64 1),.c (.int .i64 3)]),qM 12 0,qO 13 (.bsl 1 [.c (.int .i64 100),.c (.int .i64 100),.c (.int .i64 3),.c (.int .i64 100000)]),qO 14 (.call 43 [.t 12,.t 13]),⟨none,.fz (.t 6),none⟩,⟨none,.fz (.t 9),none⟩,⟨none,.fz (.t 11),none⟩,⟨none,.fz (.t 14),none⟩,qO 15 (.bld [.str [],.int .i64 0,.int .i64 0,.str [],.str [],.int .i64 0] [(0,1,.t 6),(1,1,.t 9),(2,1,.t 11),(3,1,.c (.str [119,105,116,104,104,101,108,100])),(4,1,.c (.str [110,111,116,32,119,97,110,116,101,100])),(5,1,.t 14)]),qO 3 (.alc 45 [.str [],.int .i64 0,.int .i64 0,.str [],.str [],.int .i64 0]),qS 6 3 15] (.seq (sR [qM 16 0,qO 17 (.call 9 [.t 16,.c (.int .i64 12)])] (.cond (.t 17) (sR [qM 18 0,qO 19 (.call 10 [.t 18,.c (.int .i64 5)])] (.block 0 (sR [qB 25 .eql 19 (cI 0),qM 24 25] (.cond (.t 24) (.reg [qM 26 0,qO 27 (.bsl 1 [.c (.str []),.c (.str [97,98]),.c (.str [65,66,67,68,69,70,71,72]),.c (.str [65,66,67,68,69,70,71,72,73])]),qO 28 (.call 42 [.t 26,.t 27]),qF 29 0 3,qS 1 29 28]) (sR [qB 31 .eql 19 (cI 1),qM 30 31] (.cond (.t 30) (.reg [qM 32 0,qO 33 (.bsl 1 [.c (.int .i64 3),.c (.int .i64 10),.c (.int .i64 9)]),qO 34 (.call 43 [.t 32,.t 33]),qF 35 1 3,qS 1 35 34]) (sR [qB 37 .eql 19 (cI 2),qM 36 37] (.cond (.t 36) (.reg [qM 38 0,qO 39 (.bsl 1 [.c (.int .i64 0),.c (.int .i64 4)]),qO 40 (.call 43 [.t 38,.t 39]),qF 41 2 3,qS 1 41 40]) (sR [qB 43 .eql 19 (cI 3),qM 42 43] (.cond (.t 42) (.reg [qM 44 0,qO 45 (.call 44 [.c (.str [115]),.c (.int .i64 80)]),qO 46 (.call 44 [.c (.str [115]),.c (.int .i64 81)]),qO 47 (.bsl 1 [.c (.str []),.c (.str [32,120]),.t 45,.t 46]),qO 48 (.call 42 [.t 44,.t 47]),qF 49 3 3,qS 1 49 48]) (.reg [qM 20 0,qO 21 (.bsl 1 [.c (.int .i64 0),.c (.int .i64 100001)]),qO 22 (.call 43 [.t 20,.t 21]),qF 23 5 3,qS 1 23 22]))))))))))) .skip)) (.cut (sR [qO 50 (.ld 6 true (.t 3)),qS 6 2 50] .ret)))))
def qdV:List IRes:=[.c 2 6 true]
theorem qiz:chkF Tryz.prog Tryz.f18 qd9 qdV 51=true:=by kernel_rfl
structure Stp where
 pre:List UInt8
 dig:Int
 ord:Int
 slip:List UInt8
 skip:List UInt8
 most:Int
def stV (x:Stp):List PV:=[.str x.pre,int x.dig,int x.ord,.str x.slip,.str x.skip,int x.most]
theorem qeb (e:Int) (r:List Int):qaf (e :: r)=if e=0 then qaf r else e:=rfl
structure StB (x:Stp):Prop where
 b1:x.pre.length≤1000
 b2:x.slip.length≤1000
 b3:x.skip.length≤1000
def qi7 (s:List UInt8):Bool:=inE s.length 1 80 && qj4 s
def ordF (n:Int):Int:=qah (!inE n 1 3) 4
def setF (x:Stp):Int:=qaf [qfC x.pre x.dig,ordF x.ord,qah (!qi7 x.slip || !qi7 x.skip) 3,qah (!inE x.most 1 100000) 1]
theorem qCs (c:UInt8):capL.contains c=!qm1 c:=qnb (p:=fun c=>capL.contains c=!qm1 c) (by decide +kernel) c
theorem qxB (s:List UInt8):qxC s=qk1 s:=by
 unfold qxC qk1
 rw [qj8,Bool.and_comm]
 congr 1
 induction s with
 |nil=>rfl
 |cons c r ih=>simp only [List.all_cons,qCs,ih]
theorem qvQ (p:List UInt8) (d:Int):nfF p d=qfC p d:=by
 unfold nfF qfC
 rw [qxB]
 cases qk1 p with
 |false=>rfl
 |true=>
  rw [if_pos rfl]
  have:(decide (d < 4) || decide (9 < d))=!inE d 4 9:=by
   unfold inE
   rw [yq]
   simp only [z6,decide_eq_true_eq,zW,yu,decide_eq_false_iff_not]
   omega
  rw [this]
  cases inE d 4 9<;>rfl
section
theorem qrk (s:List UInt8) (hs:s.length≤1000000):PCall Tryz.prog E0 75 [.str s] (·=.bool (qi7 s)):=by
 refine qae mixed Tryz.func75 qmJ ?_
 simp only [a0,l0,OS.ao,zk,zr,zi,zo,zl,zm,zu,zd,zh,zj,qiQ,qiG,ZZ,WW,Zd,reduceCtorEq,zd,ze,zb,zf,za]
 refine use1 (qmS _ _ _) rfl (.inl rfl) ?_
 refine zS ?_
 refine useG (fun _=>quc s (by omega)) rfl (.inl rfl) ?_
 refine zS ?_
 rfl
theorem qpR {E:Envt} (n:Int):PCall Tryz.prog E 74 [int n] (·=int (ordF n)):=by
 refine qae mixed Tryz.func74 qkj ?_
 simp only [a0,l0,OS.ao,zk,zr,zi,zo,zl,zm,zu,zd,zh,zj,qf1,qfM,ZZ,WW,Zd,reduceCtorEq,zd,ze,zb,zf,za]
 refine use1 (qmS _ _ _) rfl (.inl rfl) ?_
 refine zS ?_
 refine use1 (qav _ 4) rfl (.inl rfl) ?_
 refine zS ?_
 rfl
theorem qqF (x:Stp) (hx:StB x):PCall Tryz.prog E0 21 [.agg (stV x)] (·=int (setF x)):=by
 obtain ⟨b1,b2,b3⟩:=hx
 refine qae mixed Tryz.func21 qkk ?_
 simp only [a0,l0,OS.ao,zk,zr,zi,zo,zl,zm,zu,zd,zh,zj,qf2,qfN,ZZ,WW,Zd,reduceCtorEq,zd,ze,zb,zf,za]
 simp only [stV,ZZ,WW,Zd,reduceCtorEq,zd,ze,zb,zf,za]
 refine ⟨[int (qfC x.pre x.dig),int (ordF x.ord),.bool (qi7 x.slip),.bool (qi7 x.skip),int (qah (!qi7 x.slip || !qi7 x.skip) 3),.bool (inE x.most 1 100000),int (qah (!inE x.most 1 100000) 1),int (setF x)],?_⟩
 refine zS ?_
 refine ⟨usep (qkg _ _ (by omega)) rfl (.inl rfl),usep (qpR _) rfl (.inl rfl),usep (qrk _ (by omega)) rfl (.inl rfl),fun h=>⟨h,usep (qrk _ (by omega)) rfl (.inl rfl)⟩,fun h=>by rw [h];rfl,usep (qav _ _) rfl (.inl rfl),usep (qmS _ _ _) rfl (.inl rfl),usep (qav _ _) rfl (.inl rfl),usep (qbK [_,_,_,_] (by simp)) rfl (.inl rfl)⟩
theorem qqx (x:Stp) (hx:StB x):PCall Tryz.prog E0 22 [.agg (stV x)] (·=int (setF x)):=by
 obtain ⟨b1,b2,b3⟩:=hx
 refine qae mixed Tryz.func22 qjl ?_
 simp only [a0,l0,OS.ao,zk,zr,zi,zo,zl,zm,zu,zd,zh,zj,qeY,qeL,ZZ,WW,Zd,reduceCtorEq,zd,ze,zb,zf,za]
 simp only [stV,ZZ,WW,Zd,reduceCtorEq,zd,ze,zb,zf,za]
 refine use1 (qj7 x.pre x.dig (by omega)) rfl (.inl rfl) ?_
 rw [qvQ]
 refine zS ?_
 refine br ?_ ?_
 ·intro h
  have h1:¬ qfC x.pre x.dig=0:=by simpa using h
  refine zS ?_
  rw [setF,qeb,if_neg h1]
 intro h
 have h1:qfC x.pre x.dig=0:=by simpa using h
 have hs:setF x=qaf [ordF x.ord,qah (!qi7 x.slip || !qi7 x.skip) 3,qah (!inE x.most 1 100000) 1]:=by rw [setF,qeb,if_pos h1]
 rw [hs]
 clear h hs
 have ho:(decide (x.ord < 1) || decide (3 < x.ord))=!inE x.ord 1 3:=by
  unfold inE
  rw [yq]
  simp only [z6,decide_eq_true_eq,zW,yu,decide_eq_false_iff_not]
  omega
 have hm:(decide (x.most < 1) || decide (100000 < x.most))=!inE x.most 1 100000:=by
  unfold inE
  rw [yq]
  simp only [z6,decide_eq_true_eq,zW,yu,decide_eq_false_iff_not]
  omega
 refine zS ?_
 rw [ho]
 refine ⟨fun h=>by rw [h];rfl,?_⟩
 refine br ?_ ?_
 ·intro h
  refine zS ?_
  rw [qeb,ordF,qah,if_pos h]
  rfl
 intro h
 have h2:ordF x.ord=0:=by rw [ordF,qah,if_neg (by rw [h];decide)]
 rw [qeb,if_pos h2]
 clear h
 refine zS ?_
 refine qad (fun n fr L=>∃ (j:Nat),j≤2∧n=2 - j∧(1≤j→qi7 x.slip=true)∧(2≤j→qi7 x.skip=true)∧fr=(oo::.adr (.l 1) 0::oE (oD (.p (.sl 1 [[.str x.slip],[.str x.skip]])::.p (int 2)::.p (int (j:Nat))::oE (oD (oo::[])))))∧L=[(.l 1,.box [.p (.str x.pre),.p (int x.dig),.p (int x.ord),.p (.str x.slip),.p (.str x.skip),.p (int x.most)] 45)]) (2) _ _ (by (simp only [ZZ,WW,Zd,reduceCtorEq,zd,ze,zb,zf,za];try trivial)) (by (simp only [ZZ,WW,Zd,reduceCtorEq,zd,ze,zb,zf,za];try trivial)) ⟨0,by omega,by omega,(fun h=>by omega),(fun h=>by omega),rfl,rfl⟩ ?_
 rintro n fr L ⟨j,hj,rfl,hj1,hj2,rfl,rfl⟩
 simp only [qdH,ZZ,WW,Zd,reduceCtorEq,zd,ze,zb,zf,za]
 refine br ?_ ?_
 ·intro h
  have hlt:j < 2:=by have:=of_decide_eq_true h;omega
  obtain ⟨s,hs,hsl,hb⟩:∃ s,([[PV.str x.slip],[PV.str x.skip]]:List (List PV)).getD j []=[.str s]∧s.length≤1000∧(qi7 s=false→(!qi7 x.slip || !qi7 x.skip)=true)∧(qi7 s=true→(1≤j+1→qi7 x.slip=true)∧(2≤j+1→qi7 x.skip=true)):=by
   match j,hlt with
   |0,_=>exact ⟨x.slip,rfl,b2,fun h=>by rw [h];rfl,fun h=>⟨fun _=>h,fun h=>by omega⟩⟩
   |1,_=>exact ⟨x.skip,rfl,b3,fun h=>by rw [h];simp,fun h=>⟨fun _=>hj1 (by omega),fun _=>h⟩⟩
  obtain ⟨hb1,hb2⟩:=hb
  have hn:((!qj4 s || decide ((s.length:Int) < 1)) || decide (80 < (s.length:Int)))=!qi7 s:=by
   unfold qi7 inE
   cases qj4 s with
   |false=>simp
   |true=>
    rw [yq]
    simp only [z6,decide_eq_true_eq,zW,yu,decide_eq_false_iff_not,Bool.not_true,Bool.false_eq_true,false_or,or_false,Bool.and_true,reduceCtorEq]
    omega
  simp only [ZZ,WW,Zd,reduceCtorEq,zd,ze,zb,zf,za,hs]
  ((with_reducible and_intros)<;>try exact sc_)
  refine use1 (quK s (by omega)) rfl (.inl rfl) ?_
  refine zS ?_
  rw [hn]
  refine ⟨fun h=>by rw [h];rfl,fun h=>by rw [h];rfl,?_⟩
  refine br ?_ ?_
  ·intro h
   have h3:=hb1 (by simpa using h)
   refine zS ?_
   rw [qeb,qah,if_pos h3]
   rfl
  ·intro h
   obtain ⟨c1,c2⟩:=hb2 (by simpa using h)
   refine zS ?_
   ((with_reducible and_intros)<;>try exact sc_)
   refine qac (2 - (j+1)) _ _ (by omega) (by (simp only [ZZ,WW,Zd,reduceCtorEq,zd,ze,zb,zf,za];try trivial)) (by (simp only [ZZ,WW,Zd,reduceCtorEq,zd,ze,zb,zf,za];try trivial)) ⟨j+1,by omega,rfl,c1,c2,rfl,rfl⟩
 intro h
 have hge:2≤j:=by have:=of_decide_eq_false h;omega
 refine zS ?_
 rw [hm]
 rw [hj1 (by omega),hj2 hge]
 refine ⟨fun h=>by rw [h];rfl,?_⟩
 refine br ?_ ?_
 ·intro h
  refine zS ?_
  rw [h]
  rfl
 intro h
 refine zS ?_
 rw [h]
 rfl
end
end Go.Proofs.YtehfjlpenlffmaaGreatDoor
namespace Go.Proofs.YtehfjlpenlffmaaGreatDoor
open Go.Lib Go.RowKit Go.Shelf Go.Sort
section
variable {E:Envt} {L:Objs} {k:Key} {fr:List AV} {d:Option Nat} {is:List IOper} {Y:List PV} {K:List AV→Objs→Prop}
end
end Go.Proofs.YtehfjlpenlffmaaGreatDoor
namespace Go.Proofs.YtehfjlpenlffmaaGreatDoor
open Go.RowKit
abbrev SRow:=List (List UInt8)
abbrev Tab:=List SRow
def tbE (t:Tab):List (List PV):=t.map fun r=>[PV.sl 1 (strE r)]
theorem qaN (t:Tab):(tbE t).length=t.length:=by simp [tbE]
theorem qmw {t:Tab} {k:Nat} {r:SRow} (h:t[k]?=some r):(tbE t).getD k []=[.sl 1 (strE r)]:=qas h
end Go.Proofs.YtehfjlpenlffmaaGreatDoor
