import Derived.Test.YtmpdnpljdcincaaGreatDoorZ14
import Derived.Test.YtmpdnpljdcincaaGreatDoorLayLastIndexByte
import Derived.Test.YtmpdnpljdcincaaGreatDoorZ11
set_option linter.unusedVariables false
set_option linter.unusedSimpArgs false
set_option linter.defProp false
namespace Go.Proofs.YtmpdnpljdcincaaGreatDoor
open Nat renaming le_refl→zD,reduceAdd→zd,reduceEqDiff→za,reduceLT→zf,reduceLeDiff→zb,reduceMul→ze
open List renaming any_eq_true→yw,cons_append→yi,drop_eq_getElem_cons→yb,drop_eq_nil_of_le→zL,eq_nil_of_length_eq_zero→zr,getD→zu,getD_eq_getElem?_getD→yk,getElem?_drop→yd,getElem?_eq_getElem→zg,getElem?_eq_some_iff→zk,getElem?_of_mem→zQ,length_append→zp,length_cons→zK,length_drop→zY,length_map→zw,length_take→zJ,map_append→zF,map_cons→zx,mem_append→zz,mem_cons→zC,mem_filter→ye,mem_map→zG,mem_of_getElem?→zm,mem_singleton→zy,range→zA,take_append_drop→yt,take_of_length_le→zq,take_succ_eq_append_getElem→zo
open Bool renaming and_eq_true→zj,eq_iff_iff→yx,false_and→yn,not_eq_true'→zW,true_and→yc
open Go.RowKit
abbrev qij:IC:=(sR [qO 2 (.mov (.c (.bool false)))] (sR [qM 3 0,qM 4 0,qT 5 .neq 3 4,qM 2 5] .ret))
theorem qiv:chkF Tryz.prog Tryz.f300 qij [.t 2] 6=true:=by kernel_rfl
abbrev qkr:IC:=(sR [qO 2 (.mov (.c (.bool false)))] (sR [qM 3 0,qM 4 0,qT 5 .neq 3 4,qM 2 5] .ret))
theorem qkx:chkF Tryz.prog Tryz.f134 qkr [.t 2] 6=true:=by kernel_rfl
abbrev qg5:IC:=(sR [jI 4 0] (sR [qM 7 0,jC 8 300 [.t 7],qM 5 8] (sR [qM 9 1,jC 10 300 [.t 9],qM 6 10] (.seq (sR [qM 11 5] (jW 11 (.seq (sR [qM 12 6] (jW 12 (sR [jI 4 0] .ret))) (sR [jI 4 (-1)] .ret)))) (.seq (sR [qM 13 6] (jW 13 (sR [jI 4 1] .ret))) (.seq (sR [qM 14 0,qM 15 1,qT 16 .lss 14 15] (jW 16 (sR [jI 4 (-1)] .ret))) (.seq (sR [qM 17 0,qM 18 1,qT 19 .gtr 17 18] (jW 19 (sR [jI 4 1] .ret))) (sR [jI 4 0] .ret))))))))
theorem qhh:chkF Tryz.prog Tryz.f272 qg5 [.t 4] 20=true:=by kernel_rfl
abbrev qiZ:IC:=(sR [jI 4 0] (sR [qM 7 0,jC 8 134 [.t 7],qM 5 8] (sR [qM 9 1,jC 10 134 [.t 9],qM 6 10] (.seq (sR [qM 11 5] (jW 11 (.seq (sR [qM 12 6] (jW 12 (sR [jI 4 0] .ret))) (sR [jI 4 (-1)] .ret)))) (.seq (sR [qM 13 6] (jW 13 (sR [jI 4 1] .ret))) (.seq (sR [qM 14 0,qM 15 1,qT 16 .lss 14 15] (jW 16 (sR [jI 4 (-1)] .ret))) (.seq (sR [qM 17 0,qM 18 1,qT 19 .gtr 17 18] (jW 19 (sR [jI 4 1] .ret))) (sR [jI 4 0] .ret))))))))
theorem qjh:chkF Tryz.prog Tryz.f85 qiZ [.t 4] 20=true:=by kernel_rfl
def qgs:IC:=(sR [qT 9 .lss 8 7] (.seq (jE 9) (.seq (.block 1 (sR [qX 10 1 6 8,qL 11 10,qM 5 11] (sR [qM 12 5,qM 13 3,qT 14 .neq 12 13] (jW 14 (sR [qM 15 5,qM 2 15] .ret))))) (.reg [qB 16 .add 8 (cI 1),qM 8 16]))))
abbrev qnr:IC:=(sR [jI 2 0] (sR [jI 3 0] (.seq (sR [qM 6 0,qN 7 6,jI 8 0] (.block 0 (.loop qgs))) (sR [qM 17 3,qM 2 17] .ret))))
theorem qnK:chkF Tryz.prog Tryz.f201 qnr [.t 2] 18=true:=by kernel_rfl
def qbf:IC:=(sR [qT 12 .lss 11 10] (.seq (jE 12) (.seq (.block 1 (sR [qM 13 11,qX 14 1 9 11,qL 15 14,qM 5 13,qM 6 15] (.seq (sR [qM 16 5,qM 17 1,qN 18 17,qT 19 .geq 16 18] (jW 19 (sR [jI 4 1] .ret))) (sR [qM 20 1,qM 21 5,qX 22 1 20 21,qL 23 22,qM 7 23] (sR [qM 24 6,qM 25 7,jC 26 272 [.t 24,.t 25],qM 8 26] (sR [qM 27 8,qB 28 .neq 27 (cI 0)] (jW 28 (sR [qM 29 8,qM 4 29] .ret)))))))) (.reg [qB 30 .add 11 (cI 1),qM 11 30]))))
abbrev qdE:IC:=(sR [jI 4 0] (.seq (sR [qM 9 0,qN 10 9,jI 11 0] (.block 0 (.loop qbf))) (.seq (sR [qM 31 0,qN 32 31,qM 33 1,qN 34 33,qT 35 .lss 32 34] (jW 35 (sR [jI 4 (-1)] .ret))) (sR [jI 4 0] .ret))))
theorem qdI:chkF Tryz.prog Tryz.f245 qdE [.t 4] 36=true:=by kernel_rfl
theorem qu1:∀ a b:List UInt8,Lib.compareBytes a b=if bytesLess a b=true then -1 else if (!(bytesLess a b || decide (a=b)))=true then 1 else 0
 |[],[]=>by decide
 |[],b :: s=>by simp [Lib.compareBytes,bytesLess,Op.bytesLess]
 |a :: r,[]=>by simp [Lib.compareBytes,bytesLess,Op.bytesLess]
 |a :: r,b :: s=>by
  have ih:=qu1 r s
  have e:bytesLess (a :: r) (b :: s)=(decide (a < b) || (a == b && bytesLess r s)):=by simp [bytesLess,Op.bytesLess]
  simp only [Lib.compareBytes]
  rw [e]
  by_cases h1:a < b
  ·rw [if_pos h1,decide_eq_true h1]
   rfl
  ·rw [if_neg h1,decide_eq_false h1,Bool.false_or]
   by_cases h2:a=b
   ·subst h2
    rw [if_neg h1,ih]
    simp
   ·have h3:b < a:=by
     rw [UInt8.lt_iff_toNat_lt] at *
     have:a.toNat≠b.toNat:=fun e=>h2 (UInt8.toNat_inj.1 e)
     omega
    have h4:(a == b)=false:=by simpa using h2
    rw [if_pos h3,h4]
    simp [h2]
def sgnC (a b:Int):Int:=if a < b then -1 else if b < a then 1 else 0
section
variable {E:Envt}
theorem qoY (s:List UInt8):PCall Tryz.prog E 300 [.str s] (·=.bool false):=by
 refine qag mixed Tryz.func300 qiv ?_
 refine zV ?_
 simp
theorem qoZ (n:Int):PCall Tryz.prog E 134 [int n] (·=.bool false):=by
 refine qag mixed Tryz.func134 qkx ?_
 refine zV ?_
 simp
theorem qqX (a b:List UInt8):PCall Tryz.prog E 272 [.str a,.str b] (·=int (Lib.compareBytes a b)):=by
 refine qag mixed Tryz.func272 qhh ?_
 refine zV ?_
 refine use1 (qoY a) rfl (.inl rfl) ?_
 refine zS ?_
 refine use1 (qoY b) rfl (.inl rfl) ?_
 refine zS ?_
 rw [qu1]
 refine br ?_ ?_
 ·intro h
  refine zS ?_
  rw [if_pos h]
 intro h
 refine zS ?_
 refine br ?_ ?_
 ·intro h2
  refine zS ?_
  rw [if_neg (by rw [h];decide),if_pos h2]
 intro h2
 refine zS ?_
 rw [if_neg (by rw [h];decide),if_neg (by rw [h2];decide)]
theorem qiD (a b:Int):PCall Tryz.prog E 85 [int a,int b] (·=int (sgnC a b)):=by
 refine qag mixed Tryz.func85 qjh ?_
 refine zV ?_
 refine use1 (qoZ a) rfl (.inl rfl) ?_
 refine zS ?_
 refine use1 (qoZ b) rfl (.inl rfl) ?_
 refine zS ?_
 unfold sgnC
 refine br ?_ ?_
 ·intro h
  refine zS ?_
  rw [if_pos (of_decide_eq_true h)]
 intro h
 refine zS ?_
 refine br ?_ ?_
 ·intro h2
  refine zS ?_
  rw [if_neg (of_decide_eq_false h),if_pos (of_decide_eq_true h2)]
 intro h2
 refine zS ?_
 rw [if_neg (of_decide_eq_false h),if_neg (of_decide_eq_false h2)]
theorem qvn (l:List Int) (hl:l.length≤1000000):PCall Tryz.prog E 201 [ints l] (·=int (qai l)):=by
 refine qag mixed Tryz.func201 qnK ?_
 refine zV ?_
 simp only [ints,ZZ,WW,Zd,reduceCtorEq,zd,ze,zb,zf,za]
 generalize hes:l.map (fun x=>[PV.int IntKind.i64 x])=es
 have hln:es.length=l.length:=by rw [← hes];simp
 refine qac (fun n fr L=>∃ (k:Nat),k≤l.length∧n=l.length - k∧(qai l=qai (l.drop k))∧fr=(.p (.sl 1 es)::oo::.p (int 0)::.p (int 0)::oo::oo::.p (.sl 1 es)::.p (int (es.length:Nat))::.p (int (k:Nat))::oD (oo::[]))∧L=[]) (l.length) _ [] zF_ zF_ ⟨0,by omega,by omega,rfl,rfl,rfl⟩ ?_
 rintro n fr L ⟨k,hk,rfl,hF,rfl,rfl⟩
 simp only [qgs,ZZ,WW,Zd,reduceCtorEq,zd,ze,zb,zf,za]
 refine br ?_ ?_
 ·intro h
  have hlt:k < l.length:=by have:=of_decide_eq_true h;omega
  obtain ⟨x,hx⟩:∃ x,l[k]?=some x:=⟨_,zg hlt⟩
  have hg:es.getD k []=[.int .i64 x]:=by rw [← hes];exact qao hx
  have hd:=qba l k x hx
  simp only [ZZ,WW,Zd,reduceCtorEq,zd,ze,zb,zf,za,hg]
  ((with_reducible and_intros)<;>try exact sc_)
  refine br ?_ ?_
  ·intro h2
   have h3:¬ x=0:=by simpa using h2
   refine zS ?_
   rw [hF,hd,if_neg h3]
  ·intro h2
   have h3:x=0:=by simpa using h2
   rw [if_pos h3] at hd
   refine zS ?_
   ((with_reducible and_intros)<;>try exact sc_)
   refine qab (l.length - (k+1)) _ [] (by omega) zF_ zF_ ⟨k+1,by omega,rfl,by rw [hF,hd],rfl,rfl⟩
 ·intro h
  have hge:l.length≤k:=by have:=of_decide_eq_false h;omega
  refine zS ?_
  rw [hF,zL (by omega)]
  rfl
theorem qb7 (s t:List UInt8):PCall Tryz.prog E 200 [.str s,.str t] (·=int (Lib.compareBytes s t)):=
 qbm rfl rfl fun w _=>(Any.strings_Compare Tryz.layCompare ⟨s.toArray⟩ ⟨t.toArray⟩ w).mono fun e w' h=>⟨h.1,by rw [h.2];exact Grow.refl _ _⟩
def lexC:List (List UInt8)→List (List UInt8)→Int
 |[],[]=>0
 |[],_ :: _=>-1
 |_ :: _,[]=>1
 |a :: r,b :: s=>if Lib.compareBytes a b=0 then lexC r s else Lib.compareBytes a b
theorem qpI (u v:List (List UInt8)) (hu:u.length≤1000000) (hv:v.length≤1000000):PCall Tryz.prog E 245 [.sl 1 (strE u),.sl 1 (strE v)] (·=int (lexC u v)):=by
 refine qag mixed Tryz.func245 qdI ?_
 refine zV ?_
 simp only [ZZ,WW,Zd,reduceCtorEq,zd,ze,zb,zf,za,qaf]
 refine qac (fun n fr L=>∃ (k:Nat),k≤u.length∧n=u.length - k∧(lexC u v=lexC (u.drop k) (v.drop k)∧k≤v.length)∧fr=(.p (.sl 1 (strE u))::.p (.sl 1 (strE v))::oC (oB (oo::(.p (.sl 1 (strE u))::.p (int (u.length:Nat))::.p (int (k:Nat))::oE (oD [])))))∧L=[]) (u.length) _ [] (by simp only [ZZ,WW,Zd,reduceCtorEq,zd,ze,zb,zf,za,qaf];try trivial) zF_ ⟨0,by omega,by omega,⟨rfl,by omega⟩,rfl,rfl⟩ ?_
 rintro n fr L ⟨k,hk,rfl,hF,rfl,rfl⟩
 simp only [qbf,ZZ,WW,Zd,reduceCtorEq,zd,ze,zb,zf,za]
 obtain ⟨hF,hkv⟩:=hF
 refine br ?_ ?_
 ·intro h
  have hlt:k < u.length:=by have:=of_decide_eq_true h;omega
  obtain ⟨x,hx⟩:∃ x,u[k]?=some x:=⟨_,zg hlt⟩
  have hg:=qc3 hx
  have hdu:u.drop k=x :: u.drop (k+1):=by rw [yb hlt,(zk.1 hx).2]
  simp only [ZZ,WW,Zd,reduceCtorEq,zd,ze,zb,zf,za,hg,qaf]
  ((with_reducible and_intros)<;>try exact sc_)
  refine br ?_ ?_
  ·intro h2
   have hge:v.length≤k:=by have:=of_decide_eq_true h2;omega
   refine zS ?_
   rw [hF,hdu,zL hge]
   rfl
  intro h2
  have hlv:k < v.length:=by have:=of_decide_eq_false h2;omega
  obtain ⟨y,hy⟩:∃ y,v[k]?=some y:=⟨_,zg hlv⟩
  have hgy:=qc3 hy
  have hdv:v.drop k=y :: v.drop (k+1):=by rw [yb hlv,(zk.1 hy).2]
  simp only [ZZ,WW,Zd,reduceCtorEq,zd,ze,zb,zf,za,hgy,qaf]
  ((with_reducible and_intros)<;>try exact sc_)
  refine use1 (qqX x y) rfl (.inl rfl) ?_
  refine zS ?_
  refine br ?_ ?_
  ·intro h3
   have h4:¬ Lib.compareBytes x y=0:=by simpa using h3
   refine zS ?_
   rw [hF,hdu,hdv,lexC,if_neg h4]
  ·intro h3
   have h4:Lib.compareBytes x y=0:=by simpa using h3
   refine zS ?_
   ((with_reducible and_intros)<;>try exact sc_)
   refine qab (u.length - (k+1)) _ [] (by omega) zF_ zF_ ⟨k+1,by omega,rfl,⟨by rw [hF,hdu,hdv,lexC,if_pos h4],by omega⟩,rfl,rfl⟩
 ·intro h
  have hge:u.length=k:=by have:=of_decide_eq_false h;omega
  simp only [ZZ,WW,Zd,reduceCtorEq,zd,ze,zb,zf,za,qaf]
  rw [zL (by omega)] at hF
  refine br ?_ ?_
  ·intro h2
   have hlv:k < v.length:=by have:=of_decide_eq_true h2;omega
   refine zS ?_
   rw [hF,yb hlv]
   rfl
  ·intro h2
   have hlv:v.length≤k:=by have:=of_decide_eq_false h2;omega
   refine zS ?_
   rw [hF,zL hlv]
   rfl
end
section
variable {E:Envt}
theorem qn7 (l:List (List UInt8)) (f:FuncId) (ps:List PV) (q:List UInt8→Bool) (hl:l.length≤1000000000) (hfn:Unit→fnB Tryz.prog f=true) (hps:Zk [] (ps.map .p)=true) (hf:∀ x∈l,PCall Tryz.prog E f (.str x :: ps) (·=.bool (q x))) (hn:∀ x,Zbg [] (.p (.str x) :: ps.map .p)=some (.str x :: ps)) (hr:∀ x,Zbi (.p (.str x) :: ps.map .p)=true):PCall Tryz.prog E 138 [.sl 1 (strE l),.clo f ps] (·=int (idxF q l)):=by
 refine qag mixed Tryz.func138 qdc ?_
 refine zV ?_
 simp only [ZZ,WW,Zd,reduceCtorEq,zd,ze,zb,zf,za,qaf]
 refine qac (fun n fr L=>∃ (k:Nat),k≤l.length∧n=l.length - k∧(∀ x∈l.take k,q x=false)∧fr=(.p (.sl 1 (strE l))::.p (.clo f ps)::oC (oo::(.p (int (l.length:Nat))::.p (int (k:Nat))::oD (oB []))))∧L=[]) (l.length) _ [] (by simp only [qaf,ZZ,WW,Zd,reduceCtorEq,zd,ze,zb,zf,za];try trivial) zF_ ⟨0,by omega,by omega,by simp,rfl,rfl⟩ ?_
 rintro n fr L ⟨k,hk,rfl,hno,rfl,rfl⟩
 simp only [qa4,ZZ,WW,Zd,reduceCtorEq,zd,ze,zb,zf,za]
 refine br ?_ ?_
 ·intro h
  have hlt:k < l.length:=by have:=of_decide_eq_true h;omega
  obtain ⟨x,hx⟩:∃ x,l[k]?=some x:=⟨_,zg hlt⟩
  have hg:=qc3 hx
  simp only [ZZ,WW,Zd,reduceCtorEq,zd,ze,zb,zf,za,hg,qaf,hfn ()]
  refine ⟨⟨by omega,by omega⟩,by omega,hps,?_⟩
  refine use1 (hf x (zm hx)) (hn x) (.inl (hr x)) ?_
  refine zS ?_
  refine br ?_ ?_
  ·intro hq
   refine zS ?_
   rw [qf6 hx hq hno]
  ·intro hq
   refine zS ?_
   ((with_reducible and_intros)<;>try exact sc_)
   refine qab (l.length - (k+1)) _ [] (by omega) zF_ zF_ ⟨k+1,by omega,rfl,by rw [zo hlt];intro y hy;rcases zz.1 hy with hy|hy;exact hno y hy;rw [zy] at hy;rw [hy,(zk.1 hx).2];exact hq,rfl,rfl⟩
 ·intro h
  have hge:l.length≤k:=by have:=of_decide_eq_false h;omega
  rw [zq hge] at hno
  refine zS ?_
  rw [qd2 hno]
theorem qbM (l:List (List UInt8)) (f:FuncId) (ps:List PV) (q:List UInt8→Bool) (hl:l.length≤1000000000) (hfn:Unit→fnB Tryz.prog f=true) (hps:Zk [] (ps.map .p)=true) (hf:∀ x∈l,PCall Tryz.prog E f (.str x :: ps) (·=.bool (q x))) (hn:∀ x,Zbg [] (.p (.str x) :: ps.map .p)=some (.str x :: ps)) (hr:∀ x,Zbi (.p (.str x) :: ps.map .p)=true):PCall Tryz.prog E 92 [.sl 1 (strE l),.clo f ps] (·=.bool (l.any q)):=by
 refine qag mixed Tryz.func92 qcD ?_
 refine zV ?_
 refine use1 (qn7 l f ps q hl hfn hps hf hn hr) rfl (.inl rfl) ?_
 refine zS ?_
 rw [qi8]
end
def RulIs (kv:List (List UInt8×PV)) (l:List Rul):Prop:=∀ s,(∃ r,l.reverse.find? (fun r=>decide (r.id=s))=some r∧mpF kv s=some (.agg (rlV r)))∨(l.reverse.find? (fun r=>decide (r.id=s))=none∧(mpF kv s=none∨mpF kv s=some (.agg [.str s,int 3,.nl 2])))
theorem RulIs.nil:RulIs [] []:=fun s=>.inr ⟨rfl,.inl rfl⟩
theorem RulIs.leave {kv:List (List UInt8×PV)} (h:RulIs kv []) (s:List UInt8):RulIs (mpS kv s (.agg [.str s,int 3,.nl 2])) []:=fun t=>by
 refine .inr ⟨rfl,?_⟩
 rw [qg0]
 by_cases hs:s=t
 ·rw [if_pos hs,hs]
  exact .inr rfl
 ·rw [if_neg hs]
  rcases h t with ⟨r,h1,_⟩|⟨_,h2⟩
  ·cases h1
  ·exact h2
theorem RulIs.put {kv:List (List UInt8×PV)} {l:List Rul} (h:RulIs kv l) (r:Rul):RulIs (mpS kv r.id (.agg (rlV r))) (l++[r]):=fun s=>by
 rw [qg0,List.reverse_append,List.reverse_singleton,List.singleton_append,List.find?_cons]
 by_cases hs:r.id=s
 ·rw [if_pos hs]
  exact .inl ⟨r,by simp [hs],rfl⟩
 ·rw [if_neg hs]
  simp only [hs,decide_false]
  exact h s
theorem qkN:∀ {l:List Rul} (s:List UInt8),(l.map (·.id)).Nodup→l.reverse.find? (fun r=>decide (r.id=s))=l.find? fun r=>decide (r.id=s)
 |[],s,_=>rfl
 |r :: t,s,h=>by
  rw [zx,List.nodup_cons] at h
  rw [List.reverse_cons,List.find?_append,qkN s h.2]
  simp only [List.find?_cons,List.find?_nil]
  by_cases hs:r.id=s
  ·have:t.find? (fun r=>decide (r.id=s))=none:=by
    rw [List.find?_eq_none]
    intro x hx e
    rw [decide_eq_true_eq] at e
    exact h.1 (zG.2 ⟨x,hx,by rw [e,hs]⟩)
   rw [this]
   simp [hs]
  ·simp only [hs,decide_false]
   generalize t.find? (fun r=>decide (r.id=s))=q
   cases q<;>simp [hs]
theorem RulIs.what {kv:List (List UInt8×PV)} {l:List Rul} (h:RulIs kv l) (hn:(l.map (·.id)).Nodup) (s:List UInt8):∃ i w v,(mpF kv s).getD (.agg [.str [],int 0,.nl 2])=.agg [i,int w,v]∧decide (w=1)=qmQ l s:=by
 unfold qmQ rlOf
 rcases h s with ⟨r,h1,h2⟩|⟨h1,h2|h2⟩
 ·rw [qkN s hn] at h1
  exact ⟨_,_,_,by rw [h2];rfl,by rw [h1];rfl⟩
 ·rw [qkN s hn] at h1
  exact ⟨_,_,_,by rw [h2];rfl,by rw [h1];rfl⟩
 ·rw [qkN s hn] at h1
  exact ⟨_,_,_,by rw [h2];rfl,by rw [h1];rfl⟩
theorem cf3 {α:Type} (a b c:α→α→Int) (x y:α):orC a (orC b c) x y=qai [a x y,b x y,c x y]:=by
 unfold orC qai qai qai qai
 split
 ·split
  ·split
   ·assumption
   ·rfl
  ·rfl
 ·rfl
section
variable {E:Envt}
end
def ctB (c:UInt8):Bool:=decide (c.toNat / 64=2)
def NcP (l:List UInt8):Prop:=∀ i,i+3 < l.length→∃ j,j≤3∧ctB (l.getD (i+j) 0)=false
theorem qic {l:List UInt8} (h:NcP l) (k:Nat):NcP (l.drop k):=by
 intro i hi
 rw [zY] at hi
 obtain ⟨j,hj,e⟩:=h (k+i) (by omega)
 refine ⟨j,hj,?_⟩
 rw [yk,yd,← Nat.add_assoc,← yk]
 exact e
theorem qzh {l:List UInt8} (h:NcP l) (k:Nat):NcP (l.take k):=by
 intro i hi
 rw [zJ] at hi
 obtain ⟨j,hj,e⟩:=h i (by omega)
 refine ⟨j,hj,?_⟩
 rw [yk,List.getElem?_take,if_pos (by omega),← yk]
 exact e
theorem qwX:∀ b:Fin 256,ctB (UInt8.ofNat b.val)=true→128≤b.val∧¬ Lib.firstT b.val % 8=2∧¬ Lib.firstT b.val % 8=3∧¬ Lib.firstT b.val % 8=4:=by decide +kernel
theorem quS (c:UInt8) (h:ctB c=true):128≤c.toNat∧¬ Lib.firstT c.toNat % 8=2∧¬ Lib.firstT c.toNat % 8=3∧¬ Lib.firstT c.toNat % 8=4:=by
 have:=qwX ⟨c.toNat,c.toNat_lt⟩
 simp only [UInt8.ofNat_toNat] at this
 exact this h
theorem ql5 {l:List UInt8} (hl:Lib.validD l=true) (hne:l≠[]):ctB (l.getD 0 0)=false:=by
 cases h:ctB (l.getD 0 0) with
 |false=>rfl
 |true=>
  exfalso
  obtain ⟨h1,h2,h3,h4⟩:=quS _ h
  rw [Lib.validD_lead l hne h1] at hl
  unfold Lib.checkN at hl
  rw [if_neg h2,if_neg h3,if_neg h4] at hl
  cases hl
theorem qrY {n a b c sz lo hi k:Nat} (h:Lib.checkN n a b c sz lo hi=some k):1≤k∧k≤4:=by
 unfold Lib.checkN at h
 repeat' split at h
 all_goals first|(cases h;done)|(cases h;omega)
theorem qse {l:List UInt8} (hl:Lib.validD l=true) (hne:l≠[]):∃ k,1≤k∧k≤4∧Lib.validD (l.drop k)=true:=by
 by_cases h:128≤(l.getD 0 0).toNat
 ·rw [Lib.validD_lead l hne h] at hl
  split at hl
  ·cases hl
  ·rename_i k hk
   exact ⟨k,(qrY hk).1,(qrY hk).2,hl⟩
 ·cases l with
  |nil=>exact absurd rfl hne
  |cons b t=>
   simp only [List.getD_cons_zero] at h
   rw [Lib.validD_cons b t (by omega)] at hl
   exact ⟨1,by omega,by omega,hl⟩
theorem qrC:∀ (n:Nat) (l:List UInt8),l.length≤n→Lib.validD l=true→NcP l
 |0,l,hn,_=>fun i hi=>by omega
 |n+1,l,hn,hl=>by
  by_cases hne:l=[]
  ·subst hne
   intro i hi
   simp at hi
  ·have h0:=ql5 hl hne
   obtain ⟨k,h1,h2,h3⟩:=qse hl hne
   have ih:=qrC n (l.drop k) (by rw [zY];have:=List.length_pos_iff.2 hne;omega) h3
   intro i hi
   by_cases hik:k≤i
   ·obtain ⟨j,hj,e⟩:=ih (i - k) (by rw [zY];omega)
    refine ⟨j,hj,?_⟩
    rw [yk,yd,← yk,show k+(i - k+j)=i+j from by omega] at e
    exact e
   ·by_cases hi0:i=0
    ·subst hi0
     exact ⟨0,by omega,h0⟩
    ·have h4:=ql5 h3 (by intro e;have:=congrArg List.length e;rw [zY] at this;simp at this;omega)
     rw [yk,yd,← yk] at h4
     refine ⟨k - i,by omega,?_⟩
     rw [show i+(k - i)=k+0 from by omega]
     exact h4
theorem qrf (c:UInt8):∀ s:List UInt8,(∃ n,(sp c s).headD []=s.take n)∧∀ x∈sp c s,∃ a n,x=(s.drop a).take n
 |[]=>⟨⟨0,rfl⟩,fun x hx=>⟨0,0,by simpa [sp] using hx⟩⟩
 |y :: s=>by
  obtain ⟨⟨n,h1⟩,h2⟩:=qrf c s
  rw [sp]
  split
  ·refine ⟨⟨0,rfl⟩,fun x hx=>?_⟩
   rcases zC.1 hx with rfl|hx
   ·exact ⟨0,0,rfl⟩
   ·obtain ⟨a,m,e⟩:=h2 x hx
    exact ⟨a+1,m,by simpa using e⟩
  ·refine ⟨⟨n+1,show y :: (sp c s).headD []=y :: s.take n by rw [h1]⟩,fun x hx=>?_⟩
   rcases zC.1 hx with rfl|hx
   ·exact ⟨0,n+1,show y :: (sp c s).headD []=y :: s.take n by rw [h1]⟩
   ·obtain ⟨a,m,e⟩:=h2 x (List.mem_of_mem_tail hx)
    exact ⟨a+1,m,by simpa using e⟩
theorem qCu {c:UInt8} {s:List UInt8} (h:NcP s):∀ x∈sp c s,NcP x:=by
 intro x hx
 obtain ⟨a,n,rfl⟩:=(qrf c s).2 x hx
 exact qzh (qic h a) n
theorem qny {l:List UInt8} {i:Nat} (h:i < l.length):insE l (i:Int)=ctB (l.getD i 0):=by
 unfold insE ctB
 rw [Int.toNat_natCast,yx]
 simp only [zj,decide_eq_true_eq]
 omega
def liW (l:List UInt8):Int:=Lib.lastIndexByte ⟨(l.take 81).toArray⟩ 32
def brkB (l:List UInt8):Bool:=decide (0 < liW l) && !decide (Lib.trimS (l.take (liW l).toNat) [32]=[])
def wrF:Nat→List UInt8→SRow
 |0,l=>[l]
 |n+1,l=>if 80 < l.length then (if brkB l=true then l.take (liW l).toNat :: wrF n (l.drop ((liW l).toNat+1)) else l.take (qbk l 80) :: wrF n (l.drop (qbk l 80))) else [l]
theorem qgN {n:Nat} {l:List UInt8} (h:l.length≤80):wrF n l=[l]:=by
 cases n with
 |zero=>rfl
 |succ n=>rw [wrF,if_neg (by omega)]
theorem qnX {l:List UInt8} (h:NcP l) (hl:80 < l.length):77≤qbk l 80∧ctB (l.getD (qbk l 80) 0)=false:=by
 obtain ⟨j,hj,e⟩:=h 77 (by omega)
 have key:∀ n,77+j≤n→n≤80→77+j≤qbk l n∧ctB (l.getD (qbk l n) 0)=false:=by
  intro n
  induction n with
  |zero=>intro h;omega
  |succ n ih=>
   intro h1 h2
   rw [qbk]
   by_cases hc:insE l ((n+1:Nat):Int)=true
   ·rw [if_pos hc]
    by_cases hn:77+j=n+1
    ·rw [qny (by omega),← hn,e] at hc;cases hc
    ·exact ih (by omega) (by omega)
   ·rw [if_neg hc]
    rw [qny (by omega)] at hc
    exact ⟨h1,by simpa using hc⟩
 have:=key 80 (by omega) (by omega)
 exact ⟨by omega,this.2⟩
theorem qpV:∀ (n:Nat) (l:List UInt8),(wrF n l).length≤n+1
 |0,l=>by simp [wrF]
 |n+1,l=>by
  rw [wrF]
  split
  ·split
   ·have:=qpV n (l.drop ((liW l).toNat+1))
    simp;omega
   ·have:=qpV n (l.drop (qbk l 80))
    simp;omega
  ·simp
def qfo (ls:SRow):SRow:=ls.flatMap fun l=>wrF l.length l
theorem qkV (ls:SRow):(qfo ls).length≤wgt ls:=by
 induction ls with
 |nil=>simp [qfo]
 |cons x r ih=>
  have:=qpV x.length x
  unfold qfo at ih ⊢
  rw [List.flatMap_cons,zp,wgt]
  omega
theorem qsb {ls:SRow} {k:Nat} {s:List UInt8} (h:ls[k]?=some s):qfo (ls.take (k+1))=qfo (ls.take k)++wrF s.length s:=by
 obtain ⟨hk,rfl⟩:=zk.1 h
 rw [zo hk,qfo,qfo,List.flatMap_append]
 simp
theorem qmz {ls:SRow} {k:Nat}:(qfo (ls.take k)).length≤(qfo ls).length:=by
 conv=>rhs;rw [← yt k ls]
 rw [qfo,qfo,List.flatMap_append,zp]
 omega
abbrev qhL:IC:=(sR [qO 2 (.mov (.c (.nl 1)))] (sR [qM 4 0,jC 5 209 [.t 4,.c (.str [10])],qM 3 5] (sR [qM 6 3,qM 7 3,qN 8 7,qB 9 .sub 8 (cI 1),qO 10 (.vsl 1 (.t 6) none (some (.t 9))),qM 2 10] .ret)))
theorem qhT:chkF Tryz.prog Tryz.f165 qhL [.t 2] 11=true:=by kernel_rfl
abbrev qe8:IC:=(sR [qO 2 (.mov (.c (.bool false)))] (sR [qM 3 0,qB 4 .and 3 (.c (.int .u8 192)),qB 5 .neq 4 (.c (.int .u8 128)),qM 2 5] .ret))
theorem qff:chkF Tryz.prog Tryz.f168 qe8 [.t 2] 6=true:=by kernel_rfl
section
variable {E:Envt}
theorem qA7 (s:List UInt8) (c:UInt8):-1≤liF s c∧liF s c < s.length∨s=[]∧liF s c=-1:=by
 rcases Lib.lastIndexByte_spec ⟨s.toArray⟩ (c.toNat:Nat) with ⟨h1,h2⟩|⟨i,h0,h1,h2,h3⟩
 ·by_cases h:s=[]
  ·exact .inr ⟨h,h1⟩
  ·have:=List.length_pos_iff.2 h
   refine .inl ?_
   rw [liF,h1];omega
 ·rw [qfn] at h0
  refine .inl ?_
  rw [liF,h1];omega
theorem qyO:∀ n:Fin 256,(!decide (bitA IntKind.u8 (((UInt8.ofNat n.val).toNat:Nat):Int) 192=128))=!ctB (UInt8.ofNat n.val):=by decide +kernel
theorem qpL (c:UInt8):PCall Tryz.prog E 168 [.int .u8 (c.toNat:Nat)] (·=.bool (!ctB c)):=by
 refine qag mixed Tryz.func168 qff ?_
 refine zV ?_
 have:=qyO ⟨c.toNat,c.toNat_lt⟩
 simp only [UInt8.ofNat_toNat] at this
 rw [this]
end
def qel (s:List UInt8):List (List UInt8)×Bool:=if s=[] then ([],true) else (splF (qqE s [10]).1 10,(qqE s [10]).2)
theorem qyn (s:List UInt8) (c:UInt8):splF s c≠[]:=by
 have hl:=Lib.splitB_all ⟨#[c]⟩ (zD 1) 0 _ (⟨s.toArray⟩:ByteArray) rfl
 intro h
 have:=congrArg List.length h
 simp [splF,hl] at this
def qfQ (s:List UInt8):List (List UInt8):=(splF s 10).take ((splF s 10).length - 1)
theorem qsx (s:List UInt8) (hs:s.length≤1000000000):PCall Tryz.prog E0 165 [.str s] (·=strs (qfQ s)):=by
 refine qag mixed Tryz.func165 qhT ?_
 refine zV ?_
 refine use1 (qxp s 10 hs) rfl (.inl rfl) ?_
 rw [qeD]
 have h1:=qvO s 10
 have h2:=qyn s 10
 have h3:0 < (splF s 10).length:=List.length_pos_iff.2 h2
 have h4:(((splF s 10).length:Int) - 1).toNat=(splF s 10).length - 1:=by omega
 have h5:strs (qfQ s)=.sl 1 ((strE (splF s 10)).take ((splF s 10).length - 1)):=by rw [qeD,qfQ,strE,List.map_take];rfl
 rw [h5]
 simp only [ZZ,WW,Zd,reduceCtorEq,zd,ze,zb,zf,za,qaf,h4]
 exact ⟨qal (by omega) (by omega),by omega,by omega⟩
theorem qrF {s:List UInt8} (h:qjy s=true):qfQ s=(qel s).1:=by
 by_cases h0:s=[]
 ·subst h0
  rw [qel,if_pos rfl,qfQ,qk1]
  rfl
 ·have h1:sufE s [10]=true:=by
   simp only [qjy,h0,decide_false,Bool.false_or,zj] at h
   exact h.2
  have h2:=h1
  simp only [sufE,zj,decide_eq_true_eq,zK,List.length_nil] at h2
  have e:s=s.take (s.length - 1)++10 :: []:=by
   conv=>lhs;rw [← yt (s.length - 1) s]
   rw [h2.2]
  rw [qel,if_neg h0]
  simp only [qqE,if_pos h1,zK,List.length_nil]
  rw [qfQ,qk1,qk1]
  generalize ht:s.take (s.length - (0+1))=t
  rw [show s.length - (0+1)=s.length - 1 from rfl] at ht
  rw [ht] at e
  rw [e,qAr]
  simp [sp]
theorem qvF (k:Nat) (a:SRow):wgt (a.take k)≤wgt a:=by
 conv=>rhs;rw [← yt k a]
 rw [qx8]
 omega
theorem qid {s:List UInt8} (h:qjy s=true):wgt (qel s).1≤s.length+1∧(qel s).1.length≤s.length+1∧∀ x∈(qel s).1,NcP x∧x.length≤s.length:=by
 rw [← qrF h]
 have hv:Lib.validD s=true:=by
  have:=(Bool.and_eq_true_iff.1 h).1
  exact (Bool.and_eq_true_iff.1 this).2
 have hn:=qrC s.length s (zD _) hv
 have h1:=qvF ((splF s 10).length - 1) (splF s 10)
 have h2:=qAp 10 s
 rw [← qk1] at h2
 have h3:=qx7 (qfQ s)
 refine ⟨by unfold qfQ;omega,by unfold qfQ at h3 ⊢;omega,fun x hx=>?_⟩
 have hx2:x∈splF s 10:=List.take_subset _ _ hx
 refine ⟨?_,qvN s 10 x hx2⟩
 rw [qk1] at hx2
 exact qCu hn x hx2
def pgIn (p:SRow) (k:Nat):Tab:=(zA ((k - 1) / 50)).map (pgF p)
def pgCu (p:SRow) (k:Nat):SRow:=(p.take k).drop ((k - 1) / 50 * 50)
theorem qm9 {p:SRow} {k:Nat} (hk:k≤p.length):(pgCu p k).length=k - (k - 1) / 50 * 50:=by
 rw [pgCu,zY,zJ,Nat.min_eq_left hk]
theorem qwe (p:SRow) (k:Nat):(pgIn p k).length=(k - 1) / 50:=by simp [pgIn]
theorem qkZ {p:SRow} {k:Nat} {s:List UInt8} (h:p[k]?=some s):p.take (k+1)=p.take k++[s]:=by
 obtain ⟨hk,rfl⟩:=zk.1 h
 exact zo hk
theorem qAN {p:SRow} {s:List UInt8} (h:p[0]?=some s):pgIn p 1=[]∧pgCu p 1=[s]:=by
 refine ⟨rfl,?_⟩
 rw [pgCu,qkZ h]
 rfl
theorem qy6 {p:SRow} {k:Nat} {s:List UInt8} (hk:0 < k) (h50:(pgCu p k).length=50) (h:p[k]?=some s):pgIn p (k+1)=pgIn p k++[pgCu p k]∧pgCu p (k+1)=[s]:=by
 have hl:=(zk.1 h).1
 rw [qm9 (by omega)] at h50
 have e:(k+1 - 1) / 50=(k - 1) / 50+1:=by omega
 have e2:((k - 1) / 50+1) * 50=k:=by omega
 refine ⟨?_,?_⟩
 ·rw [pgIn,e,List.range_succ,zF]
  congr 1
  rw [zx,List.map_nil,pgF,pgCu,List.drop_take,h50]
 ·rw [pgCu,e,e2,qkZ h,List.drop_append_of_le_length (by rw [zJ];omega)]
  rw [zL (by rw [zJ];omega)]
  rfl
theorem qy5 {p:SRow} {k:Nat} {s:List UInt8} (hk:0 < k) (h50:¬ (pgCu p k).length=50) (h:p[k]?=some s):pgIn p (k+1)=pgIn p k∧pgCu p (k+1)=pgCu p k++[s]:=by
 have hl:=(zk.1 h).1
 rw [qm9 (by omega)] at h50
 have e:(k+1 - 1) / 50=(k - 1) / 50:=by omega
 refine ⟨by rw [pgIn,e];rfl,?_⟩
 rw [pgCu,e,qkZ h,List.drop_append_of_le_length (by rw [zJ];omega)]
 rfl
theorem qAO {p:SRow} (h:¬ p=[]):pgIn p p.length++[pgCu p p.length]=pgsF p:=by
 have hl:0 < p.length:=by have:=mt zr h;omega
 have e:(p.length+49) / 50=(p.length - 1) / 50+1:=by omega
 rw [pgsF,if_neg h,e,List.range_succ,zF]
 congr 1
 rw [zx,List.map_nil,pgCu,List.take_length,pgF,zq (by rw [zY];omega)]
theorem qy7 {p:SRow} {k:Nat} (hk:k≤p.length):(pgCu p k).length≤50:=by
 rw [qm9 hk];omega
def qjx (x:Itm):List UInt8:=x.2.2.2.2.2.2
def pgR (il:List Itm) (l:List Rul) (s:Stp) (id:List UInt8):Tab:=
 if (rlOf l id).what=1 then pgsF (qfo (qel (qci (qjx (itOf il id)) (rlOf l id).spans)).1) else if (rlOf l id).what=2 then [[s.slip]] else [[s.skip]]
def kdR (l:List Rul) (id:List UInt8):Int:=if (rlOf l id).what=1 then 1 else if (rlOf l id).what=2 then 2 else 3
def shM (il:List Itm) (l:List Rul) (s:Stp) (n:Int) (p:List UInt8×List UInt8):Sht:=⟨p.2,p.1,kdR l p.2,n+1,n+(pgR il l s p.2).length,pgR il l s p.2,1⟩
def shsM (il:List Itm) (l:List Rul) (s:Stp):Int→List (List UInt8×List UInt8)→List Sht
 |_,[]=>[]
 |n,p :: r=>shM il l s n p :: shsM il l s (n+(pgR il l s p.2).length) r
def totM (il:List Itm) (l:List Rul) (s:Stp):List (List UInt8×List UInt8)→Int
 |[]=>0
 |p :: r=>(pgR il l s p.2).length+totM il l s r
theorem qoj (il:List Itm) (l:List Rul) (s:Stp):∀ (ps:List (List UInt8×List UInt8)) (p:List UInt8×List UInt8),totM il l s (ps++[p])=totM il l s ps+(pgR il l s p.2).length
 |[],p=>by simp [totM]
 |q :: r,p=>by
  rw [yi,totM,totM,qoj il l s r p]
  omega
theorem qmJ (il:List Itm) (l:List Rul) (s:Stp):∀ ps:List (List UInt8×List UInt8),0≤totM il l s ps
 |[]=>Int.le_refl _
 |q :: r=>by
  have:=qmJ il l s r
  rw [totM]
  omega
theorem qon (il:List Itm) (l:List Rul) (s:Stp):∀ (n:Int) (ps:List (List UInt8×List UInt8)) (p:List UInt8×List UInt8),shsM il l s n (ps++[p])=shsM il l s n ps++[shM il l s (n+totM il l s ps) p]
 |n,[],p=>by simp [shsM,totM]
 |n,q :: r,p=>by
  rw [yi,shsM,shsM,qon il l s _ r p,totM,yi,Int.add_assoc]
theorem qhz (il:List Itm) (l:List Rul) (s:Stp):∀ (n:Int) (ps:List (List UInt8×List UInt8)),(shsM il l s n ps).length=ps.length
 |n,[]=>rfl
 |n,q :: r=>by rw [shsM,zK,zK,qhz il l s _ r]
theorem qri {il:List Itm} {l:List Rul} {s:Stp}:∀ {n:Int} {ps:List (List UInt8×List UInt8)} {x:Sht},x∈shsM il l s n ps→∃ p q,p++[q] <+: ps∧x=shM il l s (n+totM il l s p) q
 |n,[],x,h=>by simp [shsM] at h
 |n,q :: r,x,h=>by
  rw [shsM,zC] at h
  rcases h with rfl|h
  ·exact ⟨[],q,⟨r,rfl⟩,by simp [totM]⟩
  ·obtain ⟨p,q2,⟨t,ht⟩,rfl⟩:=qri h
   refine ⟨q :: p,q2,⟨t,by rw [← ht];rfl⟩,?_⟩
   rw [totM,Int.add_assoc]
def famP (il:List Itm) (t:List UInt8):List (List UInt8×List UInt8):=(t :: qfS il t).map fun i=>(t,i)
def prsM (il:List Itm) (l:List Rul) (ord:Int):List (List UInt8×List UInt8):=(chS il l ord).flatMap (famP il)
def pagT (past:List Prd) (pre:List UInt8):List Int:=past.flatMap fun q=>if q.pre=pre then q.shs.map (·.to_) else []
def qql (past:List Prd) (pre:List UInt8):Int:=(pagT past pre).foldl max 0
theorem quG (l:List Int) (x n:Int):(l++[x]).foldl max n=max (l.foldl max n) x:=by rw [List.foldl_append];rfl
theorem quH {B:Int}:∀ (l:List Int) (n:Int),0≤n→n≤B→(∀ x∈l,x≤B)→0≤l.foldl max n∧l.foldl max n≤B
 |[],n,h0,h1,_=>⟨h0,h1⟩
 |x :: r,n,h0,h1,h=>by
  have h2:=h x (by simp)
  exact quH r (max n x) (by omega) (by omega) fun y hy=>h y (by simp [hy])
def idsT (past:List Prd):List (List UInt8):=past.flatMap fun q=>q.shs.map (·.id)
theorem qwE (past:List Prd) (s:List UInt8):decide (s∈idsT past)=qh2 past s:=by
 unfold idsT qh2
 rw [yx,decide_eq_true_eq,List.mem_flatMap,yw]
 constructor
 ·rintro ⟨q,hq,h⟩
  obtain ⟨y,hy,rfl⟩:=zG.1 h
  exact ⟨q,hq,yw.2 ⟨y,hy,by simp⟩⟩
 ·rintro ⟨q,hq,h⟩
  obtain ⟨y,hy,e⟩:=yw.1 h
  exact ⟨q,hq,zG.2 ⟨y,hy,by simpa using e⟩⟩
def pmA (il:List Itm) (l:List Rul) (s:Stp) (past:List Prd):Int:=qai [rulF il l,setF s,pdsF past]
def pmB (il:List Itm) (l:List Rul) (s:Stp) (past:List Prd):Int:=
 if ((prsM il l s.ord).any fun p=>qh2 past p.2)=true then 6 else if prsM il l s.ord=[] then 8 else if s.most < totM il l s (prsM il l s.ord) then 2
 else if powF s.dig≤qql past s.pre+totM il l s (prsM il l s.ord) then 12 else 0
def pmE (il:List Itm) (l:List Rul) (s:Stp) (past:List Prd):Int:=
 if pmA il l s past=0 then (if past.length=200 then 12 else pmB il l s past) else pmA il l s past
def pmP (il:List Itm) (l:List Rul) (s:Stp) (past:List Prd):Prd:=
 if pmE il l s past=0 then ⟨(past.length:Nat)+1,s.pre,s.dig,shsM il l s (qql past s.pre) (prsM il l s.ord)⟩ else pd0
structure ShB (x:Sht):Prop where
 id:x.id.length≤1000
 top:x.top.length≤1000
 kind:-1000≤x.kind∧x.kind≤1000
 fr_:-100000000000≤x.fr_∧x.fr_≤100000000000
 to_:-100000000000≤x.to_∧x.to_≤100000000000
 pages:x.pages.length≤100000
 page:∀ p∈x.pages,p.length≤1000000∧∀ z∈p,z.length≤1000000
 ver:-1000000≤x.ver∧x.ver≤1000000
structure PdB (p:Prd):Prop where
 no:-1000000≤p.no∧p.no≤1000000
 pre:p.pre.length≤1000
 dig:-1000≤p.dig∧p.dig≤1000
 shs:p.shs.length≤1000
 all:∀ x∈p.shs,ShB x
theorem qAP:PdB pd0:=⟨by decide,by decide,by decide,by decide,fun x hx=>by cases hx⟩
theorem qBP:ShB sh0:=⟨by decide,by decide,by decide,by decide,by decide,by decide,(fun p hp=>by cases hp),by decide⟩
theorem qrw {past:List Prd} (h:pdsF past=0):∀ q∈past,∀ x∈q.shs,1≤x.fr_∧x.fr_≤x.to_∧x.to_≤1000000000:=by
 intro q hq x hx
 have h2:qai ((zA past.length).map (pdsA past))=0:=by
  unfold pdsF at h
  split at h
  ·cases h
  ·exact h
 obtain ⟨j,hj⟩:=zQ hq
 have hjl:=(zk.1 hj).1
 have h3:=qaz h2 _ (zG.2 ⟨j,List.mem_range.2 hjl,rfl⟩)
 have h4:=qgV h3
 have e:past.getD j pd0=q:=by simp [zu,hj]
 rw [e] at h4
 obtain ⟨_,_,hh,h5⟩:=qh9 h4
 obtain ⟨k,hk⟩:=zQ hx
 have h6:=qfP h5 k (zk.1 hk).1
 have e2:q.shs.getD k sh0=x:=by simp [zu,hk]
 rw [e2] at h6
 have hd:q.dig≤9:=by
  unfold qd3 at hh
  have:=qaz hh (qak (!inE q.dig 4 9) 1) (by simp)
  rw [qfp (by decide)] at this
  simp only [Bool.not_eq_false',inE,zj,decide_eq_true_eq,zW,decide_eq_false_iff_not] at this
  omega
 have:=(qle hd).2
 omega
theorem qnn {past:List Prd} (h:∀ q∈past,∀ x∈q.shs,x.to_≤1000000000) (pre:List UInt8):0≤qql past pre∧qql past pre≤1000000000:=by
 refine quH _ 0 (by omega) (by omega) fun x hx=>?_
 obtain ⟨q,hq,hx⟩:=List.mem_flatMap.1 hx
 split at hx
 ·obtain ⟨y,hy,rfl⟩:=zG.1 hx
  exact h q hq y hy
 ·cases hx
theorem qwK {il:List Itm} {id:List UInt8} {x:Itm} (h:getI il id=some x):x∈il∧x.1=id:=by
 unfold getI at h
 exact ⟨List.mem_of_find?_eq_some h,by simpa using List.find?_some h⟩
theorem qxG {il:List Itm} (hP:qbl il) (id:List UInt8):(qjx (itOf il id)).length≤600∧okTx (qjx (itOf il id))=true∧(qjx (itOf il id)=[]∨sufE (qjx (itOf il id)) [10]=true):=by
 unfold itOf
 cases h:getI il id with
 |none=>exact ⟨by decide,rfl,.inl rfl⟩
 |some x=>
  obtain ⟨hm,_⟩:=qwK h
  obtain ⟨i,hi⟩:=zQ hm
  exact (hP.2 i x hi).b7
theorem qtC {il:List Itm} (hP:qbl il) (id:List UInt8) (l:List (Int×Int)):(qci (qjx (itOf il id)) l).length≤600∧qjy (qci (qjx (itOf il id)) l)=true:=by
 obtain ⟨h1,h2,h3⟩:=qxG hP id
 refine ⟨by rw [qsm];exact h1,?_⟩
 unfold qjy
 rw [qne _ _ (zD _) (qtB h2),yc,Bool.or_eq_true,decide_eq_true_eq]
 exact qsl h3
theorem qpU:∀ (n:Nat) (l:List UInt8),∀ x∈wrF n l,x.length≤l.length
 |0,l=>by simp [wrF]
 |n+1,l=>by
  rw [wrF]
  split
  ·split
   ·intro x hx
    rcases zC.1 hx with rfl|hx
    ·simp;omega
    ·have:=qpU n _ x hx
     simp at this;omega
   ·intro x hx
    rcases zC.1 hx with rfl|hx
    ·simp;omega
    ·have:=qpU n _ x hx
     simp at this;omega
  ·simp
theorem qtN (L:SRow):0 < (pgsF L).length∧(pgsF L).length≤L.length+1∧∀ r∈pgsF L,r.length≤50∧∀ z∈r,z∈L:=by
 unfold pgsF
 split
 ·exact ⟨by simp,by simp,by simp⟩
 ·rename_i hne
  have:=List.length_pos_iff.2 hne
  refine ⟨by rw [zw,List.length_range];omega,by rw [zw,List.length_range];omega,fun r hr=>?_⟩
  obtain ⟨k,_,rfl⟩:=zG.1 hr
  rw [pgF]
  exact ⟨by rw [zJ];omega,fun z hz=>List.mem_of_mem_drop (List.mem_of_mem_take hz)⟩
theorem qtO {il:List Itm} (hP:qbl il) (l:List Rul) {s:Stp} (hs:StB s) (id:List UInt8):0 < (pgR il l s id).length∧(pgR il l s id).length≤1000∧∀ p∈pgR il l s id,p.length≤1000∧∀ z∈p,z.length≤1000:=by
 unfold pgR
 split
 ·obtain ⟨h1,h2⟩:=qtC hP id (rlOf l id).spans
  generalize qci (qjx (itOf il id)) (rlOf l id).spans=t at h1 h2 ⊢
  obtain ⟨f1,f2,f3⟩:=qid h2
  have w1:=qkV (qel t).1
  obtain ⟨g1,g2,g3⟩:=qtN (qfo (qel t).1)
  refine ⟨g1,by omega,fun p hp=>⟨by have:=(g3 p hp).1;omega,fun z hz=>?_⟩⟩
  obtain ⟨x,hx,hz2⟩:=List.mem_flatMap.1 ((g3 p hp).2 z hz)
  have:=qpU x.length x z hz2
  have:=(f3 x hx).2
  omega
 ·split
  ·refine ⟨by simp,by simp,fun p hp=>?_⟩
   rw [zy] at hp
   subst hp
   exact ⟨by simp,fun z hz=>by rw [zy] at hz;subst hz;exact hs.b2⟩
  ·refine ⟨by simp,by simp,fun p hp=>?_⟩
   rw [zy] at hp
   subst hp
   exact ⟨by simp,fun z hz=>by rw [zy] at hz;subst hz;exact hs.b3⟩
theorem qmK {il:List Itm} (hP:qbl il) (l:List Rul) {s:Stp} (hs:StB s):∀ ps:List (List UInt8×List UInt8),totM il l s ps≤1000 * (ps.length:Nat)
 |[]=>by simp [totM]
 |q :: r=>by
  have h1:=qmK hP l hs r
  have h2:=(qtO hP l hs q.2).2.1
  rw [totM,zK]
  omega
theorem qrR (il:List Itm) (t:List UInt8):(famP il t).length≤il.length+1:=by
 have:=qfu il t
 simp [famP]
 omega
theorem qrZ (il:List Itm) (l:List Rul) (order:Int):(chS il l order).length≤il.length:=by
 unfold chS
 rw [List.length_mergeSort]
 exact Nat.le_trans (List.length_filter_le _ _) (qfu il [])
theorem qlt {α β:Type} (f:α→List β) (m:Nat):∀ l:List α,(∀ x∈l,(f x).length≤m)→(l.flatMap f).length≤l.length * m
 |[],_=>by simp
 |x :: r,h=>by
  have h1:=qlt f m r fun y hy=>h y (by simp [hy])
  have h2:=h x (by simp)
  rw [List.flatMap_cons,zp,zK,Nat.succ_mul]
  omega
theorem qm6 {il:List Itm} (hil:il.length≤20) (l:List Rul) (ord:Int):(prsM il l ord).length≤420:=by
 have h1:=qlt (famP il) 21 (chS il l ord) fun x _=>Nat.le_trans (qrR il x) (by omega)
 have h2:=qrZ il l ord
 have h3:(chS il l ord).length * 21≤20 * 21:=Nat.mul_le_mul_right 21 (by omega)
 unfold prsM
 omega
theorem quh {il:List Itm} (hP:qbl il) {s i:List UInt8} (h:i∈qfS il s):i.length≤2:=by
 unfold qfS at h
 obtain ⟨x,hx,rfl⟩:=zG.1 h
 have hx:=(ye.1 hx).1
 obtain ⟨j,hj⟩:=zQ hx
 rw [(hP.2 j x hj).b1]
 simp [pid]
theorem qyY {il:List Itm} (hP:qbl il) {l:List Rul} {ord:Int} {p:List UInt8×List UInt8} (h:p∈prsM il l ord):p.1.length≤2∧p.2.length≤2:=by
 obtain ⟨t,ht,hp⟩:=List.mem_flatMap.1 h
 have h1:t.length≤2:=by
  unfold chS at ht
  rw [List.mem_mergeSort] at ht
  exact quh hP (ye.1 ht).1
 obtain ⟨i,hi,rfl⟩:=zG.1 hp
 rcases zC.1 hi with rfl|hi
 ·exact ⟨h1,h1⟩
 ·exact ⟨h1,quh hP hi⟩
theorem qsp {α:Type} {p:List α} {q:α} {ps:List α} (h:p++[q] <+: ps):q∈ps∧p.length≤ps.length:=by
 obtain ⟨t,rfl⟩:=h
 exact ⟨by simp,by simp⟩
structure ShS (x:Sht):Prop where
 fr_:-10000000000≤x.fr_∧x.fr_≤10000000000
 to_:-10000000000≤x.to_∧x.to_≤10000000000
 pages:0 < x.pages.length∧x.pages.length≤1000
 page:∀ p∈x.pages,p.length≤1000
theorem qAu {il:List Itm} (hP:qbl il) (l:List Rul) {s:Stp} (hs:StB s) {n:Int} (h0:0≤n) (hn:n≤1000000000) (ord:Int):∀ x∈shsM il l s n (prsM il l ord),ShB x∧ShS x:=by
 intro x hx
 obtain ⟨p,q,hpre,rfl⟩:=qri hx
 obtain ⟨hq,hpl⟩:=qsp hpre
 obtain ⟨i1,i2⟩:=qyY hP hq
 obtain ⟨g1,g2,g3⟩:=qtO hP l hs q.2
 have t1:=qmK hP l hs p
 have t2:=qmJ il l s p
 have t3:=qm6 hP.1 l ord
 have hk:1≤kdR l q.2∧kdR l q.2≤3:=by
  unfold kdR
  split
  ·omega
  ·split<;>omega
 refine ⟨⟨by show q.2.length≤1000;omega,by show q.1.length≤1000;omega,by show -1000≤kdR l q.2∧kdR l q.2≤1000;omega,?_,?_,by show (pgR il l s q.2).length≤100000;omega,fun p hp=>?_,by show (-1000000:Int)≤1∧(1:Int)≤1000000;omega⟩,⟨?_,?_,⟨g1,g2⟩,fun p hp=>(g3 p hp).1⟩⟩
 ·show -100000000000≤n+totM il l s p+1∧n+totM il l s p+1≤100000000000
  omega
 ·show -100000000000≤n+totM il l s p+(pgR il l s q.2).length∧n+totM il l s p+(pgR il l s q.2).length≤100000000000
  omega
 ·obtain ⟨a,b⟩:=g3 p hp
  exact ⟨by omega,fun z hz=>by have:=b z hz;omega⟩
 ·show -10000000000≤n+totM il l s p+1∧n+totM il l s p+1≤10000000000
  omega
 ·show -10000000000≤n+totM il l s p+(pgR il l s q.2).length∧n+totM il l s p+(pgR il l s q.2).length≤10000000000
  omega
def PgP (p:Prd):Prop:=∀ x∈p.shs,ShS x
theorem qBR {il:List Itm} (hP:qbl il) (l:List Rul) {s:Stp} (hs:StB s) (hd:-1000≤s.dig∧s.dig≤1000) {past:List Prd} (hpl:past.length≤1000):PdB (pmP il l s past)∧PgP (pmP il l s past):=by
 unfold pmP
 split
 ·rename_i h
  have hA:pmA il l s past=0:=by
   unfold pmE at h
   split at h
   ·rename_i h1;exact h1
   ·exact h
  have hp:pdsF past=0:=qaz hA _ (by simp)
  obtain ⟨b1,b2⟩:=qnn (fun q hq x hx=>(qrw hp q hq x hx).2.2) s.pre
  have hB:=qAu hP l hs b1 b2 s.ord
  have h3:=qm6 hP.1 l s.ord
  refine ⟨⟨by show -1000000≤((past.length:Nat):Int)+1∧((past.length:Nat):Int)+1≤1000000;omega,hs.b1,hd,by show (shsM il l s _ _).length≤1000;rw [qhz];omega,fun x hx=>(hB x hx).1⟩,fun x hx=>(hB x hx).2⟩
 ·exact ⟨qAP,fun x hx=>by cases hx⟩
section
variable {E:Envt}
def qaJ:IC:=(sR [qT 9 .lss 8 7] (.seq (jE 9) (.seq (.block 1 (sR [qM 10 8,qM 5 10] (sR [qM 11 1,qM 12 0,qM 13 5,qX 14 7 12 13,qO 15 (.ld 7 true (.t 14)),qO 16 (.callv (.t 11) [.t 15])] (jW 16 (sR [qM 17 5,qM 4 17] .ret))))) (.reg [qB 18 .add 8 (cI 1),qM 8 18]))))
abbrev qbX:IC:=(sR [jI 4 0] (.seq (sR [qM 6 0,qN 7 6,jI 8 0] (.block 0 (.loop qaJ))) (sR [jI 4 (-1)] .ret)))
theorem qb4:chkF Tryz.prog Tryz.f47 qbX [.t 4] 19=true:=by kernel_rfl
abbrev qbI:IC:=(sR [qO 4 (.mov (.c (.bool false)))] (sR [qM 5 0,qM 6 1,jC 7 47 [.t 5,.t 6],qB 8 .geq 7 (cI 0),qM 4 8] .ret))
theorem qbL:chkF Tryz.prog Tryz.f74 qbI [.t 4] 9=true:=by kernel_rfl
theorem ql2 (l:List Sht) (f:FuncId) (ps:List PV) (q:Sht→Bool) (hl:l.length≤1000000000) (hfn:Unit→fnB Tryz.prog f=true) (hps:Zk [] (ps.map .p)=true) (hf:∀ x∈l,PCall Tryz.prog E f (.agg (shV x) :: ps) (·=.bool (q x))) (hn:∀ x,Zbg [] (.p (.agg (shV x)) :: ps.map .p)=some (.agg (shV x) :: ps)) (hr:∀ x,Zbi (.p (.agg (shV x)) :: ps.map .p)=true):PCall Tryz.prog E 47 [.sl 7 (shE l),.clo f ps] (·=int (idxF q l)):=by
 refine qag mixed Tryz.func47 qb4 ?_
 refine zV ?_
 simp only [ZZ,WW,Zd,reduceCtorEq,zd,ze,zb,zf,za,qae]
 refine qac (fun n fr L=>∃ (k:Nat),k≤l.length∧n=l.length - k∧(∀ x∈l.take k,q x=false)∧fr=(.p (.sl 7 (shE l))::.p (.clo f ps)::oC (oo::(.p (int (l.length:Nat))::.p (int (k:Nat))::oD (oB []))))∧L=[]) (l.length) _ [] (by simp only [qae,ZZ,WW,Zd,reduceCtorEq,zd,ze,zb,zf,za];try trivial) zF_ ⟨0,by omega,by omega,by simp,rfl,rfl⟩ ?_
 rintro n fr L ⟨k,hk,rfl,hno,rfl,rfl⟩
 simp only [qaJ,ZZ,WW,Zd,reduceCtorEq,zd,ze,zb,zf,za]
 refine br ?_ ?_
 ·intro h
  have hlt:k < l.length:=by have:=of_decide_eq_true h;omega
  obtain ⟨x,hx⟩:∃ x,l[k]?=some x:=⟨_,zg hlt⟩
  have hg:=qa0 hx
  simp only [shV] at hg
  simp only [ZZ,WW,Zd,reduceCtorEq,zd,ze,zb,zf,za,hg,qae,hfn ()]
  refine ⟨⟨by omega,by omega⟩,by omega,hps,?_⟩
  refine use1 (hf x (zm hx)) (hn x) (.inl (hr x)) ?_
  refine zS ?_
  refine br ?_ ?_
  ·intro hq
   refine zS ?_
   rw [qf6 hx hq hno]
  ·intro hq
   refine zS ?_
   ((with_reducible and_intros)<;>try exact sc_)
   refine qab (l.length - (k+1)) _ [] (by omega) zF_ zF_ ⟨k+1,by omega,rfl,by rw [zo hlt];intro y hy;rcases zz.1 hy with hy|hy;exact hno y hy;rw [zy] at hy;rw [hy,(zk.1 hx).2];exact hq,rfl,rfl⟩
 ·intro h
  have hge:l.length≤k:=by have:=of_decide_eq_false h;omega
  rw [zq hge] at hno
  refine zS ?_
  rw [qd2 hno]
theorem qdL (l:List Sht) (f:FuncId) (ps:List PV) (q:Sht→Bool) (hl:l.length≤1000000000) (hfn:Unit→fnB Tryz.prog f=true) (hps:Zk [] (ps.map .p)=true) (hf:∀ x∈l,PCall Tryz.prog E f (.agg (shV x) :: ps) (·=.bool (q x))) (hn:∀ x,Zbg [] (.p (.agg (shV x)) :: ps.map .p)=some (.agg (shV x) :: ps)) (hr:∀ x,Zbi (.p (.agg (shV x)) :: ps.map .p)=true):PCall Tryz.prog E 74 [.sl 7 (shE l),.clo f ps] (·=.bool (l.any q)):=by
 refine qag mixed Tryz.func74 qbL ?_
 refine zV ?_
 refine use1 (ql2 l f ps q hl hfn hps hf hn hr) rfl (.inl rfl) ?_
 refine zS ?_
 rw [qi8]
def qay:IC:=(sR [qT 9 .lss 8 7] (.seq (jE 9) (.seq (.block 1 (sR [qM 10 8,qM 5 10] (sR [qM 11 1,qM 12 0,qM 13 5,qX 14 4 12 13,qO 15 (.ld 4 true (.t 14)),qO 16 (.callv (.t 11) [.t 15])] (jW 16 (sR [qM 17 5,qM 4 17] .ret))))) (.reg [qB 18 .add 8 (cI 1),qM 8 18]))))
abbrev qbi:IC:=(sR [jI 4 0] (.seq (sR [qM 6 0,qN 7 6,jI 8 0] (.block 0 (.loop qay))) (sR [jI 4 (-1)] .ret)))
theorem qbj:chkF Tryz.prog Tryz.f169 qbi [.t 4] 19=true:=by kernel_rfl
abbrev qa6:IC:=(sR [qO 4 (.mov (.c (.bool false)))] (sR [qM 5 0,qM 6 1,jC 7 169 [.t 5,.t 6],qB 8 .geq 7 (cI 0),qM 4 8] .ret))
theorem qa7:chkF Tryz.prog Tryz.f123 qa6 [.t 4] 9=true:=by kernel_rfl
theorem ql3 (l:List Prd) (f:FuncId) (ps:List PV) (q:Prd→Bool) (hl:l.length≤1000000000) (hfn:Unit→fnB Tryz.prog f=true) (hps:Zk [] (ps.map .p)=true) (hf:∀ x∈l,PCall Tryz.prog E f (.agg (pdV x) :: ps) (·=.bool (q x))) (hn:∀ x,Zbg [] (.p (.agg (pdV x)) :: ps.map .p)=some (.agg (pdV x) :: ps)) (hr:∀ x,Zbi (.p (.agg (pdV x)) :: ps.map .p)=true):PCall Tryz.prog E 169 [.sl 4 (pdE l),.clo f ps] (·=int (idxF q l)):=by
 refine qag mixed Tryz.func169 qbj ?_
 refine zV ?_
 simp only [ZZ,WW,Zd,reduceCtorEq,zd,ze,zb,zf,za,qaE]
 refine qac (fun n fr L=>∃ (k:Nat),k≤l.length∧n=l.length - k∧(∀ x∈l.take k,q x=false)∧fr=(.p (.sl 4 (pdE l))::.p (.clo f ps)::oC (oo::(.p (int (l.length:Nat))::.p (int (k:Nat))::oD (oB []))))∧L=[]) (l.length) _ [] (by simp only [qaE,ZZ,WW,Zd,reduceCtorEq,zd,ze,zb,zf,za];try trivial) zF_ ⟨0,by omega,by omega,by simp,rfl,rfl⟩ ?_
 rintro n fr L ⟨k,hk,rfl,hno,rfl,rfl⟩
 simp only [qay,ZZ,WW,Zd,reduceCtorEq,zd,ze,zb,zf,za]
 refine br ?_ ?_
 ·intro h
  have hlt:k < l.length:=by have:=of_decide_eq_true h;omega
  obtain ⟨x,hx⟩:∃ x,l[k]?=some x:=⟨_,zg hlt⟩
  have hg:=qgW hx
  simp only [pdV] at hg
  simp only [ZZ,WW,Zd,reduceCtorEq,zd,ze,zb,zf,za,hg,qaE,hfn ()]
  refine ⟨⟨by omega,by omega⟩,by omega,hps,?_⟩
  refine use1 (hf x (zm hx)) (hn x) (.inl (hr x)) ?_
  refine zS ?_
  refine br ?_ ?_
  ·intro hq
   refine zS ?_
   rw [qf6 hx hq hno]
  ·intro hq
   refine zS ?_
   ((with_reducible and_intros)<;>try exact sc_)
   refine qab (l.length - (k+1)) _ [] (by omega) zF_ zF_ ⟨k+1,by omega,rfl,by rw [zo hlt];intro y hy;rcases zz.1 hy with hy|hy;exact hno y hy;rw [zy] at hy;rw [hy,(zk.1 hx).2];exact hq,rfl,rfl⟩
 ·intro h
  have hge:l.length≤k:=by have:=of_decide_eq_false h;omega
  rw [zq hge] at hno
  refine zS ?_
  rw [qd2 hno]
theorem qjZ (l:List Prd) (f:FuncId) (ps:List PV) (q:Prd→Bool) (hl:l.length≤1000000000) (hfn:Unit→fnB Tryz.prog f=true) (hps:Zk [] (ps.map .p)=true) (hf:∀ x∈l,PCall Tryz.prog E f (.agg (pdV x) :: ps) (·=.bool (q x))) (hn:∀ x,Zbg [] (.p (.agg (pdV x)) :: ps.map .p)=some (.agg (pdV x) :: ps)) (hr:∀ x,Zbi (.p (.agg (pdV x)) :: ps.map .p)=true):PCall Tryz.prog E 123 [.sl 4 (pdE l),.clo f ps] (·=.bool (l.any q)):=by
 refine qag mixed Tryz.func123 qa7 ?_
 refine zV ?_
 refine use1 (ql3 l f ps q hl hfn hps hf hn hr) rfl (.inl rfl) ?_
 refine zS ?_
 rw [qi8]
def qaR:IC:=(sR [qT 9 .lss 8 7] (.seq (jE 9) (.seq (.block 1 (sR [qM 10 8,qM 5 10] (sR [qM 11 1,qM 12 0,qM 13 5,qX 14 1 12 13,qL 15 14,qO 16 (.callv (.t 11) [.t 15])] (jW 16 (sR [qM 17 5,qM 4 17] .ret))))) (.reg [qB 18 .add 8 (cI 1),qM 8 18]))))
abbrev qcs:IC:=(sR [jI 4 0] (.seq (sR [qM 6 0,qN 7 6,jI 8 0] (.block 0 (.loop qaR))) (sR [jI 4 (-1)] .ret)))
theorem qcC:chkF Tryz.prog Tryz.f129 qcs [.t 4] 19=true:=by kernel_rfl
abbrev qbY:IC:=(sR [qO 4 (.mov (.c (.bool false)))] (sR [qM 5 0,qM 6 1,jC 7 129 [.t 5,.t 6],qB 8 .geq 7 (cI 0),qM 4 8] .ret))
theorem qb5:chkF Tryz.prog Tryz.f78 qbY [.t 4] 9=true:=by kernel_rfl
theorem ql1 (l:List SRow) (f:FuncId) (ps:List PV) (q:SRow→Bool) (hl:l.length≤1000000000) (hfn:Unit→fnB Tryz.prog f=true) (hps:Zk [] (ps.map .p)=true) (hf:∀ x∈l,PCall Tryz.prog E f (.sl 1 (strE x) :: ps) (·=.bool (q x))) (hn:∀ x,Zbg [] (.p (.sl 1 (strE x)) :: ps.map .p)=some (.sl 1 (strE x) :: ps)) (hr:∀ x,Zbi (.p (.sl 1 (strE x)) :: ps.map .p)=true):PCall Tryz.prog E 129 [.sl 1 (tbE l),.clo f ps] (·=int (idxF q l)):=by
 refine qag mixed Tryz.func129 qcC ?_
 refine zV ?_
 simp only [ZZ,WW,Zd,reduceCtorEq,zd,ze,zb,zf,za,qaC]
 refine qac (fun n fr L=>∃ (k:Nat),k≤l.length∧n=l.length - k∧(∀ x∈l.take k,q x=false)∧fr=(.p (.sl 1 (tbE l))::.p (.clo f ps)::oC (oo::(.p (int (l.length:Nat))::.p (int (k:Nat))::oD (oB []))))∧L=[]) (l.length) _ [] (by simp only [qaC,ZZ,WW,Zd,reduceCtorEq,zd,ze,zb,zf,za];try trivial) zF_ ⟨0,by omega,by omega,by simp,rfl,rfl⟩ ?_
 rintro n fr L ⟨k,hk,rfl,hno,rfl,rfl⟩
 simp only [qaR,ZZ,WW,Zd,reduceCtorEq,zd,ze,zb,zf,za]
 refine br ?_ ?_
 ·intro h
  have hlt:k < l.length:=by have:=of_decide_eq_true h;omega
  obtain ⟨x,hx⟩:∃ x,l[k]?=some x:=⟨_,zg hlt⟩
  have hg:=qh4 hx
  skip
  simp only [ZZ,WW,Zd,reduceCtorEq,zd,ze,zb,zf,za,hg,qaC,hfn ()]
  refine ⟨⟨by omega,by omega⟩,by omega,hps,?_⟩
  refine use1 (hf x (zm hx)) (hn x) (.inl (hr x)) ?_
  refine zS ?_
  refine br ?_ ?_
  ·intro hq
   refine zS ?_
   rw [qf6 hx hq hno]
  ·intro hq
   refine zS ?_
   ((with_reducible and_intros)<;>try exact sc_)
   refine qab (l.length - (k+1)) _ [] (by omega) zF_ zF_ ⟨k+1,by omega,rfl,by rw [zo hlt];intro y hy;rcases zz.1 hy with hy|hy;exact hno y hy;rw [zy] at hy;rw [hy,(zk.1 hx).2];exact hq,rfl,rfl⟩
 ·intro h
  have hge:l.length≤k:=by have:=of_decide_eq_false h;omega
  rw [zq hge] at hno
  refine zS ?_
  rw [qd2 hno]
theorem qjY (l:List SRow) (f:FuncId) (ps:List PV) (q:SRow→Bool) (hl:l.length≤1000000000) (hfn:Unit→fnB Tryz.prog f=true) (hps:Zk [] (ps.map .p)=true) (hf:∀ x∈l,PCall Tryz.prog E f (.sl 1 (strE x) :: ps) (·=.bool (q x))) (hn:∀ x,Zbg [] (.p (.sl 1 (strE x)) :: ps.map .p)=some (.sl 1 (strE x) :: ps)) (hr:∀ x,Zbi (.p (.sl 1 (strE x)) :: ps.map .p)=true):PCall Tryz.prog E 78 [.sl 1 (tbE l),.clo f ps] (·=.bool (l.any q)):=by
 refine qag mixed Tryz.func78 qb5 ?_
 refine zV ?_
 refine use1 (ql1 l f ps q hl hfn hps hf hn hr) rfl (.inl rfl) ?_
 refine zS ?_
 rw [qi8]
end
def qcP:IC:=(sR [qT 20 .lss 19 18] (.seq (jE 20) (.seq (.block 1 (sR [qX 21 1 17 19,qL 22 21,qM 4 22] (sR [qO 5 (.mov (.f 159))] (sR [qM 23 4,qN 24 23,qB 25 .gtr 24 (cI 50),qM 26 25,⟨some 27,.mov (.t 4),(some (26,false))⟩,⟨some 28,.mov (.t 5),(some (26,false))⟩,⟨some 29,.call 92 [.t 27,.t 28],(some (26,false))⟩,qO 30 (.pick (.t 26) (.c (.bool true)) (.t 29))] (jW 30 (sR [jI 2 3] .ret)))))) (.reg [qB 31 .add 19 (cI 1),qM 19 31]))))
abbrev qg3:IC:=(sR [qO 1 (.box 83 (.t 0)),jI 2 0] (.seq (sR [qF 6 5 1,qL 7 6,qN 8 7,qF 9 4 1,qL 10 9,qF 11 3 1,qL 12 11,qT 13 .sub 10 12,qB 14 .add 13 (cI 1),qT 15 .neq 8 14] (jW 15 (sR [jI 2 3] .ret))) (.seq (sR [qF 16 5 1,qL 17 16,qN 18 17,jI 19 0] (.block 0 (.loop qcP))) (sR [qF 32 2 1,qL 33 32,qB 34 .eql 33 (cI 2),qM 35 34,⟨some 36,.fla 2 (.t 1),(some (35,false))⟩,⟨some 37,.ld 1 false (.t 36),(some (35,false))⟩,⟨some 38,.bin .eql (.t 37) (cI 3),(some (35,false))⟩,qO 39 (.pick (.t 35) (.c (.bool true)) (.t 38)),qM 40 39,⟨some 41,.fla 5 (.t 1),(some (40,true))⟩,⟨some 42,.ld 1 false (.t 41),(some (40,true))⟩,⟨some 43,.len (.t 42),(some (40,true))⟩,⟨some 44,.bin .neq (.t 43) (cI 1),(some (40,true))⟩,⟨some 45,.mov (.t 44),(some (40,true))⟩,⟨some 46,.fla 5 (.t 1),(some (45,false))⟩,⟨some 47,.ld 1 false (.t 46),(some (45,false))⟩,⟨some 48,.ixa 1 (.t 47) (cI 0),(some (45,false))⟩,⟨some 49,.ld 1 false (.t 48),(some (45,false))⟩,⟨some 50,.len (.t 49),(some (45,false))⟩,⟨some 51,.bin .neq (.t 50) (cI 1),(some (45,false))⟩,⟨some 52,.pick (.t 45) (.c (.bool true)) (.t 51),(some (40,true))⟩,qO 53 (.pick (.t 40) (.t 52) (.c (.bool false))),jC 54 51 [.t 53,.c (.int .i64 3)],qM 2 54] .ret))))
theorem qhf:chkF Tryz.prog Tryz.f116 qg3 [.t 2] 55=true:=by kernel_rfl
abbrev qfV:IC:=(sR [qO 2 (.mov (.c (.bool false)))] (sR [qM 3 0,qO 4 (.sln (.t 3)),qB 5 .gtr 4 (cI 80),qM 6 5,⟨some 7,.mov (.t 0),(some (6,false))⟩,⟨some 8,.call 160 [.t 7,.c (.bool false)],(some (6,false))⟩,⟨some 9,.not (.t 8),(some (6,false))⟩,qO 10 (.pick (.t 6) (.c (.bool true)) (.t 9)),qM 2 10] .ret))
theorem qf8:chkF Tryz.prog Tryz.f159 qfV [.t 2] 11=true:=by kernel_rfl
def qeI:IC:=(sR [qT 43 .lss 42 41] (.seq (jE 43) (.seq (.block 1 (sR [qM 44 42,qX 45 7 40 42,qO 46 (.ld 7 true (.t 45)),qO 8 (.alc 83 [.str [],.str [],.int .i64 0,.int .i64 0,.int .i64 0,.nl 1,.int .i64 0]),qM 7 44,qS 7 8 46] (sR [qF 47 1 8,qL 48 47,qF 49 0 8,qL 50 49,qT 51 .eql 48 50,qM 9 51] (.seq (.drg [qF 52 0 8,qL 53 52,qO 54 (.pcall 0 65 [.t 53]),qO 55 (.not (.t 54)),qM 56 55,⟨some 57,.fla 1 (.t 8),(some (56,false))⟩,⟨some 58,.ld 1 false (.t 57),(some (56,false))⟩,⟨some 59,.pcall 1 65 [.t 58],(some (56,false))⟩,⟨some 60,.not (.t 59),(some (56,false))⟩,qO 61 (.pick (.t 56) (.c (.bool true)) (.t 60)),qO 62 (.pcall 2 51 [.t 61,.c (.int .i64 5)]),qM 63 4,qF 64 0 8,qL 65 64,qO 66 (.mpl false (.bool false) (.t 63) (.t 65)),qO 67 (.pcall 3 51 [.t 66,.c (.int .i64 6)]),qM 68 9,qO 69 (.not (.t 68)),qM 70 69,⟨some 71,.mov (.t 7),(some (70,true))⟩,⟨some 72,.bin .eql (.t 71) (cI 0),(some (70,true))⟩,⟨some 73,.mov (.t 72),(some (70,true))⟩,⟨some 74,.fla 1 (.t 8),(some (73,false))⟩,⟨some 75,.ld 1 false (.t 74),(some (73,false))⟩,⟨some 76,.fla 1 (.t 6),(some (73,false))⟩,⟨some 77,.ld 1 false (.t 76),(some (73,false))⟩,⟨some 78,.bin .neq (.t 75) (.t 77),(some (73,false))⟩,⟨some 79,.pick (.t 73) (.c (.bool true)) (.t 78),(some (70,true))⟩,qO 80 (.pick (.t 70) (.t 79) (.c (.bool false))),qO 81 (.pcall 4 51 [.t 80,.c (.int .i64 7)]),qM 82 9,qM 83 82,⟨some 84,.mov (.t 5),(some (83,true))⟩,⟨some 85,.fla 1 (.t 8),(some (83,true))⟩,⟨some 86,.ld 1 false (.t 85),(some (83,true))⟩,⟨some 87,.mpl false (.bool false) (.t 84) (.t 86),(some (83,true))⟩,qO 88 (.pick (.t 83) (.t 87) (.c (.bool false))),qO 89 (.pcall 5 51 [.t 88,.c (.int .i64 6)]),qF 90 2 8,qL 91 90,qO 92 (.pcall 6 71 [.t 91,.c (.int .i64 1),.c (.int .i64 4)]),qO 93 (.not (.t 92)),qO 94 (.pcall 7 51 [.t 93,.c (.int .i64 4)]),qF 95 6 8,qL 96 95,qO 97 (.pcall 8 71 [.t 96,.c (.int .i64 1),.c (.int .i64 1000)]),qO 98 (.not (.t 97)),qO 99 (.pcall 9 51 [.t 98,.c (.int .i64 1)]),qF 100 3 8,qL 101 100,qF 102 4 8,qL 103 102,qO 104 (.pcall 10 71 [.t 101,.c (.int .i64 1),.t 103]),qO 105 (.not (.t 104)),qM 106 105,⟨some 107,.fla 4 (.t 8),(some (106,false))⟩,⟨some 108,.ld 1 false (.t 107),(some (106,false))⟩,⟨some 109,.fla 2 (.t 1),(some (106,false))⟩,⟨some 110,.ld 1 false (.t 109),(some (106,false))⟩,⟨some 111,.pcall 11 115 [.t 110],(some (106,false))⟩,⟨some 112,.bin .sub (.t 111) (cI 1),(some (106,false))⟩,⟨some 113,.bin .gtr (.t 108) (.t 112),(some (106,false))⟩,qO 114 (.pick (.t 106) (.c (.bool true)) (.t 113)),qM 115 114,⟨some 116,.mov (.t 7),(some (115,false))⟩,⟨some 117,.bin .gtr (.t 116) (cI 0),(some (115,false))⟩,⟨some 118,.mov (.t 117),(some (115,false))⟩,⟨some 119,.fla 3 (.t 8),(some (118,true))⟩,⟨some 120,.ld 1 false (.t 119),(some (118,true))⟩,⟨some 121,.fla 4 (.t 6),(some (118,true))⟩,⟨some 122,.ld 1 false (.t 121),(some (118,true))⟩,⟨some 123,.bin .add (.t 122) (cI 1),(some (118,true))⟩,⟨some 124,.bin .neq (.t 120) (.t 123),(some (118,true))⟩,⟨some 125,.pick (.t 118) (.t 124) (.c (.bool false)),(some (115,false))⟩,qO 126 (.pick (.t 115) (.c (.bool true)) (.t 125)),qO 127 (.pcall 12 51 [.t 126,.c (.int .i64 1)]),qO 128 (.bsl 1 [.t 62,.t 67,.t 81,.t 89,.t 94,.t 99,.t 127]),qO 129 (.pcall 13 49 [.t 128]),qM 10 129]) (.seq (sR [qM 130 10,qB 131 .eql 130 (cI 0)] (jW 131 (.reg [qO 132 (.ld 7 true (.t 8)),jC 133 116 [.t 132],qM 10 133]))) (.cut (.seq (sR [qM 134 10,qB 135 .neq 134 (cI 0)] (jW 135 (sR [qM 136 10,qM 2 136] .ret))) (.seq (.drg [qM 137 4,qF 138 0 8,qL 139 138,qM 140 5,qF 141 1 8,qO 142 (.ldn 36 1 false (.t 141)),⟨none,.mpk 36 (.t 137) (.t 139) (.c (.bool true)),none⟩,⟨none,.mpu (.t 140) (.t 142) (.c (.bool true)),none⟩]) (.reg [qO 143 (.ld 7 true (.t 8)),qS 7 6 143]))))))))) (.reg [qB 144 .add 42 (cI 1),qM 42 144]))))
abbrev qkq:IC:=(sR [qO 1 (.box 34 (.t 0)),jI 2 0] (.seq (.drg [qF 11 0 1,qL 12 11,qO 13 (.pcall 0 71 [.t 12,.c (.int .i64 1),.c (.int .i64 200)]),qO 14 (.not (.t 13)),qO 15 (.pcall 1 51 [.t 14,.c (.int .i64 1)]),qF 16 1 1,qL 17 16,qF 18 2 1,qL 19 18,qO 20 (.pcall 2 114 [.t 17,.t 19]),qF 21 3 1,qL 22 21,qN 23 22,qB 24 .eql 23 (cI 0),qO 25 (.pcall 3 51 [.t 24,.c (.int .i64 8)]),qF 26 3 1,qL 27 26,qN 28 27,qB 29 .gtr 28 (cI 2000),qO 30 (.pcall 4 51 [.t 29,.c (.int .i64 2)]),qO 31 (.bsl 1 [.t 15,.t 20,.t 25,.t 30]),qO 32 (.pcall 5 49 [.t 31]),qM 3 32]) (.seq (sR [qM 33 3,qB 34 .neq 33 (cI 0)] (jW 34 (sR [qM 35 3,qM 2 35] .ret))) (sR [qO 36 (.mkm 9 4),qO 37 (.mkm 9 4),qM 4 36,qM 5 37] (sR [qO 38 (.bld [.str [],.str [],.int .i64 0,.int .i64 0,.int .i64 0,.nl 1,.int .i64 0] []),qO 6 (.alc 83 [.str [],.str [],.int .i64 0,.int .i64 0,.int .i64 0,.nl 1,.int .i64 0]),qS 7 6 38] (.seq (sR [qF 39 3 1,qL 40 39,qN 41 40,jI 42 0] (.block 0 (.loop qeI))) (sR [jI 2 0] .ret)))))))
theorem qkw:chkF Tryz.prog Tryz.f50 qkq [.t 2] 145=true:=by kernel_rfl
abbrev qbw:Nat:=83
abbrev tPrd:Nat:=34
theorem qtP (s:List UInt8) (hs:s.length≤1000000000):PCall Tryz.prog E0 159 [.str s] (·=.bool (qpr s)):=by
 refine qag mixed Tryz.func159 qf8 ?_
 refine zV ?_
 refine useG (fun _=>qsM s false hs) rfl (.inl rfl) ?_
 refine zS ?_
 exact ⟨fun h=>by rw [h];rfl,rfl⟩
theorem qnb (x:Sht) (hx:ShB x):PCall Tryz.prog E0 116 [.agg (shV x)] (·=int (pgsE x)):=by
 obtain ⟨id,top,kd,fr0,to0,pg,ver⟩:=x
 obtain ⟨b1,b2,b3,b4,b5,b6,b7,b8⟩:=hx
 simp only at b1 b2 b3 b4 b5 b6 b7 b8
 have hs:pgsE ⟨id,top,kd,fr0,to0,pg,ver⟩=if ¬ ((pg.length:Int)=to0 - fr0+1) then 3 else if pg.any qlX=true then 3 else qak ((decide (kd=2) || decide (kd=3)) && (!decide ((pg.length:Int)=1) || !decide (((pg.getD 0 []).length:Int)=1))) 3:=rfl
 rw [hs]
 clear hs
 refine qag mixed Tryz.func116 qhf ?_
 refine zV ?_
 simp only [shV,ZZ,WW,Zd,reduceCtorEq,zd,ze,zb,zf,za]
 simp only [ZZ,WW,Zd,reduceCtorEq,zd,ze,zb,zf,za,qaC]
 refine ⟨qal (by omega) (by omega),qal (by omega) (by omega),?_⟩
 refine br ?_ ?_
 ·intro h
  refine zS ?_
  rw [if_pos (by simpa using h)]
 intro h
 rw [if_neg (by simpa using h)]
 simp only [ZZ,WW,Zd,reduceCtorEq,zd,ze,zb,zf,za,qaC]
 refine qac (fun n fr L=>∃ (k:Nat),k≤pg.length∧n=pg.length - k∧(∀ p∈pg.take k,qlX p=false)∧fr=(oo::.adr (.l 1) 0::oD (oC (oB (oo::(.p (.sl 1 (tbE pg))::.p (int (pg.length:Nat))::.p (int (k:Nat))::oF (oB (oo::[])))))))∧L=[(.l 1,.box [.p (.str id),.p (.str top),.p (int kd),.p (int fr0),.p (int to0),.p (.sl 1 (tbE pg)),.p (int ver)] qbw)]) (pg.length) _ _ (by simp only [ZZ,WW,Zd,reduceCtorEq,zd,ze,zb,zf,za,qaC];try trivial) zF_ ⟨0,by omega,by omega,by simp,rfl,rfl⟩ ?_
 rintro n fr L ⟨k,hk,rfl,hno,rfl,rfl⟩
 simp only [qcP,ZZ,WW,Zd,reduceCtorEq,zd,ze,zb,zf,za]
 refine br ?_ ?_
 ·intro h2
  have hlt:k < pg.length:=by have:=of_decide_eq_true h2;omega
  obtain ⟨p,hp⟩:∃ p,pg[k]?=some p:=⟨_,zg hlt⟩
  have hg:=qh4 hp
  obtain ⟨c1,c2⟩:=b7 p (zm hp)
  simp only [ZZ,WW,Zd,reduceCtorEq,zd,ze,zb,zf,za,hg,qaC,qaf]
  ((with_reducible and_intros)<;>try exact sc_)
  refine useG (fun _=>qbM p 159 [] qpr (by omega) (fun _=>by kernel_rfl) rfl (fun z hz=>qtP z (by have:=c2 z hz;omega)) (fun _=>rfl) (fun _=>rfl)) rfl (.inr rfl) ?_
  refine zS ?_
  refine ⟨fun h=>by rw [h];rfl,?_⟩
  refine br ?_ ?_
  ·intro h3
   have h4:pg.any qlX=true:=yw.2 ⟨p,zm hp,h3⟩
   refine zS ?_
   rw [if_pos h4]
  ·intro h3
   refine zS ?_
   ((with_reducible and_intros)<;>try exact sc_)
   refine qab (pg.length - (k+1)) _ _ (by omega) zF_ zF_ ⟨k+1,by omega,rfl,by rw [zo hlt];intro y hy;rcases zz.1 hy with hy|hy;exact hno y hy;rw [zy] at hy;rw [hy,(zk.1 hp).2];exact h3,rfl,rfl⟩
 intro h2
 have hge:pg.length≤k:=by have:=of_decide_eq_false h2;omega
 rw [zq hge] at hno
 have h4:pg.any qlX=false:=by
  rw [List.any_eq_false]
  intro p hp
  rw [hno p hp]
  simp
 rw [if_neg (by rw [h4];simp)]
 have hg0:0 < pg.length→(tbE pg).getD 0 []=[.sl 1 (strE (pg.getD 0 []))]:=fun h=>by
  obtain ⟨p,hp⟩:∃ p,pg[0]?=some p:=⟨_,zg h⟩
  rw [qh4 hp]
  simp [zu,hp]
 have e0:Int.toNat 0=0:=rfl
 have hnq:decide (kd=2)=false→(!decide (kd=2))=true:=fun h=>by rw [h];rfl
 by_cases hl1:pg.length=1
 ·have hg:=hg0 (by omega)
  have e1:decide ((pg.length:Int)=1)=true:=by rw [hl1];rfl
  rw [e1]
  simp only [ZZ,WW,Zd,reduceCtorEq,zd,ze,zb,zf,za,qaC,e1]
  generalize (decide (kd=2) || decide (kd=3))=q
  cases q
  all_goals
   simp only [ZZ,WW,Zd,reduceCtorEq,zd,ze,zb,zf,za,qaC,e0,hg,e1,qaf,decide_true,Bool.not_true,Bool.false_or,Bool.or_false,Bool.or_self,Bool.and_self,yc,yn,false_implies]
   refine ⟨hnq,?_⟩
   ((with_reducible and_intros)<;>try exact sc_)
   refine use1 (qcL _ 3) rfl (.inl rfl) ?_
   refine zS ?_
   try first|trivial|rfl
 ·have e1:decide ((pg.length:Int)=1)=false:=by rw [decide_eq_false_iff_not];omega
  rw [e1]
  rcases Nat.eq_zero_or_pos pg.length with hz|hz
  ·have hg:(tbE pg).getD 0 []=[]:=by
    have:pg=[]:=zr hz
    rw [this]
    rfl
   simp only [ZZ,WW,Zd,reduceCtorEq,zd,ze,zb,zf,za,qaC,e1]
   generalize (decide (kd=2) || decide (kd=3))=q
   cases q
   all_goals
    simp only [ZZ,WW,Zd,reduceCtorEq,zd,ze,zb,zf,za,qaC,e0,hg,e1,qaf,decide_false,Bool.not_false,Bool.true_or,Bool.or_true,Bool.and_self,yc,yn,false_implies]
    refine ⟨hnq,?_⟩
    ((with_reducible and_intros)<;>try exact sc_)
    refine use1 (qcL _ 3) rfl (.inl rfl) ?_
    refine zS ?_
    try first|trivial|rfl
  ·have hg:=hg0 hz
   simp only [ZZ,WW,Zd,reduceCtorEq,zd,ze,zb,zf,za,qaC,e1]
   generalize (decide (kd=2) || decide (kd=3))=q
   cases q
   all_goals
    simp only [ZZ,WW,Zd,reduceCtorEq,zd,ze,zb,zf,za,qaC,e0,hg,e1,qaf,decide_false,Bool.not_false,Bool.true_or,Bool.or_true,Bool.and_self,yc,yn,false_implies]
    refine ⟨hnq,?_⟩
    ((with_reducible and_intros)<;>try exact sc_)
    refine use1 (qcL _ 3) rfl (.inl rfl) ?_
    refine zS ?_
    try first|trivial|rfl
theorem qlp {p:List UInt8} {d:Int} (h:qd3 p d=0):4≤d∧d≤9:=by
 have:=qaz h (qak (!inE d 4 9) 1) (by simp)
 rw [qfp (by decide)] at this
 simp only [Bool.not_eq_false',inE,zj,decide_eq_true_eq,zW,decide_eq_false_iff_not] at this
 omega
def qt7 (f:Sht→List UInt8) (kv:List (List UInt8×PV)) (l:List Sht):Prop:=∀ s,mpD kv s (.bool false)=.bool (l.any fun y=>decide (f y=s))
theorem qoQ (f:Sht→List UInt8):qt7 f [] []:=fun s=>rfl
theorem qoP {f:Sht→List UInt8} {kv:List (List UInt8×PV)} {l:List Sht} (h:qt7 f kv l) (x:Sht):qt7 f (mpS kv (f x) (.bool true)) (l++[x]):=fun s=>by
 have h:=h s
 unfold mpD at h ⊢
 rw [qg0,List.any_append]
 by_cases hs:f x=s
 ·simp [hs]
 ·rw [if_neg hs,h]
  simp [hs]
theorem qtr (dig:Int) (l:List Sht) {k:Nat} (h:k < l.length):((zA l.length).map (shP dig l))[k]?=some (shP dig l k):=by
 rw [List.getElem?_map,List.getElem?_range h];rfl
set_option maxHeartbeats 8000000 in
set_option maxRecDepth 100000 in
theorem qsa (p:Prd) (hp:PdB p):PCall Tryz.prog E0 50 [.agg (pdV p)] (·=int (prdF p)):=by
 obtain ⟨no,pre,dig,shs⟩:=p
 obtain ⟨b1,b2,b3,b4,b5⟩:=hp
 simp only at b1 b2 b3 b4 b5
 have hs:prdF ⟨no,pre,dig,shs⟩=qai [qak (!inE no 1 200) 1,qd3 pre dig,qak (decide (shs.length=0)) 8,qak (decide (2000 < shs.length)) 2,qai ((zA shs.length).map (shP dig shs))]:=rfl
 have e8:decide ((shs.length:Int)=0)=decide (shs.length=0):=decide_eq_decide.2 (by omega)
 have e2:decide ((2000:Int) < (shs.length:Int))=decide (2000 < shs.length):=decide_eq_decide.2 (by omega)
 rw [hs]
 clear hs
 refine qag mixed Tryz.func50 qkw ?_
 refine zV ?_
 simp only [pdV,ZZ,WW,Zd,reduceCtorEq,zd,ze,zb,zf,za]
 refine ⟨[.bool (inE no 1 200),int (qak (!inE no 1 200) 1),int (qd3 pre dig),int (qak (decide (shs.length=0)) 8),int (qak (decide (2000 < shs.length)) 2),int (qai [qak (!inE no 1 200) 1,qd3 pre dig,qak (decide (shs.length=0)) 8,qak (decide (2000 < shs.length)) 2])],?_⟩
 simp only [ZZ,WW,Zd,reduceCtorEq,zd,ze,zb,zf,za,qae,e8,e2]
 refine ⟨usep (qqV _ _ _) rfl (.inl rfl),usep (qcL _ 1) rfl (.inl rfl),usep (qka pre dig (by omega)) rfl (.inl rfl),usep (qcL _ 8) rfl (.inl rfl),usep (qcL _ 2) rfl (.inl rfl),usep (qeA [qak (!inE no 1 200) 1,qd3 pre dig,qak (decide (shs.length=0)) 8,qak (decide (2000 < shs.length)) 2] (by simp)) rfl (.inl rfl),?_⟩
 have hpre:∀ a b c d z:Int,qai [a,b,c,d,z]=if qai [a,b,c,d]=0 then z else qai [a,b,c,d]:=by
  intro a b c d z
  simp only [qai]
  by_cases h1:a=0<;>by_cases h2:b=0<;>by_cases h3:c=0<;>by_cases h4:d=0<;>by_cases h5:z=0<;>simp [h1,h2,h3,h4,h5]
 rw [hpre]
 refine br ?_ ?_
 ·intro h
  have h1:¬ qai [qak (!inE no 1 200) 1,qd3 pre dig,qak (decide (shs.length=0)) 8,qak (decide (2000 < shs.length)) 2]=0:=by simpa using h
  rw [if_neg h1]
  refine zS ?_
  trivial
 intro h
 have h1:qai [qak (!inE no 1 200) 1,qd3 pre dig,qak (decide (shs.length=0)) 8,qak (decide (2000 < shs.length)) 2]=0:=by simpa using h
 rw [if_pos h1]
 have hhd:qd3 pre dig=0:=qaz h1 _ (by simp)
 have hd:4≤dig∧dig≤9:=qlp hhd
 clear h h1 hpre e8 e2
 have hget:=fun {k:Nat} (h:k < shs.length)=>qba _ k _ (qtr dig shs h)
 obtain ⟨G,hG⟩:∃ G,(zA shs.length).map (shP dig shs)=G:=⟨_,rfl⟩
 have hGl:G.length=shs.length:=by rw [← hG];simp
 rw [hG] at hget ⊢
 simp only [ZZ,WW,Zd,reduceCtorEq,zd,ze,zb,zf,za,qae]
 refine qac (fun n fr L=>∃ (k:Nat) (b:Sht) (c5:PV) (kv:List (List UInt8×PV)) (kw:List (List UInt8×PV)),k≤shs.length∧n=shs.length - k∧(qai G=qai (G.drop k))∧(0 < k→b=shs.getD (k - 1) sh0)∧(ShB b)∧(qt7 (·.id) kv (shs.take k))∧(qt7 (·.top) kw (shs.take k))∧fr=(oo::.adr (.l 1) 0::oo::oo::.mp (.l 36)::.mp (.l 37)::.adr (.l 6) 0::oF (oo::(.p (.sl 7 (shE shs))::.p (int (shs.length:Nat))::.p (int (k:Nat))::oG (oF (oC (oB []))))))∧L=[(.l 1,.box [.p (int no),.p (.str pre),.p (int dig),.p (.sl 7 (shE shs))] tPrd),(.l 36,.map kv 9 4),(.l 37,.map kw 9 4),(.l 6,.box [.p (.str b.id),.p (.str b.top),.p (int b.kind),.p (int b.fr_),.p (int b.to_),.p c5,.p (int b.ver)] qbw)]) (shs.length) (oo::.adr (.l 1) 0::oo::oo::.mp (.l 36)::.mp (.l 37)::.adr (.l 6) 0::oF (oo::(.p (.sl 7 (shE shs))::.p (int (shs.length:Nat))::.p (int (0:Nat))::oG (oF (oC (oB [])))))) [(.l 1,.box [.p (int no),.p (.str pre),.p (int dig),.p (.sl 7 (shE shs))] tPrd),(.l 36,.map [] 9 4),(.l 37,.map [] 9 4),(.l 6,.box [.p (.str sh0.id),.p (.str sh0.top),.p (int sh0.kind),.p (int sh0.fr_),.p (int sh0.to_),.p (.nl 1),.p (int sh0.ver)] qbw)] (by simp only [ZZ,WW,Zd,reduceCtorEq,zd,ze,zb,zf,za,qae];try trivial) (by simp only [sh0,ZZ,WW,Zd,reduceCtorEq,zd,ze,zb,zf,za]) ⟨0,sh0,.nl 1,[],[],by omega,by omega,rfl,(fun h=>by omega),qBP,qoQ _,qoQ _,rfl,rfl⟩ ?_
 rintro n fr L ⟨k,b,c5,kv,kw,hk,rfl,hF,hb,hbB,hkv,hkw,rfl,rfl⟩
 simp only [qeI,ZZ,WW,Zd,reduceCtorEq,zd,ze,zb,zf,za]
 refine br ?_ ?_
 rotate_left
 ·intro h
  have hge:shs.length≤k:=by have:=of_decide_eq_false h;omega
  refine zS ?_
  rw [hF,zL (by omega)]
  rfl
 intro h
 have hlt:k < shs.length:=by have:=of_decide_eq_true h;omega
 obtain ⟨x,hx⟩:∃ x,shs[k]?=some x:=⟨_,zg hlt⟩
 have hg:=qa0 hx
 simp only [shV] at hg
 have hxB:=b5 x (zm hx)
 have hxd:shs.getD k sh0=x:=by simp [zu,hx]
 have htk:shs.take (k+1)=shs.take k++[x]:=by rw [zo hlt,(zk.1 hx).2]
 have hdr:=hget hlt
 have k0:decide ((k:Int)=0)=decide (k=0):=decide_eq_decide.2 (by omega)
 have kp:decide ((0:Int) < (k:Int))=decide (0 < k):=decide_eq_decide.2 (by omega)
 have hA:shA dig shs k=qai [qak (!keyB x.id || !keyB x.top) 5,qak ((shs.take k).any fun y=>decide (y.id=x.id)) 6,qak (!decide (x.top=x.id) && (decide (k=0) || !decide (x.top=b.top))) 7,qak (decide (x.top=x.id) && (shs.take k).any fun y=>decide (y.top=x.top)) 6,qak (!inE x.kind 1 4) 4,qak (!inE x.ver 1 1000) 1,qak (!inE x.fr_ 1 x.to_ || decide (powF dig - 1 < x.to_) || (decide (0 < k) && !decide (x.fr_=b.to_+1))) 1]:=by
  unfold shA
  simp only [hxd]
  rcases Nat.eq_zero_or_pos k with hk0|hk0
  ·have z1:decide (0 < k)=false:=by rw [decide_eq_false_iff_not];omega
   have z2:decide (k=0)=true:=by rw [decide_eq_true_eq];omega
   simp only [z1,z2,Bool.true_or,yn]
  ·rw [hb hk0]
 have m1:=hkv x.id
 have m2:=hkw x.top
 have p1:=qoP hkv x
 have p2:=qoP hkw x
 rw [← htk] at p1 p2
 have hpw:=qle hd.2
 have hxp:=qnb x hxB
 simp only [shV] at hxp
 obtain ⟨x1,x2,x3,x4,x5,x6,x7,x8⟩:=hxB
 have hb5:=hbB.to_
 simp only [ZZ,WW,Zd,reduceCtorEq,zd,ze,zb,zf,za,hg,qae]
 ((with_reducible and_intros)<;>try exact sc_)
 refine ⟨[.bool (keyB x.id),.bool (keyB x.top),int (qak (!keyB x.id || !keyB x.top) 5),int (qak ((shs.take k).any fun y=>decide (y.id=x.id)) 6),int (qak (!decide (x.top=x.id) && (decide (k=0) || !decide (x.top=b.top))) 7),int (qak (decide (x.top=x.id) && (shs.take k).any fun y=>decide (y.top=x.top)) 6),.bool (inE x.kind 1 4),int (qak (!inE x.kind 1 4) 4),.bool (inE x.ver 1 1000),int (qak (!inE x.ver 1 1000) 1),.bool (inE x.fr_ 1 x.to_),int (powF dig),int (qak (!inE x.fr_ 1 x.to_ || decide (powF dig - 1 < x.to_) || (decide (0 < k) && !decide (x.fr_=b.to_+1))) 1),int (shA dig shs k)],?_⟩
 simp only [ZZ,WW,Zd,reduceCtorEq,zd,ze,zb,zf,za,m1,m2,k0,kp]
 (repeat' (with_reducible apply And.intro))
 all_goals try (first|exact usep (qcL _ _) rfl (.inl rfl)|exact usep (qqV _ _ _) rfl (.inl rfl)|exact usep (qx3 _ (by omega)) rfl (.inl rfl)|exact fun hq=>⟨hq,usep (qx3 _ (by omega)) rfl (.inl rfl)⟩|exact fun hq=>⟨hq,usep (qrs dig (by omega) (by omega)) rfl (.inl rfl)⟩|exact usep (qeA [_,_,_,_,_,_,_] (by simp)) rfl (.inl rfl)|(intro hq;rw [hq];rfl)|(intro hq;simp [hq];done))
 all_goals try (first|exact fun hq=>⟨hq,qal (by omega) (by omega)⟩|(rw [hA];exact usep (qeA [_,_,_,_,_,_,_] (by simp)) rfl (.inl rfl)))
 have hxd2:shP dig shs k=if shA dig shs k=0 then pgsE x else shA dig shs k:=by unfold shP;rw [hxd]
 refine qgj (fun fr L=>fr=(oo::.adr (.l 1) 0::oo::oo::.mp (.l 36)::.mp (.l 37)::.adr (.l 6) 0::.p (int (k:Nat))::.adr (.l 8) 0::oo::.p (int (shP dig shs k))::oE (oD (oC (oo::(.p (.sl 7 (shE shs))::.p (int (shs.length:Nat))::.p (int (k:Nat))::oG (oF (oC (oB []))))))))∧L=[(.l 1,.box [.p (int no),.p (.str pre),.p (int dig),.p (.sl 7 (shE shs))] tPrd),(.l 36,.map kv 9 4),(.l 37,.map kw 9 4),(.l 6,.box [.p (.str b.id),.p (.str b.top),.p (int b.kind),.p (int b.fr_),.p (int b.to_),.p c5,.p (int b.ver)] qbw),(.l 8,.box [.p (.str x.id),.p (.str x.top),.p (int x.kind),.p (int x.fr_),.p (int x.to_),.p (.sl 1 (tbE x.pages)),.p (int x.ver)] qbw)]) ?_ ?_ ?_
 ·intro h2
  have h3:shA dig shs k=0:=by simpa using h2
  rw [hxd2,if_pos h3]
  refine zS ?_
  refine use1 hxp rfl (.inl rfl) ?_
  refine zS ?_
  exact qdP _ _ zF_ zE_ ⟨rfl,rfl⟩
 ·intro h2
  have h3:¬ shA dig shs k=0:=by simpa using h2
  rw [hxd2,if_neg h3]
  refine zS ?_
  exact qdP _ _ zF_ zE_ ⟨rfl,rfl⟩
 rintro fr L ⟨rfl,rfl⟩
 clear hxp hA hxd2
 refine zS ?_
 refine br ?_ ?_
 ·intro h2
  have h3:¬ shP dig shs k=0:=by simpa using h2
  refine zS ?_
  rw [hF,hdr,if_neg h3]
 ·intro h2
  have h3:shP dig shs k=0:=by simpa using h2
  rw [if_pos h3] at hdr
  refine zS ?_
  refine drg0 ?_
  refine zS ?_
  ((with_reducible and_intros)<;>try exact sc_)
  refine qab (shs.length - (k+1)) (oo::.adr (.l 1) 0::oo::oo::.mp (.l 36)::.mp (.l 37)::.adr (.l 6) 0::oF (oo::(.p (.sl 7 (shE shs))::.p (int (shs.length:Nat))::.p (int ((k+1):Nat))::oG (oF (oC (oB [])))))) [(.l 1,.box [.p (int no),.p (.str pre),.p (int dig),.p (.sl 7 (shE shs))] tPrd),(.l 36,.map (mpS kv x.id (.bool true)) 9 4),(.l 37,.map (mpS kw x.top (.bool true)) 9 4),(.l 6,.box [.p (.str (x).id),.p (.str (x).top),.p (int (x).kind),.p (int (x).fr_),.p (int (x).to_),.p (.sl 1 (tbE x.pages)),.p (int (x).ver)] qbw)] (by omega) zF_ zF_ ⟨k+1,x,.sl 1 (tbE x.pages),mpS kv x.id (.bool true),mpS kw x.top (.bool true),by omega,rfl,by rw [hF,hdr],(fun _=>by rw [Nat.add_sub_cancel];exact hxd.symm),⟨x1,x2,x3,x4,x5,x6,x7,x8⟩,p1,p2,rfl,rfl⟩
end Go.Proofs.YtmpdnpljdcincaaGreatDoor
