import Derived.Test.YtmpdnpljdcincaaGreatDoorZ9
import Derived.Lib.IndexMore
import Derived.Lib.ValidLaws
import Derived.Test.YtmpdnpljdcincaaGreatDoorLayDecode
import Derived.Lib.LastIndexByte
import Derived.Test.YtmpdnpljdcincaaGreatDoorLayLastIndex
import Derived.Lib.OwnBridge
set_option linter.unusedVariables false
set_option linter.unusedSimpArgs false
set_option linter.defProp false
namespace Go.Proofs.YtmpdnpljdcincaaGreatDoor
open Nat renaming reduceAdd→zd,reduceEqDiff→za,reduceLT→zf,reduceLeDiff→zb,reduceMul→ze
open List renaming getElem?_eq_getElem→zg
open Go.RowKit
def qeY:IC:=(sR [qT 66 .lss 65 64] (.seq (.cond (.t 66) .skip (.exit 3)) (.seq (.block 4 (sR [qX 67 1 63 65,qL 68 67,qM 10 68] (sR [qM 69 1,jC 70 111 [.t 8,.t 69]] (.reg [qM 71 10,jC 72 111 [.t 8,.t 71]])))) (.reg [qB 73 .add 65 (cI 1),qM 65 73]))))
def qeZ:IC:=(sR [qT 42 .lss 41 40] (.seq (.cond (.t 42) .skip (.exit 1)) (.seq (.block 2 (sR [qX 43 1 39 41,qL 44 43,qM 7 44] (.seq (sR [qM 45 7,qO 46 (.sln (.t 45)),qM 47 5,qO 48 (.bin .sub (cI 9223372036854775807) (.t 47)),qT 49 .gtr 46 48] (jW 49 (.reg [qO 50 (.dead),⟨none,.dead,none⟩]))) (.cut (.reg [qM 51 5,qM 52 7,qO 53 (.sln (.t 52)),qT 54 .add 51 53,qM 5 54]))))) (.reg [qB 55 .add 41 (cI 1),qM 41 55]))))
abbrev qll:IC:=(sR [qO 4 (.mov (.c (.str [])))] (.seq (sR [qM 11 0,qN 12 11] (.block 0 (sR [qB 14 .eql 12 (cI 0),qM 13 14] (.cond (.t 13) (sR [qO 4 (.mov (.c (.str [])))] .ret) (sR [qB 16 .eql 12 (cI 1),qM 15 16] (jW 15 (sR [qM 17 0,qO 18 (.ixa 1 (.t 17) (cI 0)),qL 19 18,qM 4 19] .ret))))))) (sR [jI 5 0] (.seq (sR [qM 20 1,qO 21 (.sln (.t 20)),qB 22 .gtr 21 (cI 0)] (jW 22 (.seq (sR [qM 23 1,qO 24 (.sln (.t 23)),qM 25 0,qN 26 25,qB 27 .sub 26 (cI 1),qO 28 (.bin .quo (cI 9223372036854775807) (.t 27)),qT 29 .geq 24 28] (jW 29 (.reg [qO 30 (.dead),⟨none,.dead,none⟩]))) (.cut (.reg [qM 31 5,qM 32 1,qO 33 (.sln (.t 32)),qM 34 0,qN 35 34,qB 36 .sub 35 (cI 1),qT 37 .mul 33 36,qT 38 .add 31 37,qM 5 38]))))) (.cut (.seq (sR [qM 39 0,qN 40 39,jI 41 0] (.block 1 (.loop qeZ))) (sR [qO 8 (.alc 143 [.raw (.pointer none),.nl 1])] (sR [qM 56 5,jC 57 110 [.t 8,.t 56]] (sR [qM 58 0,qO 59 (.ixa 1 (.t 58) (cI 0)),qL 60 59,jC 61 111 [.t 8,.t 60]] (.seq (sR [qM 62 0,qO 63 (.vsl 1 (.t 62) (some (cI 1)) none),qN 64 63,jI 65 0] (.block 3 (.loop qeY))) (sR [jC 74 113 [.t 8],qM 4 74] .ret)))))))))))
theorem qlv:chkF Tryz.prog Tryz.f90 qll [.t 4] 75=true:=by kernel_rfl
section
variable {E:Envt} {L:Objs} {k:Key} {i:Nat} {fr:List AV} {d:Option Nat} {is:List IOper} {Y:List PV} {K:List AV→Objs→Prop}
theorem qyb (i:Nat) (s t:List UInt8) (hat:SbAt L k i tSb tU8 s) (hki:k≠.l i) (hlen:s.length+t.length≤140737488355328)
  (hk:qaa Tryz.prog E Y is (Zf (fr.map (·.kill (.l i))) d (.p (.tup [int (t.length:Nat),.raw .nilIface]))) (qjC L k i tSb tU8 (s++t)) K):qbF Tryz.prog E 111 [.adr k 0,.p (.str t)] L d fr (qef Tryz.prog E Y is K):=
 useW (vr:=[.string ⟨t.toArray⟩]) (x:=.tup [int (t.length:Nat),.raw .nilIface]) (v:=.tuple #[.int .i64 t.length,.nilIface]) i tSb tU8 s (s++t) hat hki (fun w U ι vs h=>by obtain ⟨v,r,rfl,h1,h2⟩:=h;simp only [ARep,PRep,ARepL] at h1 h2;rw [h1,h2]) (fun w U=>⟨[_,_],rfl,_,_,rfl,rfl,_,_,rfl,⟨rfl,rfl⟩,rfl⟩)
  (fun b w h _=>qlM b s t w h hlen) hk
theorem qBJ (i:Nat) (n:Nat) (hat:SbAt L k i tSb tU8 []) (hf:Zar L k=some (.box [.p nilP,.p (.nl 1)] tSb)) (hki:k≠.l i) (hn:n≤281474976710656)
  (hk:qaa Tryz.prog E Y is (Zf (fr.map (·.kill (.l i))) d (.p (.tup []))) (qjC L k i tSb tU8 []) K):qbF Tryz.prog E 110 [.adr k 0,.p (int (n:Nat))] L d fr (qef Tryz.prog E Y is K):=
 useW (vr:=[.int .i64 n]) (x:=.tup []) (v:=.tuple #[]) i tSb tU8 [] [] hat hki (fun w U ι vs h=>by obtain ⟨v,r,rfl,h1,h2⟩:=h;simp only [ARep,PRep,ARepL] at h1 h2;rw [h1,h2]) (fun w U=>⟨[],rfl,rfl⟩)
  (fun b w _ h=>qpw 0 b n w (Nat.zero_le _) (h hf) (Nat.zero_le _) hn) hk
theorem qBI (i:Nat) (s:List UInt8) (hat:SbAt L k i tSb tU8 s) (hki:k≠.l i)
  (hk:qaa Tryz.prog E Y is (Zf (fr.map (·.kill (.l i))) d (.p (.str s))) (qpi L k i) K):qbF Tryz.prog E 113 [.adr k 0] L d fr (qef Tryz.prog E Y is K):=
 qBE i tSb tU8 s hat hki (fun b w h=>qpv 0 b s w h (Nat.zero_le _)) hk
theorem qj9:∀ (l:List (List UInt8)) (k:Nat),Lib.lens (l.take k)≤Lib.lens l
 |[],k=>by simp
 |x :: r,0=>by simp [Lib.lens]
 |x :: r,k+1=>by have:=qj9 r k;simp only [List.take_succ_cons,Lib.lens,List.map_cons,List.sum_cons] at *;omega
theorem qAc (l:List (List UInt8)) (sep:List UInt8) (hl:l.length≤1000000000) (hlen:(Lib.join l sep).length≤1000000000):PCall Tryz.prog E 90 [strs l,.str sep] (·=.str (Lib.join l sep)):=by
 refine qag mixed Tryz.func90 qlv ?_
 refine zV ?_
 simp only [strs,ZZ,WW,Zd,reduceCtorEq,zd,ze,zb,zf,za]
 refine br ?_ ?_
 ·intro h
  have h0:l=[]:=by
   have:=of_decide_eq_true h
   simp at this
   exact this
  subst h0
  refine zS ?_
  rfl
 intro h
 have h0:l.length≠0:=by have:=of_decide_eq_false h;simpa using this
 refine zS ?_
 obtain ⟨x,r,rfl⟩:∃ x r,l=x :: r:=by cases l with|nil=>exact absurd rfl h0|cons x r=>exact ⟨x,r,rfl⟩
 refine br ?_ ?_
 ·intro h1
  have h1:r=[]:=List.eq_nil_of_length_eq_zero (by have:=of_decide_eq_true h1;simp at this;omega)
  subst h1
  refine zS ?_
  refine ⟨by simp,by simp,?_⟩
  rw [Lib.join_one]
  rfl
 intro h1
 have h1:r.length≠0:=by have:=of_decide_eq_false h1;simp at this;omega
 have hJ:=Lib.join_length x r sep
 have hcl:(x :: r).length=r.length+1:=by simp
 have hmul:sep.length * r.length≤1000000000:=by omega
 have hll:Lib.lens (x :: r)≤1000000000:=by omega
 generalize hes:(x :: r).map (fun x=>[PV.str x])=es
 have hln:es.length=r.length+1:=by rw [← hes];simp
 have hget:∀ (k:Nat) (y:List UInt8),(x :: r)[k]?=some y→es.getD k []=[PV.str y]:=fun k y h=>by rw [← hes];exact qao h
 refine zS ?_
 refine qgj (fun fr L=>fr=(.p (.sl 1 es)::.p (.str sep)::oo::oo::oo::.p (int (sep.length * r.length:Nat))::oG (oC (oo::[])))∧L=[]) ?_ ?_ ?_
 ·intro hs
  have hs:0 < sep.length:=by have:=of_decide_eq_true hs;omega
  refine zS ?_
  have hq:((9223372036854775807:Int)).tdiv ((es.length:Int) - 1)=((9223372036854775807 / r.length:Nat):Int):=by
   rw [hln,Int.tdiv_eq_ediv_of_nonneg (by omega)]
   have:((r.length+1:Nat):Int) - 1=(r.length:Int):=by omega
   rw [this]
   rfl
  have hq2:9223372036≤9223372036854775807 / r.length:=(Nat.le_div_iff_mul_le (by omega)).2 (by omega)
  have he:(es.length:Int) - 1=(r.length:Int):=by omega
  have hp:(sep.length:Int) * (r.length:Int)=((sep.length * r.length:Nat):Int):=by simp
  have hq3:9223372036854775807 / r.length≤9223372036854775807:=Nat.div_le_self _ _
  have hsl:sep.length≤sep.length * r.length:=Nat.le_mul_of_pos_right _ (by omega)
  rw [hq]
  generalize 9223372036854775807 / r.length=q at *
  simp only [he]
  refine ⟨qal (by omega) (by omega),⟨by omega,qal (by omega) (by omega)⟩,?_⟩
  refine br (fun h=>absurd (of_decide_eq_true h) (by omega)) ?_
  intro _
  refine zS ?_
  refine qaj zE_ ?_
  refine zS ?_
  simp only [he,hp]
  refine ⟨qal (by omega) (by omega),qal (by omega) (by omega),qal (by omega) (by omega),qdP _ [] (by simp only [Int.zero_add];(simp only [ZZ,WW,Zd,reduceCtorEq,zd,ze,zb,zf,za];try trivial)) zE_ ⟨rfl,rfl⟩⟩
 ·intro hs
  have hs:sep.length=0:=by have:=of_decide_eq_false hs;omega
  refine zS ?_
  exact qdP _ [] (by rw [hs];simp only [Nat.zero_mul];(simp only [ZZ,WW,Zd,reduceCtorEq,zd,ze,zb,zf,za];try trivial)) zE_ ⟨rfl,rfl⟩
 ·rintro fr L ⟨rfl,rfl⟩
  refine zS ?_
  refine qac (fun n fr L=>∃ (k:Nat) (m:Nat),k≤r.length+1∧n=r.length+1 - k∧(m=sep.length * r.length+Lib.lens ((x :: r).take k))∧fr=(.p (.sl 1 es)::.p (.str sep)::oo::oo::oo::.p (int (m:Nat))::oF (oo::(.p (.sl 1 es)::.p (int (es.length:Nat))::.p (int (k:Nat))::oF (oo::[]))))∧L=[]) (r.length+1) _ [] zF_ zF_ ⟨0,sep.length * r.length,by omega,by omega,by simp [Lib.lens],rfl,rfl⟩ ?_
  rintro n fr L ⟨k,m,hk,rfl,hm,rfl,rfl⟩
  simp only [qeZ,ZZ,WW,Zd,reduceCtorEq,zd,ze,zb,zf,za]
  refine br ?_ ?_
  ·intro h
   have hlt:k < r.length+1:=by have:=of_decide_eq_true h;omega
   obtain ⟨y,hy⟩:∃ y,(x :: r)[k]?=some y:=⟨_,zg (by simpa using hlt)⟩
   have hg:=hget k y hy
   have hs1:=Lib.lens_take_succ (x :: r) k y hy
   have hs2:=qj9 (x :: r) (k+1)
   simp only [ZZ,WW,Zd,reduceCtorEq,zd,ze,zb,zf,za,hg]
   refine ⟨⟨by omega,by omega⟩,by omega,qal (by omega) (by omega),?_⟩
   refine br (fun h=>absurd (of_decide_eq_true h) (by omega)) ?_
   intro _
   refine zS ?_
   refine qaj zE_ ?_
   refine zS ?_
   refine ⟨qal (by omega) (by omega),qal (by omega) (by omega),?_⟩
   refine qab (r.length+1 - (k+1)) _ [] (by omega) zF_ zF_ ⟨k+1,m+y.length,by omega,rfl,by omega,rfl,rfl⟩
  ·intro h
   have hge:k=r.length+1:=by have:=of_decide_eq_false h;omega
   subst hge
   have hm':m≤1000000000:=by rw [hm,List.take_of_length_le (by simp)];omega
   refine zS ?_
   refine qBJ 1000 m (.inl ⟨rfl,rfl⟩) rfl (by simp) (by omega) ?_
   have hg0:=hget 0 x rfl
   have hlx:Lib.lens (x :: r)=x.length+Lib.lens r:=by simp [Lib.lens]
   simp only [ZZ,WW,Zd,reduceCtorEq,zd,ze,zb,zf,za,qjC,Int.toNat_zero,hg0]
   refine ⟨⟨by omega,by omega⟩,by omega,?_⟩
   refine qyb 1000 [] x (.inr ⟨rfl,rfl⟩) (by simp) (by simp;omega) ?_
   simp only [ZZ,WW,Zd,reduceCtorEq,zd,ze,zb,zf,za,qjC]
   refine ⟨⟨by omega,by omega⟩,?_⟩
   have hd:(es.take es.length).drop 1=strE r:=by rw [List.take_length,← hes];simp [strE]
   simp only [Int.toNat_one,hd,qaf]
   refine qac (fun n fr L=>∃ (k:Nat) (s:List UInt8),k≤r.length∧n=r.length - k∧(s=x++Lib.joinTail sep (r.take k))∧fr=(oo::.p (.str sep)::oC (oB (.adr (.l 8) 0::oF (oE (oC (oB (.p (.sl 1 (strE r))::.p (int (r.length:Nat))::.p (int (k:Nat))::oD (oo::[]))))))))∧L=[(.l 8,.box [.adr (.l 8) 0,.row (.l 1000)] tSb),(.l 1000,.row (bytC s) tU8 1 true)]) (r.length) _ _ zF_ zF_ ⟨0,x,by omega,by omega,by simp [Lib.joinTail],rfl,rfl⟩ ?_
   rintro n fr L ⟨k,s,hk,rfl,hs,rfl,rfl⟩
   simp only [qeY,ZZ,WW,Zd,reduceCtorEq,zd,ze,zb,zf,za]
   refine br ?_ ?_
   ·intro h
    have hlt:k < r.length:=by have:=of_decide_eq_true h;omega
    obtain ⟨y,hy⟩:∃ y,r[k]?=some y:=⟨_,zg hlt⟩
    have hg:=qc3 hy
    have hj1:=Lib.joinTail_take_succ sep r k y hy
    have hj2:=Lib.joinTail_take_le sep r (k+1)
    have hj3:=Lib.joinTail_length sep r
    have hj4:(Lib.joinTail sep (r.take (k+1))).length=(Lib.joinTail sep (r.take k)).length+sep.length+y.length:=by rw [hj1];simp;omega
    have hsl:s.length=x.length+(Lib.joinTail sep (r.take k)).length:=by rw [hs];simp
    simp only [ZZ,WW,Zd,reduceCtorEq,zd,ze,zb,zf,za,qaf,hg]
    refine ⟨⟨by omega,by omega⟩,by omega,?_⟩
    refine qyb 1000 s sep (.inr ⟨rfl,rfl⟩) (by simp) (by omega) ?_
    simp only [ZZ,WW,Zd,reduceCtorEq,zd,ze,zb,zf,za,qjC]
    refine qyb 1000 (s++sep) y (.inr ⟨rfl,rfl⟩) (by simp) (by simp;omega) ?_
    simp only [ZZ,WW,Zd,reduceCtorEq,zd,ze,zb,zf,za,qjC]
    refine ⟨qal (by omega) (by omega),?_⟩
    refine qab (r.length - (k+1)) _ _ (by omega) zF_ zF_ ⟨k+1,s++sep++y,by omega,rfl,by rw [hj1,hs];simp,rfl,rfl⟩
   ·intro h
    have hge:k=r.length:=by have:=of_decide_eq_false h;omega
    subst hge
    refine zS ?_
    refine qBI 1000 s (.inr ⟨rfl,rfl⟩) (by simp) ?_
    refine zS ?_
    rw [hs,List.take_length,Lib.join_cons]
end
end Go.Proofs.YtmpdnpljdcincaaGreatDoor
namespace Go.Proofs.YtmpdnpljdcincaaGreatDoor
end Go.Proofs.YtmpdnpljdcincaaGreatDoor
namespace Go.Proofs.YtmpdnpljdcincaaGreatDoor
open List renaming getElem?_eq_none→zO
open Go.RowKit
def qa4:IC:=(sR [qT 9 .lss 8 7] (.seq (jE 9) (.seq (.block 1 (sR [qM 10 8,qM 5 10] (sR [qM 11 1,qM 12 0,qM 13 5,qX 14 1 12 13,qL 15 14,qO 16 (.callv (.t 11) [.t 15])] (jW 16 (sR [qM 17 5,qM 4 17] .ret))))) (.reg [qB 18 .add 8 (cI 1),qM 8 18]))))
abbrev qc7:IC:=(sR [jI 4 0] (.seq (sR [qM 6 0,qN 7 6,jI 8 0] (.block 0 (.loop qa4))) (sR [jI 4 (-1)] .ret)))
theorem qdc:chkF Tryz.prog Tryz.f138 qc7 [.t 4] 19=true:=by kernel_rfl
abbrev qct:IC:=(sR [qO 4 (.mov (.c (.bool false)))] (sR [qM 5 0,qM 6 1,jC 7 138 [.t 5,.t 6],qB 8 .geq 7 (cI 0),qM 4 8] .ret))
theorem qcD:chkF Tryz.prog Tryz.f92 qct [.t 4] 9=true:=by kernel_rfl
abbrev qf4:IC:=(sR [qO 4 (.mov (.c (.str [])))] (sR [qM 5 0,qM 6 1,jC 7 45 [.t 5,.t 6],qM 4 7] .ret))
theorem qgg:chkF Tryz.prog Tryz.f20 qf4 [.t 4] 8=true:=by kernel_rfl
section
variable {E:Envt}
def idxF {α:Type} (q:α→Bool) (l:List α):Int:=match l.findIdx? q with|some i=>(i:Int)|none=>-1
theorem qf6 {α:Type} {q:α→Bool} {l:List α} {k:Nat} {x:α} (h:l[k]?=some x) (hx:q x=true) (hno:∀ y∈l.take k,q y=false):idxF q l=k:=by
 obtain ⟨hk,hxk⟩:=List.getElem?_eq_some_iff.1 h
 have:l.findIdx? q=some k:=by
  rw [List.findIdx?_eq_some_iff_getElem]
  refine ⟨hk,by rw [hxk];exact hx,fun j hj=>?_⟩
  have:=hno l[j] (by rw [List.mem_take_iff_getElem];exact ⟨j,by omega,rfl⟩)
  simp [this]
 simp [idxF,this]
theorem qd2 {α:Type} {q:α→Bool} {l:List α} (hno:∀ y∈l,q y=false):idxF q l=-1:=by
 have:l.findIdx? q=none:=by rw [List.findIdx?_eq_none_iff];exact hno
 simp [idxF,this]
theorem qi8 {α:Type} (q:α→Bool) (l:List α):decide ((0:Int)≤idxF q l)=l.any q:=by
 rw [← List.findIdx?_isSome]
 unfold idxF
 cases l.findIdx? q<;>simp
theorem qBz (l:List Int) (k:Nat) (c:List (List UInt8)) (hk:k≤1000000) (hl:l.length≤9223372036854775807) (h0:0 < c.length) (h1:c.length≤1000000) :
  qeV Tryz.prog E 20 T (stm l k) [strs c] (fun x cs'=>∃ y,x=.str y∧y∈c∧cs'=stm l (k+1)):=by
 unfold qeV
 refine qep mixed Tryz.func20 qgg ?_
 refine zV ?_
 refine useS (qgX l k c hk hl h0 h1) rfl rfl rfl zE_ ?_
 rintro x cs' ⟨y,rfl,hy,rfl⟩
 refine zS ?_
 exact qdH (stm l (k+1)) rfl ⟨_,rfl,hy,rfl⟩
end
section
variable {E:Envt}
end
theorem qyS (n:Nat):List.replicate n [PV.bool false]=bl (tab n fun _=>false):=by
 unfold bl tab
 rw [List.map_map]
 refine List.ext_getElem? fun j=>?_
 by_cases hj:j < n
 ·simp [hj]
 ·rw [zO (by simpa using hj),zO (by simpa using hj)]
end Go.Proofs.YtmpdnpljdcincaaGreatDoor
namespace Go.Proofs.YtmpdnpljdcincaaGreatDoor
open List renaming length_drop→zY
open Bool renaming and_eq_true→zj
theorem qqD (n b0 b1 b2 b3:Nat) (hn:1≤n) (h:¬ ((Lib.decodeN n b0 b1 b2 b3).1=65533∧(Lib.decodeN n b0 b1 b2 b3).2=1)) :
  (Lib.decodeN n b0 b1 b2 b3).2≤n∧b0 / 64≠2∧(1 < (Lib.decodeN n b0 b1 b2 b3).2→b1 / 64=2)∧(2 < (Lib.decodeN n b0 b1 b2 b3).2→b2 / 64=2)∧(3 < (Lib.decodeN n b0 b1 b2 b3).2→b3 / 64=2)∧(Lib.decodeN n b0 b1 b2 b3).2≤4∧1≤(Lib.decodeN n b0 b1 b2 b3).2:=by
 revert h
 unfold Lib.decodeN
 repeat' split
 all_goals simp only [not_true,not_false_eq_true,and_self,false_imp_iff,true_imp_iff]
 all_goals (try (intro h))
 all_goals (try simp at h)
 all_goals (refine ⟨?_,?_,?_,?_,?_,?_,?_⟩)
 all_goals omega
def inP (s:List UInt8) (i:Nat):Prop:=i < s.length∧(s.getD i 0).toNat / 64=2
theorem qhD (s:List UInt8) (i:Nat):insE s (i:Int)=true↔inP s i:=by
 simp only [insE,zj,decide_eq_true_eq,inP,Int.toNat_natCast]
 omega
theorem qog {s:List UInt8} {i:Nat} (h:Lib.validD (s.drop i)=true) (hi:i < s.length) :
  ¬ inP s i∧1≤(Lib.decodeL (s.drop i)).2∧i+(Lib.decodeL (s.drop i)).2≤s.length∧(∀ j,i < j→j < i+(Lib.decodeL (s.drop i)).2→inP s j)∧Lib.validD (s.drop (i+(Lib.decodeL (s.drop i)).2))=true:=by
 have hne:s.drop i≠[]:=by
  intro e
  have:=congrArg List.length e
  rw [zY] at this
  simp at this
  omega
 rw [Lib.validD_step _ hne] at h
 split at h
 ·cases h
 rename_i hc
 have hl:(s.drop i).length=s.length - i:=zY
 have hg:∀ k,(s.drop i).getD k 0=s.getD (i+k) 0:=fun k=>by simp [List.getD,List.getElem?_drop]
 rw [List.drop_drop] at h
 rw [Lib.decodeL_N] at hc h ⊢
 rw [hl,hg,hg,hg,hg] at hc h ⊢
 obtain ⟨h1,h2,h3,h4,h5,h6,h7⟩:=qqD _ _ _ _ _ (by omega) hc
 generalize Lib.decodeN (s.length - i) (s.getD (i+0) 0).toNat (s.getD (i+1) 0).toNat (s.getD (i+2) 0).toNat (s.getD (i+3) 0).toNat=d at *
 refine ⟨fun hp=>h2 hp.2,h7,by omega,fun j hj1 hj2=>⟨by omega,?_⟩,h⟩
 rcases (by omega:j=i+1∨j=i+2∨j=i+3) with rfl|rfl|rfl
 ·exact h3 (by omega)
 ·exact h4 (by omega)
 ·exact h5 (by omega)
def qAy (s:List UInt8) (a b:Nat):Prop:=∀ i,(a < i∧i≤b)∨(b < i∧i≤a)→inP s i
theorem qnW (s:List UInt8):∀ (f j:Nat),j≤f→(qbk s f≤j↔∀ i,j < i→i≤f→inP s i)
 |0,j,h=>by
  constructor
  ·intro _ i h1 h2;omega
  ·intro _;simp [qbk]
 |f+1,j,h=>by
  unfold qbk
  split
  ·rename_i hin
   rw [qhD] at hin
   by_cases hj:j=f+1
   ·subst hj
    constructor
    ·intro _ i h1 h2;omega
    ·intro _;have:=qkQ s f;omega
   ·rw [qnW s f j (by omega)]
    constructor
    ·intro h1 i h2 h3
     by_cases hi:i=f+1
     ·subst hi;exact hin
     ·exact h1 i h2 (by omega)
    ·intro h1 i h2 h3
     exact h1 i h2 (by omega)
  ·rename_i hin
   rw [qhD] at hin
   constructor
   ·intro h1 i h2 h3;omega
   ·intro h1
    by_cases hj:j=f+1
    ·omega
    ·exact absurd (h1 (f+1) (by omega) (by omega)) hin
theorem qqv (s:List UInt8):∀ (d t j:Nat),s.length≤t+d→t≤j→(j < fwdN s d t↔∀ i,t≤i→i≤j→inP s i)
 |0,t,j,h,hj=>by
  unfold fwdN
  constructor
  ·intro h1;omega
  ·intro h1
   have:=(h1 t (Nat.le_refl _) hj).1
   omega
 |d+1,t,j,h,hj=>by
  unfold fwdN
  split
  ·rename_i hin
   rw [qhD] at hin
   by_cases hjt:j=t
   ·subst hjt
    constructor
    ·intro _ i h1 h2
     have:i=j:=by omega
     subst this;exact hin
    ·intro _;have:=qqw s d (j+1);omega
   ·rw [qqv s d (t+1) j (by omega) (by omega)]
    constructor
    ·intro h1 i h2 h3
     by_cases hi:i=t
     ·subst hi;exact hin
     ·exact h1 i (by omega) h3
    ·intro h1 i h2 h3
     exact h1 i (by omega) h3
  ·rename_i hin
   rw [qhD] at hin
   constructor
   ·intro h1;omega
   ·intro h1
    exact absurd (h1 t (Nat.le_refl _) hj) hin
theorem qsI {s:List UInt8} {l:List (Int×Int)} (hl:∀ p∈l,0≤p.1∧p.1 < p.2∧p.2≤s.length) (j:Nat):cov (qea s l) j=true↔∃ j':Nat,cov l j'=true∧qAy s j j':=by
 simp only [cov,List.any_eq_true,zj,decide_eq_true_eq,qea,List.mem_map]
 constructor
 ·rintro ⟨_,⟨p,hp,rfl⟩,h1,h2⟩
  obtain ⟨b1,b2,b3⟩:=hl p hp
  simp only [pntF] at h1 h2
  by_cases c1:(j:Int) < p.1
  ·refine ⟨p.1.toNat,⟨p,hp,by omega,by omega⟩,?_⟩
   have:=(qnW s p.1.toNat j (by omega)).1 (by omega)
   rintro i (⟨g1,g2⟩|⟨g1,g2⟩)
   ·exact this i g1 g2
   ·omega
  ·by_cases c2:(j:Int) < p.2
   ·refine ⟨j,⟨p,hp,by omega,c2⟩,?_⟩
    rintro i (⟨g1,g2⟩|⟨g1,g2⟩)<;>omega
   ·refine ⟨(p.2 - 1).toNat,⟨p,hp,by omega,by omega⟩,?_⟩
    have:=(qqv s (s.length - p.2.toNat) p.2.toNat j (by omega) (by omega)).1 (by omega)
    rintro i (⟨g1,g2⟩|⟨g1,g2⟩)
    ·omega
    ·exact this i (by omega) g2
 ·rintro ⟨j',⟨p,hp,h1,h2⟩,hs⟩
  obtain ⟨b1,b2,b3⟩:=hl p hp
  refine ⟨_,⟨p,hp,rfl⟩,?_,?_⟩
  ·simp only [pntF]
   have hbl:=qkQ s p.1.toNat
   by_cases c1:(j:Int) < p.1
   ·have:=(qnW s p.1.toNat j (by omega)).2 (fun i g1 g2=>hs i (.inl ⟨g1,by omega⟩))
    omega
   ·omega
  ·simp only [pntF]
   have hfl:=qqw s (s.length - p.2.toNat) p.2.toNat
   by_cases c2:(j:Int) < p.2
   ·omega
   ·have:=(qqv s (s.length - p.2.toNat) p.2.toNat j (by omega) (by omega)).2 (fun i g1 g2=>hs i (.inr ⟨by omega,g2⟩))
    omega
theorem qsi {s:List UInt8} {i n j j':Nat} (h0:¬ inP s i) (h1:∀ k,i < k→k < i+n→inP s k) (h2:¬ inP s (i+n)) (hj:i≤j∧j < i+n):qAy s j j'↔i≤j'∧j' < i+n:=by
 constructor
 ·intro h
  constructor
  ·rcases Nat.lt_or_ge j' i with h'|h'
   ·exact absurd (h i (.inr ⟨h',hj.1⟩)) h0
   ·exact h'
  ·rcases Nat.lt_or_ge j' (i+n) with h'|h'
   ·exact h'
   ·exact absurd (h (i+n) (.inl ⟨hj.2,h'⟩)) h2
 ·rintro ⟨g1,g2⟩ k (⟨k1,k2⟩|⟨k1,k2⟩)
  ·exact h1 k (by omega) (by omega)
  ·exact h1 k (by omega) (by omega)
theorem qs3 {s:List UInt8} {i:Nat} (h:Lib.validD (s.drop i)=true):¬ inP s i:=by
 intro hp
 exact (qog h hp.1).1 hp
theorem qg0:∀ (kv:List (List UInt8×PV)) (s t:List UInt8) (v:PV),mpF (mpS kv s v) t=if s=t then some v else mpF kv t
 |[],s,t,v=>by simp [mpS,mpF]
 |p :: r,s,t,v=>by
  simp only [mpS]
  split
  ·rename_i h
   by_cases hs:s=t
   ·simp [mpF,hs]
   ·simp [mpF,hs,h]
  ·rename_i h
   simp only [mpF,qg0 r s t v]
   by_cases hp:p.1=t
   ·have:¬ s=t:=fun e=>h (hp.trans e.symm)
    simp [hp,this]
   ·simp [hp]
def qtv (kv:List (List UInt8×PV)) (W:List (List UInt8)):Prop:=∀ w,mpD kv w (.bool false)=.bool (decide (w∈W))
theorem qtu:qtv [] []:=fun w=>by simp [mpD,mpF]
theorem qtt {kv:List (List UInt8×PV)} {W:List (List UInt8)} (h:qtv kv W) (s:List UInt8):qtv (mpS kv s (.bool true)) (W++[s]):=fun w=>by
 have h:=h w
 unfold mpD at h ⊢
 rw [qg0]
 by_cases hs:s=w
 ·simp [hs]
 ·have hw:¬ w=s:=fun e=>hs e.symm
  rw [if_neg hs,h]
  simp [hw]
end Go.Proofs.YtmpdnpljdcincaaGreatDoor
namespace Go.Proofs.YtmpdnpljdcincaaGreatDoor
open Nat renaming reduceAdd→zd,reduceEqDiff→za,reduceLT→zf,reduceLeDiff→zb,reduceMul→ze
open List renaming eq_nil_of_length_eq_zero→zr,getElem?_drop→yd,getElem?_eq_some_iff→zk,getElem?_take→yv
open Go.RowKit
section
variable {P:Program} {E:Envt} {w:World} {U:Nat→Prop}
theorem quZ {z b:Nat}:∀ (es:List (List PV)) (vs:List Value) (off:Nat),(∀ x∈es,x.length=z)→PRepL w U es.flatten vs→(∀ v∈vs,v.oneCell'=true)→(∀ j u,vs[j]?=some u→w.cell? ⟨b,off+j,none⟩=some u)→PRepE w U b z off es:=by
 intro es
 induction es with
 |nil=>intros;simp [PRepE]
 |cons x r ih=>
  intro vs off hz hv h1 hc
  simp only [PRepE]
  have hx:=hz x (by simp)
  simp only [List.flatten_cons] at hv
  have ha:=hv.take x.length
  have hb:=hv.drop x.length
  rw [List.take_left] at ha
  rw [List.drop_left] at hb
  refine ⟨hx,PRepC.of ha (fun v hv=>h1 v (List.mem_of_mem_take hv)) (fun j u hu=>hc j u (by rw [yv] at hu;split at hu;exact hu;cases hu)),ih _ (off+z) (fun y hy=>hz y (by simp [hy])) hb (fun v hv=>h1 v (List.mem_of_mem_drop hv)) (fun j u hu=>?_)⟩
  rw [yd] at hu
  have:=hc _ u hu
  rwa [hx,← Nat.add_assoc] at this
theorem qAM {f:FuncId} {args:List PV} {e z:Nat} {φ:List (List PV)→Prop} (h:FCall P E f args e z φ):PCall P E f args (fun x=>∃ es,x=.sl z es∧φ es):=by
 intro w U vs hU hE hEb hA
 refine (h w U vs undef hU hE (fun c hc=>⟨hEb c hc,fun h=>by cases h⟩) hA trivial).mono ?_
 rintro e' w' ⟨v,r,os',rfl,⟨es,rfl,hφ⟩,⟨us,hrow,h1,hl,hz,hb⟩,hg⟩
 refine ⟨v,.sl z es,rfl,⟨es,rfl,hφ⟩,?_,hg⟩
 have hcl:=fun g m c hv=>hrow.cells (g:=g) (m:=m) (c:=c) hv
 rcases hrow.2 with ⟨rfl,g2⟩|⟨g,cap,cur,fz,rfl,k2,k3,_⟩
 ·exact ⟨none,0,by rw [g2],by omega,fun hne=>absurd (zr g2) hne⟩
 ·refine ⟨_,cap,rfl,k3,fun _=>⟨g,0,rfl,(Array.getElem?_eq_some_iff.1 k2).1,fun hu=>?_,?_⟩⟩
  ·have h1:=hU g hu
   have h2:=hb g rfl
   omega
  ·refine quZ es us 0 hz (PRepL.mono (fun c _ hu=>⟨rfl,fun h=>hu (.inl h)⟩) _ _ hl) h1 (fun j u hu=>?_)
   rw [Nat.zero_add]
   exact hcl g _ _ rfl j u hu
theorem qy1 {f:FuncId} {args:List PV} {e z:Nat} {es:List (List PV)} (h:FCall P E f args e z (·=es)):PCall P E f args (·=.sl z es):=by
 intro w U vs hU hE hEb hA
 refine (qAM h w U vs hU hE hEb hA).mono ?_
 rintro e' w' ⟨v,x,h1,⟨es',rfl,rfl⟩,h2⟩
 exact ⟨v,_,h1,rfl,h2⟩
end
def qbR:IC:=(sR [qT 9 .lss 8 7] (.seq (jE 9) (.seq (.block 1 (sR [qM 10 8,qM 5 10] (sR [qM 11 1,qM 12 0,qM 13 5,qX 14 1 12 13,qL 15 14,qO 16 (.bnb .eql (.t 11) (.t 15))] (jW 16 (sR [qM 17 5,qM 4 17] .ret))))) (.reg [qB 18 .add 8 (cI 1),qM 8 18]))))
abbrev qe9:IC:=(sR [jI 4 0] (.seq (sR [qM 6 0,qN 7 6,jI 8 0] (.block 0 (.loop qbR))) (sR [jI 4 (-1)] .ret)))
theorem qfg:chkF Tryz.prog Tryz.f282 qe9 [.t 4] 19=true:=by kernel_rfl
abbrev qes:IC:=(sR [qO 4 (.mov (.c (.bool false)))] (sR [qM 5 0,qM 6 1,jC 7 282 [.t 5,.t 6],qB 8 .geq 7 (cI 0),qM 4 8] .ret))
theorem qex:chkF Tryz.prog Tryz.f249 qes [.t 4] 9=true:=by kernel_rfl
def qcy:IC:=(sR [qT 39 .lss 38 37] (.seq (.cond (.t 39) .skip (.exit 2)) (.seq (.block 3 (sR [qM 40 38,qM 11 40] (.reg [qM 41 6,qM 42 7,qM 43 11,qT 44 .add 42 43,qM 45 10,qX 46 1 41 44,qS 1 46 45]))) (.reg [qB 47 .add 38 (cI 1),qM 38 47]))))
def qcz:IC:=(.seq (sR [qM 19 7,qM 20 0,qO 21 (.sln (.t 20)),qT 22 .lss 19 21] (jE 22)) (.block 1 (sR [qM 24 0,qM 25 7,qO 26 (.ssl (.t 24) (some (.t 25)) none),jC 27 230 [.t 26],qM 23 27,qO 28 (.ext 0 (.t 23)),qO 29 (.ext 1 (.t 23)),qM 8 28,qM 9 29] (sR [qM 30 5,qM 31 7,qM 32 7,qM 33 9,qT 34 .add 32 33,qO 35 (.vsl 1 (.t 30) (some (.t 31)) (some (.t 34))),jC 36 249 [.t 35,.c (.bool true)],qM 10 36] (.seq (sR [qM 37 9,jI 38 0] (.block 2 (.loop qcy))) (.reg [qM 48 7,qM 49 9,qT 50 .add 48 49,qM 7 50]))))))
abbrev qgC:IC:=(sR [qO 4 (.mov (.c (.nl 1)))] (sR [qM 12 1,qM 13 0,qO 14 (.sln (.t 13)),jC 15 248 [.t 12,.t 14],qM 5 15] (sR [qM 16 0,qO 17 (.sln (.t 16)),qO 18 (.mks 4 1 1 [.bool false] (.t 17) (.t 17)),qM 6 18] (.seq (sR [jI 7 0] (.block 0 (.loop qcz))) (sR [qM 51 6,qM 4 51] .ret)))))
theorem qgJ:chkF Tryz.prog Tryz.f204 qgC [.t 4] 52=true:=by kernel_rfl
section
variable {E:Envt}
theorem qvt (l:List Bool) (b:Bool) (hl:l.length≤1000000000):PCall Tryz.prog E 282 [.sl 1 (bl l),.bool b] (·=int (idxF (· == b) l)):=by
 refine qag mixed Tryz.func282 qfg ?_
 refine zV ?_
 have hln:=qkf l
 have hget:∀ k x,l[k]?=some x→(bl l).getD k []=[.bool x]:=fun k p hp=>qao hp
 generalize bl l=es at hln hget ⊢
 simp only [ZZ,WW,Zd,reduceCtorEq,zd,ze,zb,zf,za,hln]
 refine qac (fun n fr L=>∃ (k:Nat),k≤l.length∧n=l.length - k∧(∀ x∈l.take k,(x == b)=false)∧fr=(.p (.sl 1 es)::.p (.bool b)::oC (oo::(.p (int (l.length:Nat))::.p (int (k:Nat))::oD (oB []))))∧L=[]) (l.length) _ [] zF_ zF_ ⟨0,by omega,by omega,by simp,rfl,rfl⟩ ?_
 rintro n fr L ⟨k,hk,rfl,hno,rfl,rfl⟩
 simp only [qbR,ZZ,WW,Zd,reduceCtorEq,zd,ze,zb,zf,za]
 refine br ?_ ?_
 ·intro h
  have hlt:k < l.length:=by have:=of_decide_eq_true h;omega
  obtain ⟨x,hx⟩:∃ x,l[k]?=some x:=⟨_,List.getElem?_eq_getElem hlt⟩
  have hg:=hget k x hx
  simp only [ZZ,WW,Zd,reduceCtorEq,zd,ze,zb,zf,za,hg,hln]
  ((with_reducible and_intros)<;>try exact sc_)
  refine br ?_ ?_
  ·intro hq
   refine zS ?_
   rw [qf6 hx (by rw [Bool.beq_comm];exact hq) hno]
  ·intro hq
   refine zS ?_
   ((with_reducible and_intros)<;>try exact sc_)
   refine qab (l.length - (k+1)) _ [] (by omega) zF_ zF_ ⟨k+1,by omega,rfl,by rw [List.take_succ_eq_append_getElem hlt];intro y hy;rcases List.mem_append.1 hy with hy|hy;exact hno y hy;rw [List.mem_singleton] at hy;rw [hy,(zk.1 hx).2,Bool.beq_comm];exact hq,rfl,rfl⟩
 ·intro h
  have hge:l.length≤k:=by have:=of_decide_eq_false h;omega
  rw [List.take_of_length_le hge] at hno
  refine zS ?_
  rw [qd2 hno]
theorem qpR (l:List Bool) (b:Bool) (hl:l.length≤1000000000):PCall Tryz.prog E 249 [.sl 1 (bl l),.bool b] (·=.bool (l.any (· == b))):=by
 refine qag mixed Tryz.func249 qex ?_
 refine zV ?_
 refine use1 (qvt l b hl) rfl (.inl rfl) ?_
 refine zS ?_
 rw [qi8]
theorem qxk {N a b:Nat} {c:Nat→Bool}:(((tab N c).take b).drop a).any (· == true)=true↔∃ j,a≤j∧j < b∧j < N∧c j=true:=by
 rw [List.any_eq_true]
 constructor
 ·rintro ⟨x,hx,h⟩
  obtain ⟨i,hi⟩:=List.getElem?_of_mem hx
  rw [yd,yv] at hi
  split at hi
  ·rename_i hlt
   have hN:a+i < N:=by have:=(zk.1 hi).1;rw [qfM] at this;exact this
   rw [qmP hN] at hi
   cases hi
   exact ⟨a+i,by omega,hlt,hN,by simpa using h⟩
  ·cases hi
 ·rintro ⟨j,h1,h2,h3,h4⟩
  refine ⟨true,?_,rfl⟩
  refine List.mem_of_getElem? (i:=j - a) ?_
  rw [yd,yv,if_pos (by omega),show a+(j - a)=j from by omega,qmP h3,h4]
theorem qzV {l:List Bool} {a b:Nat}:((bl l).take b).drop a=bl ((l.take b).drop a):=by simp [bl,List.map_drop,List.map_take]
theorem qvy (t:List UInt8) (ht:t≠[]):PCall Tryz.prog E0 230 [.str t] (·=.tup [.int .i32 (Lib.decodeL t).1,int (Lib.decodeL t).2]):=
 qbm rfl rfl fun w hE=>(Any.utf8_DecodeRuneInString Tryz.layDecode ⟨t.toArray⟩ w hE.1).mono fun e w' h=>⟨by
  have hd:Lib.decodeGo ⟨t.toArray⟩=Lib.decodeL t:=by
   unfold Lib.decodeGo
   rw [if_neg (by rw [qfn];exact fun e=>ht (zr e))]
   rfl
  rw [h.1,hd];rfl,qfE h.2⟩
theorem qpj (s:List UInt8) (l:List (Int×Int)) (hs:s.length≤1000000) (hl:l.length≤1000000) (hv:Lib.validD s=true) (hb:∀ p∈l,0≤p.1∧p.1 < p.2∧p.2≤s.length) :
  FCall Tryz.prog E0 204 [.str s,sps l] 4 1 (·=bl (tab s.length (cov (qea s l)))):=by
 unfold FCall
 refine qfF mixed Tryz.func204 qgJ ?_
 refine zV ?_
 refine use1 (qy1 (qsr l s.length hl hs (fun p hp=>by have:=hb p hp;omega))) rfl (.inl rfl) ?_
 refine zS ?_
 ((with_reducible and_intros)<;>try exact sc_)
 rw [qyS]
 have hcp:=fun j=>qsI hb j
 have hpl:=qkf (tab s.length (cov l))
 rw [qfM] at hpl
 have hpart:=fun a b=>@qzV (tab s.length (cov l)) a b
 generalize cov (qea s l)=C at *
 have hany:=fun a b=>@qxk s.length a b (cov l)
 refine qac (fun n fr L=>∃ (i:Nat) (g:Nat→Bool),s.length - i=n∧(i≤s.length)∧(Lib.validD (s.drop i)=true)∧(∀ j,j < s.length→g j=(decide (j < i) && C j))∧fr=(.p (.str s)::oo::oo::oo::oo::.p (.sl 1 (bl (tab s.length (cov l))))::.row (.l 18)::.p (int (i:Nat))::oF (oD (oC [])))∧L=[(.l 18,.row (bl (tab s.length g)) 4 1 true)]) (s.length - 0) (.p (.str s)::oo::oo::oo::oo::.p (.sl 1 (bl (tab s.length (cov l))))::.row (.l 18)::.p (int (0:Nat))::oF (oD (oC []))) [(.l 18,.row (bl (tab s.length (fun _=>false))) 4 1 true)] zF_ zF_ ⟨0,fun _=>false,rfl,by omega,hv,by intro j _;simp,rfl,rfl⟩ ?_
 rintro n fr L ⟨i,g,rfl,hi,hvi,hg,rfl,rfl⟩
 simp only [qcz,ZZ,WW,Zd,reduceCtorEq,zd,ze,zb,zf,za]
 refine br ?_ ?_
 ·intro h
  have hlt:i < s.length:=by have:=of_decide_eq_true h;omega
  obtain ⟨c1,c2,c3,c4,c5⟩:=qog hvi hlt
  have hne:s.drop i≠[]:=by intro e;have:=congrArg List.length e;rw [List.length_drop] at this;simp at this;omega
  refine zS ?_
  ((with_reducible and_intros)<;>try exact sc_)
  rw [List.take_length]
  refine use1 (qvy (s.drop i) hne) rfl (.inl rfl) ?_
  generalize (Lib.decodeL (s.drop i)).1=r at *
  generalize (Lib.decodeL (s.drop i)).2=m at *
  have e1:((i:Nat):Int)+((m:Nat):Int)=((i+m:Nat):Int):=by omega
  simp only [ZZ,WW,Zd,reduceCtorEq,zd,ze,zb,zf,za,hpl,e1]
  ((with_reducible and_intros)<;>try exact sc_)
  rw [hpart]
  refine use1 (qpR _ true (by simp [qfM];omega)) rfl (.inl rfl) ?_
  have hon:∀ j,i≤j→j < i+m→(((tab s.length (cov l)).take (i+m)).drop i).any (· == true)=C j:=by
   intro j h1 h2
   rw [Bool.eq_iff_iff,hany,hcp]
   have hbk:=fun j'=>qsi (j':=j') c1 c4 (qs3 c5) ⟨h1,h2⟩
   constructor
   ·rintro ⟨k,k1,k2,k3,k4⟩
    exact ⟨k,k4,(hbk k).2 ⟨k1,k2⟩⟩
   ·rintro ⟨k,k4,k5⟩
    obtain ⟨k1,k2⟩:=(hbk k).1 k5
    exact ⟨k,k1,k2,by omega,k4⟩
  generalize (((tab s.length (cov l)).take (i+m)).drop i).any (· == true)=on at *
  refine zS ?_
  refine qac (fun n fr L=>∃ (k:Nat) (g':Nat→Bool),k≤m∧n=m - k∧(∀ j,j < s.length→g' j=(decide (j < i+k) && C j))∧fr=(.p (.str s)::oo::oo::oo::oo::.p (.sl 1 (bl (tab s.length (cov l))))::.row (.l 18)::.p (int (i:Nat))::oo::.p (int (m:Nat))::.p (.bool on)::oE (oD (oB (.p (int (m:Nat))::.p (int (k:Nat))::oD (oC (oo::[]))))))∧L=[(.l 18,.row (bl (tab s.length g')) 4 1 true)]) (m) _ _ zF_ zF_ ⟨0,g,by omega,by omega,by intro j hj;rw [hg j hj];rfl,rfl,rfl⟩ ?_
  rintro n fr L ⟨k,g',hk,rfl,hg',rfl,rfl⟩
  simp only [qcy,ZZ,WW,Zd,reduceCtorEq,zd,ze,zb,zf,za]
  refine br ?_ ?_
  ·intro h2
   have hkn:k < m:=by have:=of_decide_eq_true h2;omega
   have hin:i+k < s.length:=by omega
   have e2:((i:Nat):Int)+((k:Nat):Int)=((i+k:Nat):Int):=by omega
   have hnx:∀ j,j < s.length→((fun j=>if j=i+k then on else g' j) j=(decide (j < i+(k+1)) && C j)):=by
    intro j hj
    simp only
    by_cases hji:j=i+k
    ·rw [if_pos hji,hon j (by omega) (by omega)]
     simp;omega
    ·rw [if_neg hji,hg' j hj]
     congr 1
     simp only [decide_eq_decide]
     omega
   simp only [ZZ,WW,Zd,reduceCtorEq,zd,ze,zb,zf,za,e2,qkf,qfM,qu6 hin]
   simp only [Zaa,List.set_cons_zero,qx2]
   ((with_reducible and_intros)<;>try exact sc_)
   refine qab (m - (k+1)) _ _ (by omega) zF_ zF_ ⟨k+1,fun j=>if j=i+k then on else g' j,by omega,rfl,hnx,rfl,rfl⟩
  ·intro h2
   have hkn:k=m:=by have:=of_decide_eq_false h2;omega
   subst hkn
   simp only [ZZ,WW,Zd,reduceCtorEq,zd,ze,zb,zf,za,e1]
   ((with_reducible and_intros)<;>try exact sc_)
   refine qab (s.length - (i+k)) _ _ (by omega) zF_ zF_ ⟨i+k,g',rfl,by omega,c5,hg',rfl,rfl⟩
 ·intro h
  have hge:i=s.length:=by have:=of_decide_eq_false h;omega
  have htab:tab s.length g=tab s.length C:=qiL fun j hj=>by rw [hg j hj];simp;omega
  refine zS ?_
  exact qjd 18 _ rfl rfl (by rw [htab])
end
end Go.Proofs.YtmpdnpljdcincaaGreatDoor
namespace Go.Proofs.YtmpdnpljdcincaaGreatDoor
open Nat renaming reduceAdd→zd,reduceEqDiff→za,reduceLT→zf,reduceLeDiff→zb,reduceMul→ze
open List renaming getElem?_eq_getElem→zg,take_of_length_le→zq
def qbr:IC:=(sR [qT 14 .lss 13 12] (.seq (jE 14) (.seq (.block 1 (sR [qM 15 13,qM 5 15] (.seq (.drg [qM 16 0,qM 17 5,qX 18 1 16 17,qL 19 18,qM 20 1,qM 21 5,qX 22 1 20 21,qL 23 22,qT 24 .neq 19 23]) (jW 24 (sR [qO 4 (.mov (.c (.bool false)))] .ret))))) (.reg [qB 25 .add 13 (cI 1),qM 13 25]))))
abbrev qec:IC:=(sR [qO 4 (.mov (.c (.bool false)))] (.seq (sR [qM 6 0,qN 7 6,qM 8 1,qN 9 8,qT 10 .neq 7 9] (jW 10 (sR [qO 4 (.mov (.c (.bool false)))] .ret))) (.seq (sR [qM 11 0,qN 12 11,jI 13 0] (.block 0 (.loop qbr))) (sR [qO 4 (.mov (.c (.bool true)))] .ret))))
theorem qeh:chkF Tryz.prog Tryz.f18 qec [.t 4] 26=true:=by kernel_rfl
section
variable {E:Envt}
theorem qlJ (l m:List (List UInt8)) (hl:l.length≤1000000000):PCall Tryz.prog E 18 [strs l,strs m] (·=.bool (decide (l=m))):=by
 refine qag mixed Tryz.func18 qeh ?_
 refine zV ?_
 simp only [strs,ZZ,WW,Zd,reduceCtorEq,zd,ze,zb,zf,za]
 have hln:(l.map fun x=>[PV.str x]).length=l.length:=by simp
 have hlm:(m.map fun x=>[PV.str x]).length=m.length:=by simp
 have hget:∀ k x,l[k]?=some x→(l.map fun x=>[PV.str x]).getD k []=[.str x]:=fun k p hp=>qao hp
 have hgem:∀ k x,m[k]?=some x→(m.map fun x=>[PV.str x]).getD k []=[.str x]:=fun k p hp=>qao hp
 generalize (l.map fun x=>[PV.str x])=es at *
 generalize (m.map fun x=>[PV.str x])=fs at *
 simp only [ZZ,WW,Zd,reduceCtorEq,zd,ze,zb,zf,za,hln,hlm]
 refine br ?_ ?_
 ·intro h
  have:¬ l=m:=by rintro rfl;simp at h
  refine zS ?_
  simp [this]
 intro h
 have hlen:l.length=m.length:=by have:(l.length:Int)=m.length:=by simpa using h
                                 omega
 refine zS ?_
 refine qac (fun n fr L=>∃ (k:Nat),k≤l.length∧n=l.length - k∧(l.take k=m.take k)∧fr=(.p (.sl 1 es)::.p (.sl 1 fs)::oD (oB (.p (int (l.length:Nat))::.p (int (k:Nat))::oD (oC []))))∧L=[]) (l.length) _ [] (by simp only [hln,ZZ,WW,Zd,reduceCtorEq,zd,ze,zb,zf,za];try trivial) zF_ ⟨0,by omega,by omega,by simp,rfl,rfl⟩ ?_
 rintro n fr L ⟨k,hk,rfl,hf,rfl,rfl⟩
 simp only [qbr,ZZ,WW,Zd,reduceCtorEq,zd,ze,zb,zf,za]
 refine br ?_ ?_
 ·intro h
  have hlt:k < l.length:=by have:=of_decide_eq_true h;omega
  obtain ⟨x,hx⟩:∃ x,l[k]?=some x:=⟨_,zg hlt⟩
  obtain ⟨y,hy⟩:∃ y,m[k]?=some y:=⟨_,zg (by omega)⟩
  have hg:=hget k x hx
  have hg2:=hgem k y hy
  refine zS ?_
  refine drg0 ?_
  simp only [ZZ,WW,Zd,reduceCtorEq,zd,ze,zb,zf,za,hg,hg2,hln,hlm]
  ((with_reducible and_intros)<;>try exact sc_)
  refine br ?_ ?_
  ·intro h2
   have:¬ l=m:=by
    rintro rfl
    rw [hx] at hy
    cases hy
    simp at h2
   refine zS ?_
   simp [this]
  ·intro h2
   have hxy:x=y:=by simpa using h2
   refine zS ?_
   ((with_reducible and_intros)<;>try exact sc_)
   refine qab (l.length - (k+1)) _ [] (by omega) zF_ zF_ ⟨k+1,by omega,rfl,by rw [List.take_add_one,List.take_add_one,hf,hx,hy,hxy],rfl,rfl⟩
 ·intro h
  have hge:l.length≤k:=by have:=of_decide_eq_false h;omega
  refine zS ?_
  rw [zq hge,zq (by omega)] at hf
  simp [hf]
end
end Go.Proofs.YtmpdnpljdcincaaGreatDoor
namespace Go.Proofs.YtmpdnpljdcincaaGreatDoor
open Nat renaming reduceAdd→zd,reduceEqDiff→za,reduceLT→zf,reduceLeDiff→zb,reduceMul→ze
open List renaming cons_append→yi,length_cons→zK
open Bool renaming and_eq_false_iff→yu,eq_iff_iff→yx,not_eq_true'→zW,or_eq_true→zU
open Go.RowKit
section
end
def sp (c:UInt8):List UInt8→List (List UInt8)
 |[]=>[[]]
 |x :: s=>if x=c then [] :: sp c s else (x :: (sp c s).headD []) :: (sp c s).tail
theorem qAq (c:UInt8) (s:List UInt8):sp c s≠[]:=by
 cases s with
 |nil=>simp [sp]
 |cons x s=>unfold sp;split<;>simp
theorem qjz {s:List UInt8} {c:UInt8} (h:Lib.index s [c]=-1):Lib.split s [c]=[s]:=by
 unfold Lib.split
 rw [Lib.count_miss h]
 rfl
theorem qk0 {s:List UInt8} {c:UInt8} {i:Nat} (h:Lib.index s [c]=i):Lib.split s [c]=s.take i :: Lib.split (s.drop (i+1)) [c]:=by
 unfold Lib.split
 rw [Lib.count_hit (by simp) h,Nat.add_comm,Lib.splitK,if_neg (by rw [h];simp),h]
 simp
theorem qvM (c:UInt8):∀ s:List UInt8,Lib.split s [c]=sp c s:=by
 intro s
 induction s with
 |nil=>rw [qjz (by rfl)];rfl
 |cons x s ih=>
  by_cases hx:x=c
  ·subst hx
   have h0:Lib.index (x :: s) [x]=((0:Nat):Int):=by rw [Lib.index_one];simp [Lib.indexByte]
   rw [qk0 h0,sp,if_pos rfl,← ih]
   simp
  ·have hi:Lib.index (x :: s) [c]=if Lib.index s [c]=-1 then -1 else Lib.index s [c]+1:=by
    rw [Lib.index_one,Lib.index_one,Lib.indexByte]
    simp [hx]
   rw [sp,if_neg hx,← ih]
   by_cases hm:Lib.index s [c]=-1
   ·rw [if_pos hm] at hi
    rw [qjz hi,qjz hm]
    rfl
   ·rw [if_neg hm] at hi
    have hge:=Lib.indexByte_ge s c
    rw [← Lib.index_one] at hge
    obtain ⟨i,hi2⟩:∃ i:Nat,Lib.index s [c]=i:=⟨(Lib.index s [c]).toNat,by omega⟩
    rw [hi2] at hi
    rw [qk0 (i:=i+1) (by rw [hi];simp),qk0 hi2]
    simp
theorem qk1 (s:List UInt8) (c:UInt8):splF s c=sp c s:=by
 rw [← qvM]
 unfold splF Lib.split
 rw [Lib.splitB_data]
theorem qAr (c:UInt8) (b:List UInt8):∀ a:List UInt8,sp c (a++c :: b)=sp c a++sp c b:=by
 intro a
 induction a with
 |nil=>simp [sp]
 |cons x a ih=>
  rw [yi,sp,sp,ih]
  split
  ·simp
  ·have:=qAq c a
   cases h:sp c a with
   |nil=>exact absurd h this
   |cons y r=>simp
def wgt:List (List UInt8)→Nat
 |[]=>0
 |x :: r=>x.length+1+wgt r
theorem qx8 (a b:List (List UInt8)):wgt (a++b)=wgt a+wgt b:=by
 induction a with
 |nil=>simp [wgt]
 |cons x a ih=>simp only [yi,wgt,ih];omega
theorem qx7 (a:List (List UInt8)):a.length≤wgt a:=by
 induction a with
 |nil=>simp
 |cons x a ih=>simp only [wgt,zK];omega
theorem qAp (c:UInt8):∀ s:List UInt8,wgt (sp c s)=s.length+1:=by
 intro s
 induction s with
 |nil=>simp [sp,wgt]
 |cons y s ih=>
  rw [sp]
  split
  ·simp only [wgt,ih,zK,List.length_nil];omega
  ·cases h:sp c s with
   |nil=>exact absurd h (qAq c s)
   |cons z r=>
    rw [h] at ih
    simp only [wgt,List.headD_cons,List.tail_cons,zK] at ih ⊢
    omega
def liF (s:List UInt8) (c:UInt8):Int:=Lib.lastIndexByte ⟨s.toArray⟩ (c.toNat:Nat)
theorem suf1 (s:List UInt8) (c:UInt8):sufE s [c]=true↔∃ t,s=t++[c]:=by
 unfold sufE
 simp only [Bool.and_eq_true,decide_eq_true_eq,zK,List.length_nil,Nat.zero_add]
 constructor
 ·rintro ⟨_,h⟩
  exact ⟨s.take (s.length - 1),by rw [← h,List.take_append_drop]⟩
 ·rintro ⟨t,rfl⟩
  simp
  omega
theorem qpN {E:Envt} (s:List UInt8) (c:UInt8) (hs:s.length≤1000000000):PCall Tryz.prog E 166 [.str s,.str [c]] (·=int (liF s c)):=
 qbm rfl rfl fun w _=>(Any.strings_LastIndex_one Tryz.layLastIndex ⟨s.toArray⟩ ⟨#[c]⟩ rfl (by rw [qfn];omega) w).mono fun e w' h=>⟨h.1,by rw [h.2];exact Grow.refl _ _⟩
theorem qs8 (s:List UInt8) (cs:List UInt8):(Lib.trimRightS s cs).length≤s.length:=by
 unfold Lib.trimRightS
 have:=(List.dropWhile_suffix (l:=s.reverse) (fun x=>cs.contains x)).length_le
 simpa using this
theorem qs6 (s:List UInt8) (cs:List UInt8):(Lib.trimS s cs).length≤s.length:=by
 unfold Lib.trimS Lib.trimLeftS
 exact Nat.le_trans (List.dropWhile_suffix _).length_le (qs8 s cs)
theorem qs7 (s:List UInt8) (cs:List UInt8):Lib.trimRightS s cs <+: s:=by
 unfold Lib.trimRightS
 have:=List.reverse_prefix.2 (List.dropWhile_suffix (l:=s.reverse) (fun x=>cs.contains x))
 rwa [List.reverse_reverse] at this
theorem qs5 (s:List UInt8):decide (Lib.trimS s [32]=s)=(!Lib.hasPrefix s [32] && !sufE s [32]):=by
 by_cases h1:Lib.hasPrefix s [32]=true
 ·obtain ⟨t,rfl⟩:=(hp1 _ _).1 h1
  rw [h1,decide_eq_false]
  ·rfl
  ·intro h
   have hl:=congrArg List.length h
   have hp:=qs7 (32 :: t) [32]
   unfold Lib.trimS Lib.trimLeftS at hl
   cases hu:Lib.trimRightS (32 :: t) [32] with
   |nil=>rw [hu] at hl;simp at hl
   |cons y u=>
    rw [hu] at hl hp
    have hy:y=32:=by obtain ⟨r,hr⟩:=hp;simp at hr;exact hr.1
    subst hy
    have h2:=hp.length_le
    have h3:=(List.dropWhile_suffix (l:=u) (fun x=>[(32:UInt8)].contains x)).length_le
    simp [List.dropWhile_cons] at hl h2 h3
    omega
 ·have h1':Lib.hasPrefix s [32]=false:=Bool.eq_false_iff.2 h1
  rw [h1']
  by_cases h2:sufE s [32]=true
  ·rw [h2,decide_eq_false]
   ·rfl
   ·intro h
    obtain ⟨t,rfl⟩:=(suf1 _ _).1 h2
    have hl:=congrArg List.length h
    have h3:=qs6 t [32]
    have e:Lib.trimS (t++[32]) [32]=Lib.trimS t [32]:=by
     unfold Lib.trimS Lib.trimRightS
     simp [List.dropWhile_cons]
    rw [e] at hl
    simp at hl
    omega
  ·have h2':sufE s [32]=false:=Bool.eq_false_iff.2 h2
   rw [h2',decide_eq_true]
   ·rfl
   ·have hr:Lib.trimRightS s [32]=s:=by
     unfold Lib.trimRightS
     cases hs:s.reverse with
     |nil=>simp at hs;subst hs;rfl
     |cons y r=>
      have hy:y≠32:=by
       rintro rfl
       apply h2
       refine (suf1 _ _).2 ⟨r.reverse,?_⟩
       have:=congrArg List.reverse hs
       simpa using this
      rw [List.dropWhile_cons,if_neg (by simp [hy]),← hs,List.reverse_reverse]
    unfold Lib.trimS
    rw [hr]
    unfold Lib.trimLeftS
    cases s with
    |nil=>rfl
    |cons y r=>
     have hy:y≠32:=by
      rintro rfl
      exact h1 ((hp1 _ _).2 ⟨r,rfl⟩)
     rw [List.dropWhile_cons,if_neg (by simp [hy])]
abbrev qhN:IC:=(sR [qO 2 (.mov (.c (.bool false)))] (sR [qM 3 0,jC 4 131 [.t 3,.c (.bool false)],qM 5 4,⟨some 6,.mov (.t 0),(some (5,true))⟩,⟨some 7,.call 167 [.t 6,.c (.str [32])],(some (5,true))⟩,⟨some 8,.mov (.t 0),(some (5,true))⟩,⟨some 9,.bin .eql (.t 7) (.t 8),(some (5,true))⟩,qO 10 (.pick (.t 5) (.t 9) (.c (.bool false))),qM 11 10,⟨some 12,.mov (.t 0),(some (11,true))⟩,⟨some 13,.call 240 [.t 12,.c (.str [32,32])],(some (11,true))⟩,⟨some 14,.not (.t 13),(some (11,true))⟩,qO 15 (.pick (.t 11) (.t 14) (.c (.bool false))),qM 2 15] .ret))
theorem qhV:chkF Tryz.prog Tryz.f195 qhN [.t 2] 16=true:=by kernel_rfl
theorem qsO (s:List UInt8) (hs:s.length≤1000000000):PCall Tryz.prog E0 195 [.str s] (·=.bool (qh0 s)):=by
 refine qag mixed Tryz.func195 qhV ?_
 refine zV ?_
 refine use1 (qiF s false hs) rfl (.inl rfl) ?_
 refine zS ?_
 refine useG (fun _=>qfL s [32] hs (by decide) (by decide)) rfl (.inl rfl) ?_
 refine zS ?_
 refine useG (fun _=>qlK s [32,32] hs) rfl (.inl rfl) ?_
 refine zS ?_
 rw [qh0,qs5]
 cases visE s false<;>cases Lib.hasPrefix s [32]<;>cases sufE s [32]<;>rfl
def qch:IC:=(sR [qT 29 .lss 28 27] (.seq (jE 29) (.seq (.block 1 (sR [qX 30 1 26 28,qL 31 30,qM 5 31] (sR [qM 32 5,jC 33 195 [.t 32],qO 34 (.not (.t 33)),qM 35 34,⟨some 36,.mov (.t 5),(some (35,false))⟩,⟨some 37,.sln (.t 36),(some (35,false))⟩,⟨some 38,.bin .lss (.t 37) (cI 1),(some (35,false))⟩,qO 39 (.pick (.t 35) (.c (.bool true)) (.t 38)),qM 40 39,⟨some 41,.mov (.t 5),(some (40,false))⟩,⟨some 42,.sln (.t 41),(some (40,false))⟩,⟨some 43,.bin .gtr (.t 42) (cI 80),(some (40,false))⟩,qO 44 (.pick (.t 40) (.c (.bool true)) (.t 43))] (jW 44 (sR [jI 2 3] .ret))))) (.reg [qB 45 .add 28 (cI 1),qM 28 45]))))
abbrev qf1:IC:=(sR [qO 1 (.box 132 (.t 0)),jI 2 0] (.seq (sR [qF 6 0 1,qL 7 6,qF 8 1 1,qL 9 8,jC 10 73 [.t 7,.t 9],qM 3 10] (sR [qM 11 3,qB 12 .neq 11 (cI 0)] (jW 12 (sR [qM 13 3,qM 2 13] .ret)))) (.seq (sR [qF 14 2 1,qL 15 14,qB 16 .lss 15 (cI 1),qM 17 16,⟨some 18,.fla 2 (.t 1),(some (17,false))⟩,⟨some 19,.ld 1 false (.t 18),(some (17,false))⟩,⟨some 20,.bin .gtr (.t 19) (cI 3),(some (17,false))⟩,qO 21 (.pick (.t 17) (.c (.bool true)) (.t 20))] (jW 21 (sR [jI 2 4] .ret))) (.seq (sR [qF 22 3 1,qL 23 22,qF 24 4 1,qL 25 24,qO 26 (.bsl 1 [.t 23,.t 25]),qN 27 26,jI 28 0] (.block 0 (.loop qch))) (.seq (sR [qF 46 5 1,qL 47 46,qB 48 .lss 47 (cI 1),qM 49 48,⟨some 50,.fla 5 (.t 1),(some (49,false))⟩,⟨some 51,.ld 1 false (.t 50),(some (49,false))⟩,⟨some 52,.bin .gtr (.t 51) (cI 100000),(some (49,false))⟩,qO 53 (.pick (.t 49) (.c (.bool true)) (.t 52))] (jW 53 (sR [jI 2 1] .ret))) (sR [jI 2 0] .ret))))))
theorem qge:chkF Tryz.prog Tryz.f149 qf1 [.t 2] 54=true:=by kernel_rfl
structure Stp where
 pre:List UInt8
 dig:Int
 ord:Int
 slip:List UInt8
 skip:List UInt8
 most:Int
def stV (x:Stp):List PV:=[.str x.pre,int x.dig,int x.ord,.str x.slip,.str x.skip,int x.most]
theorem qcB (e:Int) (r:List Int):qai (e :: r)=if e=0 then qai r else e:=rfl
structure StB (x:Stp):Prop where
 b1:x.pre.length≤1000
 b2:x.slip.length≤1000
 b3:x.skip.length≤1000
def qiT (s:List UInt8):Bool:=inE s.length 1 80 && qh0 s
def ordF (n:Int):Int:=qak (!inE n 1 3) 4
def setF (x:Stp):Int:=qai [qd3 x.pre x.dig,ordF x.ord,qak (!qiT x.slip || !qiT x.skip) 3,qak (!inE x.most 1 100000) 1]
theorem qBr (c:UInt8):capL.contains c=!qj8 c:=qgx (p:=fun c=>capL.contains c=!qj8 c) (by decide +kernel) c
theorem qwc (s:List UInt8):qwd s=qdS s:=by
 unfold qwd qdS
 rw [qg1,Bool.and_comm]
 congr 1
 induction s with
 |nil=>rfl
 |cons c r ih=>simp only [List.all_cons,qBr,ih]
theorem qt4 (p:List UInt8) (d:Int):nfF p d=qd3 p d:=by
 unfold nfF qd3
 rw [qwc]
 cases qdS p with
 |false=>rfl
 |true=>
  rw [if_pos rfl]
  have:(decide (d < 4) || decide (9 < d))=!inE d 4 9:=by
   unfold inE
   rw [yx]
   simp only [zU,decide_eq_true_eq,zW,yu,decide_eq_false_iff_not]
   omega
  rw [this]
  cases inE d 4 9<;>rfl
section
theorem qn5 (x:Stp) (hx:StB x):PCall Tryz.prog E0 149 [.agg (stV x)] (·=int (setF x)):=by
 obtain ⟨b1,b2,b3⟩:=hx
 refine qag mixed Tryz.func149 qge ?_
 refine zV ?_
 simp only [stV,ZZ,WW,Zd,reduceCtorEq,zd,ze,zb,zf,za]
 refine use1 (qgZ x.pre x.dig (by omega)) rfl (.inl rfl) ?_
 rw [qt4]
 refine zS ?_
 refine br ?_ ?_
 ·intro h
  have h1:¬ qd3 x.pre x.dig=0:=by simpa using h
  refine zS ?_
  rw [setF,qcB,if_neg h1]
 intro h
 have h1:qd3 x.pre x.dig=0:=by simpa using h
 have hs:setF x=qai [ordF x.ord,qak (!qiT x.slip || !qiT x.skip) 3,qak (!inE x.most 1 100000) 1]:=by rw [setF,qcB,if_pos h1]
 rw [hs]
 clear h hs
 have ho:(decide (x.ord < 1) || decide (3 < x.ord))=!inE x.ord 1 3:=by
  unfold inE
  rw [yx]
  simp only [zU,decide_eq_true_eq,zW,yu,decide_eq_false_iff_not]
  omega
 have hm:(decide (x.most < 1) || decide (100000 < x.most))=!inE x.most 1 100000:=by
  unfold inE
  rw [yx]
  simp only [zU,decide_eq_true_eq,zW,yu,decide_eq_false_iff_not]
  omega
 refine zS ?_
 rw [ho]
 refine ⟨fun h=>by rw [h];rfl,?_⟩
 refine br ?_ ?_
 ·intro h
  refine zS ?_
  rw [qcB,ordF,qak,if_pos h]
  rfl
 intro h
 have h2:ordF x.ord=0:=by rw [ordF,qak,if_neg (by rw [h];decide)]
 rw [qcB,if_pos h2]
 clear h
 refine zS ?_
 refine qac (fun n fr L=>∃ (j:Nat),j≤2∧n=2 - j∧(1≤j→qiT x.slip=true)∧(2≤j→qiT x.skip=true)∧fr=(oo::.adr (.l 1) 0::oE (oD (.p (.sl 1 [[.str x.slip],[.str x.skip]])::.p (int 2)::.p (int (j:Nat))::oE (oD (oo::[])))))∧L=[(.l 1,.box [.p (.str x.pre),.p (int x.dig),.p (int x.ord),.p (.str x.slip),.p (.str x.skip),.p (int x.most)] 132)]) (2) _ _ zF_ zF_ ⟨0,by omega,by omega,(fun h=>by omega),(fun h=>by omega),rfl,rfl⟩ ?_
 rintro n fr L ⟨j,hj,rfl,hj1,hj2,rfl,rfl⟩
 simp only [qch,ZZ,WW,Zd,reduceCtorEq,zd,ze,zb,zf,za]
 refine br ?_ ?_
 ·intro h
  have hlt:j < 2:=by have:=of_decide_eq_true h;omega
  obtain ⟨s,hs,hsl,hb⟩:∃ s,([[PV.str x.slip],[PV.str x.skip]]:List (List PV)).getD j []=[.str s]∧s.length≤1000∧(qiT s=false→(!qiT x.slip || !qiT x.skip)=true)∧(qiT s=true→(1≤j+1→qiT x.slip=true)∧(2≤j+1→qiT x.skip=true)):=by
   match j,hlt with
   |0,_=>exact ⟨x.slip,rfl,b2,fun h=>by rw [h];rfl,fun h=>⟨fun _=>h,fun h=>by omega⟩⟩
   |1,_=>exact ⟨x.skip,rfl,b3,fun h=>by rw [h];simp,fun h=>⟨fun _=>hj1 (by omega),fun _=>h⟩⟩
  obtain ⟨hb1,hb2⟩:=hb
  have hn:((!qh0 s || decide ((s.length:Int) < 1)) || decide (80 < (s.length:Int)))=!qiT s:=by
   unfold qiT inE
   cases qh0 s with
   |false=>simp
   |true=>
    rw [yx]
    simp only [zU,decide_eq_true_eq,zW,yu,decide_eq_false_iff_not,Bool.not_true,Bool.false_eq_true,false_or,or_false,Bool.and_true,reduceCtorEq]
    omega
  simp only [ZZ,WW,Zd,reduceCtorEq,zd,ze,zb,zf,za,hs]
  ((with_reducible and_intros)<;>try exact sc_)
  refine use1 (qsO s (by omega)) rfl (.inl rfl) ?_
  refine zS ?_
  rw [hn]
  refine ⟨fun h=>by rw [h];rfl,fun h=>by rw [h];rfl,?_⟩
  refine br ?_ ?_
  ·intro h
   have h3:=hb1 (by simpa using h)
   refine zS ?_
   rw [qcB,qak,if_pos h3]
   rfl
  ·intro h
   obtain ⟨c1,c2⟩:=hb2 (by simpa using h)
   refine zS ?_
   ((with_reducible and_intros)<;>try exact sc_)
   refine qab (2 - (j+1)) _ _ (by omega) zF_ zF_ ⟨j+1,by omega,rfl,c1,c2,rfl,rfl⟩
 intro h
 have hge:2≤j:=by have:=of_decide_eq_false h;omega
 refine zS ?_
 rw [hm]
 rw [hj1 (by omega),hj2 hge]
 refine ⟨fun h=>by rw [h];rfl,?_⟩
 refine br ?_ ?_
 ·intro h
  refine zS ?_
  rw [h]
  rfl
 intro h
 refine zS ?_
 rw [h]
 rfl
end
end Go.Proofs.YtmpdnpljdcincaaGreatDoor
namespace Go.Proofs.YtmpdnpljdcincaaGreatDoor
open Go.Lib Go.RowKit Go.Shelf Go.Sort
section
variable {E:Envt} {L:Objs} {k:Key} {fr:List AV} {d:Option Nat} {is:List IOper} {Y:List PV} {K:List AV→Objs→Prop}
end
end Go.Proofs.YtmpdnpljdcincaaGreatDoor
namespace Go.Proofs.YtmpdnpljdcincaaGreatDoor
open Go.RowKit
abbrev SRow:=List (List UInt8)
abbrev Tab:=List SRow
def tbE (t:Tab):List (List PV):=t.map fun r=>[PV.sl 1 (strE r)]
theorem qaC (t:Tab):(tbE t).length=t.length:=by simp [tbE]
theorem qh4 {t:Tab} {k:Nat} {r:SRow} (h:t[k]?=some r):(tbE t).getD k []=[.sl 1 (strE r)]:=qao h
end Go.Proofs.YtmpdnpljdcincaaGreatDoor
