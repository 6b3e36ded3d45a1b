import Derived.Test.YtjgdjinhkgjpeaaGreatDoorZ6
import Derived.Lib.Join
import Derived.Shelf.Strings.IndexAnyAll
import Derived.Shelf.Small.Utf8
import Derived.BigQuiet
import Derived.WalkMore
import Derived.Deep.QuietTactic
import Derived.Shelf.RegionOpenPlain
import Derived.Deep.LoopGhost
import Derived.Laws.Runes
import Derived.Laws.RangeString
import Derived.Lib.IndexBytes
import Derived.Laws.Strings3
import Derived.Test.YtjgdjinhkgjpeaaGreatDoorLaySplit
import Derived.Lib.SplitLaws
import Derived.Test.YtjgdjinhkgjpeaaGreatDoorLayTrim
import Derived.Test.YtjgdjinhkgjpeaaGreatDoorLayCompare
import Derived.Lib.Bytealg
import Derived.Test.YtjgdjinhkgjpeaaGreatDoorZ5
import Derived.Test.YtjgdjinhkgjpeaaGreatDoorZ4
import Derived.Test.YtjgdjinhkgjpeaaGreatDoorRep
set_option linter.unusedVariables false
set_option linter.unusedSimpArgs false
set_option linter.defProp false
namespace Go.Proofs.YtjgdjinhkgjpeaaGreatDoor
open Nat renaming reduceAdd→zd,reduceEqDiff→zb,reduceLT→zf,reduceLeDiff→za,reduceMul→ze,reduceSub→zu
open List renaming cons_append→zo,getElem?_eq_getElem→zr,length_cons→zk,length_nil→zp,map_cons→zl,map_nil→zt,nil_append→zq,replicate_succ→zj,replicate_zero→zm,take_of_length_le→zP,take_succ_cons→yy
open Bool renaming or_eq_false_iff→zZ
open Int renaming toNat→yn,toNat_natCast→yi
open Go.RowKit
def qe3:IC:=(.seq (.reg [qO 66 (.bin .lss (.t 65) (.t 64))]) (.seq (.cond (.t 66) .skip (.exit 3)) (.seq (.block 4 (.seq (.reg [qO 67 (.ixa 1 (.t 63) (.t 65)),qO 68 (.ld 1 false (.t 67)),qM 10 68]) (.seq (.reg [qM 69 1,qO 70 (.call 20 [.t 8,.t 69])]) (.reg [qM 71 10,qO 72 (.call 20 [.t 8,.t 71])])))) (.reg [qO 73 (.bin .add (.t 65) (.c (.int .i64 1))),qM 65 73]))))
def qe4:IC:=(.seq (.reg [qO 42 (.bin .lss (.t 41) (.t 40))]) (.seq (.cond (.t 42) .skip (.exit 1)) (.seq (.block 2 (.seq (.reg [qO 43 (.ixa 1 (.t 39) (.t 41)),qO 44 (.ld 1 false (.t 43)),qM 7 44]) (.seq (.seq (.reg [qM 45 7,qO 46 (.sln (.t 45)),qM 47 5,qO 48 (.bin .sub (.c (.int .i64 9223372036854775807)) (.t 47)),qO 49 (.bin .gtr (.t 46) (.t 48))]) (.cond (.t 49) (.reg [qO 50 (.dead),⟨none,.dead,none⟩]) .skip)) (.cut (.reg [qM 51 5,qM 52 7,qO 53 (.sln (.t 52)),qO 54 (.bin .add (.t 51) (.t 53)),qM 5 54]))))) (.reg [qO 55 (.bin .add (.t 41) (.c (.int .i64 1))),qM 41 55]))))
def qgL:IC:=(.seq (.reg [qO 4 (.mov (.c (.str [])))]) (.seq (.seq (.reg [qM 11 0,qO 12 (.len (.t 11))]) (.block 0 (.seq (.reg [qO 14 (.bin .eql (.t 12) (.c (.int .i64 0))),qM 13 14]) (.cond (.t 13) (.seq (.reg [qO 4 (.mov (.c (.str [])))]) .ret) (.seq (.reg [qO 16 (.bin .eql (.t 12) (.c (.int .i64 1))),qM 15 16]) (.cond (.t 15) (.seq (.reg [qM 17 0,qO 18 (.ixa 1 (.t 17) (.c (.int .i64 0))),qO 19 (.ld 1 false (.t 18)),qM 4 19]) .ret) .skip)))))) (.seq (.reg [qO 5 (.mov (.c (.int .i64 0)))]) (.seq (.seq (.reg [qM 20 1,qO 21 (.sln (.t 20)),qO 22 (.bin .gtr (.t 21) (.c (.int .i64 0)))]) (.cond (.t 22) (.seq (.seq (.reg [qM 23 1,qO 24 (.sln (.t 23)),qM 25 0,qO 26 (.len (.t 25)),qO 27 (.bin .sub (.t 26) (.c (.int .i64 1))),qO 28 (.bin .quo (.c (.int .i64 9223372036854775807)) (.t 27)),qO 29 (.bin .geq (.t 24) (.t 28))]) (.cond (.t 29) (.reg [qO 30 (.dead),⟨none,.dead,none⟩]) .skip)) (.cut (.reg [qM 31 5,qM 32 1,qO 33 (.sln (.t 32)),qM 34 0,qO 35 (.len (.t 34)),qO 36 (.bin .sub (.t 35) (.c (.int .i64 1))),qO 37 (.bin .mul (.t 33) (.t 36)),qO 38 (.bin .add (.t 31) (.t 37)),qM 5 38]))) .skip)) (.cut (.seq (.seq (.reg [qM 39 0,qO 40 (.len (.t 39)),qO 41 (.mov (.c (.int .i64 0)))]) (.block 1 (.loop qe4))) (.seq (.reg [qO 8 (.alc 52 [.raw (.pointer none),.nl 1])]) (.seq (.reg [qM 56 5,qO 57 (.call 57 [.t 8,.t 56])]) (.seq (.reg [qM 58 0,qO 59 (.ixa 1 (.t 58) (.c (.int .i64 0))),qO 60 (.ld 1 false (.t 59)),qO 61 (.call 20 [.t 8,.t 60])]) (.seq (.seq (.reg [qM 62 0,qO 63 (.vsl 1 (.t 62) (some (.c (.int .i64 1))) none),qO 64 (.len (.t 63)),qO 65 (.mov (.c (.int .i64 0)))]) (.block 3 (.loop qe3))) (.seq (.reg [qO 74 (.call 23 [.t 8]),qM 4 74]) .ret)))))))))))
def qgy:List IRes:=[.t 4]
theorem qkx:chkF Tryz.prog Tryz.f21 qgL qgy 75=true:=by kernel_rfl
section
variable {E:Envt} {L:Objs} {k:Key} {i:Nat} {fr:List AV} {d:Option Nat} {is:List IOper} {Y:List PV} {K:List AV→Objs→Prop}
theorem qqi (i:Nat) (s t:List UInt8) (hat:SbAt L k i tSb tU8 s) (hki:k≠.l i) (hlen:s.length+t.length≤140737488355328)
  (hk:qaa Tryz.prog E Y is (Zg (fr.map (·.kill (.l i))) d (.p (.tup [int (t.length:Nat),.raw .nilIface]))) (qfS L k i tSb tU8 (s++t)) K):qa0 Tryz.prog E 20 [.adr k 0,.p (.str t)] L d fr (qc8 Tryz.prog E Y is K):=
 useW (vr:=[.string ⟨t.toArray⟩]) (x:=.tup [int (t.length:Nat),.raw .nilIface]) (v:=.tuple #[.int .i64 t.length,.nilIface]) i tSb tU8 s (s++t) hat hki (fun w U ι vs h=>by obtain ⟨v,r,rfl,h1,h2⟩:=h;simp only [ARep,PRep,ARepL] at h1 h2;rw [h1,h2]) (fun w U=>⟨[_,_],rfl,_,_,rfl,rfl,_,_,rfl,⟨rfl,rfl⟩,rfl⟩)
  (fun b w h _=>qkS b s t w h hlen) hk
theorem qwT (i:Nat) (s:List UInt8) (c:UInt8) (hat:SbAt L k i tSb tU8 s) (hki:k≠.l i) (hlen:s.length+1≤140737488355328)
  (hk:qaa Tryz.prog E Y is (Zg (fr.map (·.kill (.l i))) d (.p (.raw .nilIface))) (qfS L k i tSb tU8 (s++[c])) K):qa0 Tryz.prog E 96 [.adr k 0,.p (.int .u8 (c.toNat:Nat))] L d fr (qc8 Tryz.prog E Y is K):=
 useW (vr:=[.int .u8 c.toNat]) (x:=.raw .nilIface) (v:=.nilIface) i tSb tU8 s (s++[c]) hat hki (fun w U ι vs h=>by obtain ⟨v,r,rfl,h1,h2⟩:=h;simp only [ARep,PRep,ARepL] at h1 h2;rw [h1,h2]) (fun w U=>⟨rfl,rfl⟩)
  (fun b w h _=>qm9 b s c w h hlen) hk
theorem qyi (i:Nat) (n:Nat) (hat:SbAt L k i tSb tU8 []) (hf:Zas L k=some (.box [.p nilP,.p (.nl 1)] tSb)) (hki:k≠.l i) (hn:n≤281474976710656)
  (hk:qaa Tryz.prog E Y is (Zg (fr.map (·.kill (.l i))) d (.p (.tup []))) (qfS L k i tSb tU8 []) K):qa0 Tryz.prog E 57 [.adr k 0,.p (int (n:Nat))] L d fr (qc8 Tryz.prog E Y is K):=
 useW (vr:=[.int .i64 n]) (x:=.tup []) (v:=.tuple #[]) i tSb tU8 [] [] hat hki (fun w U ι vs h=>by obtain ⟨v,r,rfl,h1,h2⟩:=h;simp only [ARep,PRep,ARepL] at h1 h2;rw [h1,h2]) (fun w U=>⟨[],rfl,rfl⟩)
  (fun b w _ h=>qnU 0 b n w (Nat.zero_le _) (h hf) (Nat.zero_le _) hn) hk
theorem qqh (i:Nat) (s:List UInt8) (hat:SbAt L k i tSb tU8 s) (hki:k≠.l i)
  (hk:qaa Tryz.prog E Y is (Zg (fr.map (·.kill (.l i))) d (.p (.str s))) (qnE L k i) K):qa0 Tryz.prog E 23 [.adr k 0] L d fr (qc8 Tryz.prog E Y is K):=
 qyb i tSb tU8 s hat hki (fun b w h=>qnT 0 b s w h (Nat.zero_le _)) hk
theorem qyh (i:Nat) (s:List UInt8) (hat:SbAt L k i tSb tU8 s) (hki:k≠.l i)
  (hk:qaa Tryz.prog E Y is (Zg fr d (.p (int (s.length:Nat)))) L K):qa0 Tryz.prog E 22 [.adr k 0] L d fr (qc8 Tryz.prog E Y is K):=
 qyc (x:=int (s.length:Nat)) (v:=.int .i64 s.length) i tSb tU8 s hat hki (fun w U=>rfl) (fun b w h=>by have:=qzR 0 b _ w h;rwa [Lib.byteCells_length] at this) hk
theorem qjo:∀ (l:List (List UInt8)) (k:Nat),Lib.lens (l.take k)≤Lib.lens l
 |[],k=>by simp
 |x :: r,0=>by simp [Lib.lens]
 |x :: r,k+1=>by have:=qjo r k;simp only [yy,Lib.lens,zl,List.sum_cons] at *;omega
theorem qmN (l:List (List UInt8)) (sep:List UInt8) (hl:l.length≤1000000000) (hlen:(Lib.join l sep).length≤1000000000):PCall Tryz.prog E 21 [strs l,.str sep] (·=.str (Lib.join l sep)):=by
 refine qaf mixed Tryz.func21 qkx ?_
 simp only [a0,l0,OS.ao,zl,zt,zk,zp,zo,zq,zu,zd,zj,zm,qgL,qgy,ZZ,WW,Ze,reduceCtorEq,zd,ze,za,zf,zb]
 simp only [strs,ZZ,WW,Ze,reduceCtorEq,zd,ze,za,zf,zb]
 refine br ?_ ?_
 ·intro h
  have h0:l=[]:=by
   have:=of_decide_eq_true h
   simp at this
   exact this
  subst h0
  simp only [ZZ,WW,Ze,reduceCtorEq,zd,ze,za,zf,zb]
  rfl
 intro h
 have h0:l.length≠0:=by have:=of_decide_eq_false h;simpa using this
 simp only [ZZ,WW,Ze,reduceCtorEq,zd,ze,za,zf,zb]
 obtain ⟨x,r,rfl⟩:∃ x r,l=x :: r:=by cases l with|nil=>exact absurd rfl h0|cons x r=>exact ⟨x,r,rfl⟩
 refine br ?_ ?_
 ·intro h1
  have h1:r=[]:=List.eq_nil_of_length_eq_zero (by have:=of_decide_eq_true h1;simp at this;omega)
  subst h1
  simp only [ZZ,WW,Ze,reduceCtorEq,zd,ze,za,zf,zb]
  refine ⟨by simp,by simp,?_⟩
  rw [Lib.join_one]
  rfl
 intro h1
 have h1:r.length≠0:=by have:=of_decide_eq_false h1;simp at this;omega
 have hJ:=Lib.join_length x r sep
 have hcl:(x :: r).length=r.length+1:=by simp
 have hmul:sep.length * r.length≤1000000000:=by omega
 have hll:Lib.lens (x :: r)≤1000000000:=by omega
 generalize hes:(x :: r).map (fun x=>[PV.str x])=es
 have hln:es.length=r.length+1:=by rw [← hes];simp
 have hget:∀ (k:Nat) (y:List UInt8),(x :: r)[k]?=some y→es.getD k []=[PV.str y]:=fun k y h=>by rw [← hes];exact qcw h
 simp only [ZZ,WW,Ze,reduceCtorEq,zd,ze,za,zf,zb]
 refine qeU (fun fr L=>fr=[.p (.sl 1 es),.p (.str sep),oo,oo,oo,.p (int (sep.length * r.length:Nat)),oo,oo,oo,oo,oo,oo,oo,oo,oo,oo,oo,oo,oo,oo,oo,oo,oo,oo,oo,oo,oo,oo,oo,oo,oo,oo,oo,oo,oo,oo,oo,oo,oo,oo,oo,oo,oo,oo,oo,oo,oo,oo,oo,oo,oo,oo,oo,oo,oo,oo,oo,oo,oo,oo,oo,oo,oo,oo,oo,oo,oo,oo,oo,oo,oo,oo,oo,oo,oo]∧L=[]) ?_ ?_ ?_
 ·intro hs
  have hs:0 < sep.length:=by have:=of_decide_eq_true hs;omega
  simp only [ZZ,WW,Ze,reduceCtorEq,zd,ze,za,zf,zb]
  have hq:((9223372036854775807:Int)).tdiv ((es.length:Int) - 1)=((9223372036854775807 / r.length:Nat):Int):=by
   rw [hln,Int.tdiv_eq_ediv_of_nonneg (by omega)]
   have:((r.length+1:Nat):Int) - 1=(r.length:Int):=by omega
   rw [this]
   rfl
  have hq2:9223372036≤9223372036854775807 / r.length:=(Nat.le_div_iff_mul_le (by omega)).2 (by omega)
  have he:(es.length:Int) - 1=(r.length:Int):=by omega
  have hp:(sep.length:Int) * (r.length:Int)=((sep.length * r.length:Nat):Int):=by simp
  have hq3:9223372036854775807 / r.length≤9223372036854775807:=Nat.div_le_self _ _
  have hsl:sep.length≤sep.length * r.length:=Nat.le_mul_of_pos_right _ (by omega)
  rw [hq]
  generalize 9223372036854775807 / r.length=q at *
  simp only [he]
  refine ⟨qaj (by omega) (by omega),⟨by omega,qaj (by omega) (by omega)⟩,?_⟩
  refine br (fun h=>absurd (of_decide_eq_true h) (by omega)) ?_
  intro _
  simp only [ZZ,WW,Ze,reduceCtorEq,zd,ze,za,zf,zb]
  refine qai zE_ ?_
  simp only [ZZ,WW,Ze,reduceCtorEq,zd,ze,za,zf,zb]
  simp only [he,hp]
  refine ⟨qaj (by omega) (by omega),qaj (by omega) (by omega),qaj (by omega) (by omega),qao _ [] (by simp only [Int.zero_add];(simp only [ZZ,WW,Ze,reduceCtorEq,zd,ze,za,zf,zb];try trivial)) zE_ ⟨rfl,rfl⟩⟩
 ·intro hs
  have hs:sep.length=0:=by have:=of_decide_eq_false hs;omega
  simp only [ZZ,WW,Ze,reduceCtorEq,zd,ze,za,zf,zb]
  exact qao _ [] (by rw [hs];simp only [Nat.zero_mul];(simp only [ZZ,WW,Ze,reduceCtorEq,zd,ze,za,zf,zb];try trivial)) zE_ ⟨rfl,rfl⟩
 ·rintro fr L ⟨rfl,rfl⟩
  simp only [ZZ,WW,Ze,reduceCtorEq,zd,ze,za,zf,zb]
  refine qag (fun n fr L=>∃ (k:Nat) (m:Nat),k≤r.length+1∧n=r.length+1 - k∧(m=sep.length * r.length+Lib.lens ((x :: r).take k))∧fr=[.p (.sl 1 es),.p (.str sep),oo,oo,oo,.p (int (m:Nat)),oo,oo,oo,oo,oo,oo,oo,oo,oo,oo,oo,oo,oo,oo,oo,oo,oo,oo,oo,oo,oo,oo,oo,oo,oo,oo,oo,oo,oo,oo,oo,oo,oo,.p (.sl 1 es),.p (int (es.length:Nat)),.p (int (k:Nat)),oo,oo,oo,oo,oo,oo,oo,oo,oo,oo,oo,oo,oo,oo,oo,oo,oo,oo,oo,oo,oo,oo,oo,oo,oo,oo,oo,oo,oo,oo,oo,oo,oo]∧L=[]) (r.length+1) _ [] (by (simp only [ZZ,WW,Ze,reduceCtorEq,zd,ze,za,zf,zb];try trivial)) (by (simp only [ZZ,WW,Ze,reduceCtorEq,zd,ze,za,zf,zb];try trivial)) ⟨0,sep.length * r.length,by omega,by omega,by simp [Lib.lens],rfl,rfl⟩ ?_
  rintro n fr L ⟨k,m,hk,rfl,hm,rfl,rfl⟩
  simp only [qe4,ZZ,WW,Ze,reduceCtorEq,zd,ze,za,zf,zb]
  refine br ?_ ?_
  ·intro h
   have hlt:k < r.length+1:=by have:=of_decide_eq_true h;omega
   obtain ⟨y,hy⟩:∃ y,(x :: r)[k]?=some y:=⟨_,zr (by simpa using hlt)⟩
   have hg:=hget k y hy
   have hs1:=Lib.lens_take_succ (x :: r) k y hy
   have hs2:=qjo (x :: r) (k+1)
   simp only [ZZ,WW,Ze,reduceCtorEq,zd,ze,za,zf,zb,hg]
   refine ⟨⟨by omega,by omega⟩,by omega,qaj (by omega) (by omega),?_⟩
   refine br (fun h=>absurd (of_decide_eq_true h) (by omega)) ?_
   intro _
   simp only [ZZ,WW,Ze,reduceCtorEq,zd,ze,za,zf,zb]
   refine qai zE_ ?_
   simp only [ZZ,WW,Ze,reduceCtorEq,zd,ze,za,zf,zb]
   refine ⟨qaj (by omega) (by omega),qaj (by omega) (by omega),?_⟩
   refine qae (r.length+1 - (k+1)) _ [] (by omega) (by (simp only [ZZ,WW,Ze,reduceCtorEq,zd,ze,za,zf,zb];try trivial)) (by (simp only [ZZ,WW,Ze,reduceCtorEq,zd,ze,za,zf,zb];try trivial)) ⟨k+1,m+y.length,by omega,rfl,by omega,rfl,rfl⟩
  ·intro h
   have hge:k=r.length+1:=by have:=of_decide_eq_false h;omega
   subst hge
   have hm':m≤1000000000:=by rw [hm,zP (by simp)];omega
   simp only [ZZ,WW,Ze,reduceCtorEq,zd,ze,za,zf,zb]
   refine qyi 1000 m (.inl ⟨rfl,rfl⟩) rfl (by simp) (by omega) ?_
   have hg0:=hget 0 x rfl
   have hlx:Lib.lens (x :: r)=x.length+Lib.lens r:=by simp [Lib.lens]
   simp only [ZZ,WW,Ze,reduceCtorEq,zd,ze,za,zf,zb,qfS,Int.toNat_zero,hg0]
   refine ⟨⟨by omega,by omega⟩,by omega,?_⟩
   refine qqi 1000 [] x (.inr ⟨rfl,rfl⟩) (by simp) (by simp;omega) ?_
   simp only [ZZ,WW,Ze,reduceCtorEq,zd,ze,za,zf,zb,qfS]
   refine ⟨⟨by omega,by omega⟩,?_⟩
   have hd:(es.take es.length).drop 1=strE r:=by rw [List.take_length,← hes];simp [strE]
   simp only [Int.toNat_one,hd,qau]
   refine qag (fun n fr L=>∃ (k:Nat) (s:List UInt8),k≤r.length∧n=r.length - k∧(s=x++Lib.joinTail sep (r.take k))∧fr=[oo,.p (.str sep),oo,oo,oo,oo,oo,oo,.adr (.l 8) 0,oo,oo,oo,oo,oo,oo,oo,oo,oo,oo,oo,oo,oo,oo,oo,oo,oo,oo,oo,oo,oo,oo,oo,oo,oo,oo,oo,oo,oo,oo,oo,oo,oo,oo,oo,oo,oo,oo,oo,oo,oo,oo,oo,oo,oo,oo,oo,oo,oo,oo,oo,oo,oo,oo,.p (.sl 1 (strE r)),.p (int (r.length:Nat)),.p (int (k:Nat)),oo,oo,oo,oo,oo,oo,oo,oo,oo]∧L=[(.l 8,.box [.adr (.l 8) 0,.row (.l 1000)] tSb),(.l 1000,.row (bytC s) tU8 1 true)]) (r.length) _ _ (by (simp only [ZZ,WW,Ze,reduceCtorEq,zd,ze,za,zf,zb];try trivial)) (by (simp only [ZZ,WW,Ze,reduceCtorEq,zd,ze,za,zf,zb];try trivial)) ⟨0,x,by omega,by omega,by simp [Lib.joinTail],rfl,rfl⟩ ?_
   rintro n fr L ⟨k,s,hk,rfl,hs,rfl,rfl⟩
   simp only [qe3,ZZ,WW,Ze,reduceCtorEq,zd,ze,za,zf,zb]
   refine br ?_ ?_
   ·intro h
    have hlt:k < r.length:=by have:=of_decide_eq_true h;omega
    obtain ⟨y,hy⟩:∃ y,r[k]?=some y:=⟨_,zr hlt⟩
    have hg:=qh4 hy
    have hj1:=Lib.joinTail_take_succ sep r k y hy
    have hj2:=Lib.joinTail_take_le sep r (k+1)
    have hj3:=Lib.joinTail_length sep r
    have hj4:(Lib.joinTail sep (r.take (k+1))).length=(Lib.joinTail sep (r.take k)).length+sep.length+y.length:=by rw [hj1];simp;omega
    have hsl:s.length=x.length+(Lib.joinTail sep (r.take k)).length:=by rw [hs];simp
    simp only [ZZ,WW,Ze,reduceCtorEq,zd,ze,za,zf,zb,qau,hg]
    refine ⟨⟨by omega,by omega⟩,by omega,?_⟩
    refine qqi 1000 s sep (.inr ⟨rfl,rfl⟩) (by simp) (by omega) ?_
    simp only [ZZ,WW,Ze,reduceCtorEq,zd,ze,za,zf,zb,qfS]
    refine qqi 1000 (s++sep) y (.inr ⟨rfl,rfl⟩) (by simp) (by simp;omega) ?_
    simp only [ZZ,WW,Ze,reduceCtorEq,zd,ze,za,zf,zb,qfS]
    refine ⟨qaj (by omega) (by omega),?_⟩
    refine qae (r.length - (k+1)) _ _ (by omega) (by (simp only [ZZ,WW,Ze,reduceCtorEq,zd,ze,za,zf,zb];try trivial)) (by (simp only [ZZ,WW,Ze,reduceCtorEq,zd,ze,za,zf,zb];try trivial)) ⟨k+1,s++sep++y,by omega,rfl,by rw [hj1,hs];simp,rfl,rfl⟩
   ·intro h
    have hge:k=r.length:=by have:=of_decide_eq_false h;omega
    subst hge
    simp only [ZZ,WW,Ze,reduceCtorEq,zd,ze,za,zf,zb]
    refine qqh 1000 s (.inr ⟨rfl,rfl⟩) (by simp) ?_
    simp only [ZZ,WW,Ze,reduceCtorEq,zd,ze,za,zf,zb]
    rw [hs,List.take_length,Lib.join_cons]
end
def qgg:IC:=(.seq (.reg [qO 2 (.mov (.c (.str [])))]) (.seq (.block 0 (.seq (.reg [qM 4 0,qO 5 (.bin .eql (.t 4) (.c (.int .u8 34))),qM 6 5,⟨some 7,.mov (.t 0),(some (6,false))⟩,⟨some 8,.bin .eql (.t 7) (.c (.int .u8 92)),(some (6,false))⟩,qO 9 (.pick (.t 6) (.c (.bool true)) (.t 8)),qM 3 9]) (.cond (.t 3) (.seq (.reg [qM 10 0,qO 11 (.cvi .i32 (.t 10)),qO 12 (.cvs (.t 11)),qO 13 (.bin .add (.c (.str [92])) (.t 12)),qM 2 13]) .ret) (.seq (.reg [qM 15 0,qO 16 (.bin .eql (.t 15) (.c (.int .u8 10))),qM 14 16]) (.cond (.t 14) (.seq (.reg [qO 2 (.mov (.c (.str [92,110])))]) .ret) (.seq (.reg [qM 18 0,qO 19 (.bin .lss (.t 18) (.c (.int .u8 33))),qM 20 19,⟨some 21,.mov (.t 0),(some (20,false))⟩,⟨some 22,.bin .gtr (.t 21) (.c (.int .u8 126)),(some (20,false))⟩,qO 23 (.pick (.t 20) (.c (.bool true)) (.t 22)),qM 17 23]) (.cond (.t 17) (.seq (.drg [qM 24 0,qO 25 (.bin .shr (.t 24) (.c (.int .u64 4))),qM 26 0,qO 27 (.bin .shr (.t 26) (.c (.int .u64 4))),qO 28 (.bin .add (.t 27) (.c (.int .u8 1))),qO 29 (.ssl (.c (.str [48,49,50,51,52,53,54,55,56,57,97,98,99,100,101,102])) (some (.t 25)) (some (.t 28))),qO 30 (.bin .add (.c (.str [92,120])) (.t 29)),qM 31 0,qO 32 (.bin .and (.t 31) (.c (.int .u8 15))),qM 33 0,qO 34 (.bin .and (.t 33) (.c (.int .u8 15))),qO 35 (.bin .add (.t 34) (.c (.int .u8 1))),qO 36 (.ssl (.c (.str [48,49,50,51,52,53,54,55,56,57,97,98,99,100,101,102])) (some (.t 32)) (some (.t 35))),qO 37 (.bin .add (.t 30) (.t 36)),qM 2 37]) .ret) .skip))))))) (.seq (.reg [qM 38 0,qO 39 (.cvi .i32 (.t 38)),qO 40 (.cvs (.t 39)),qM 2 40]) .ret)))
def qga:List IRes:=[.t 2]
theorem qjL:chkF Tryz.prog Tryz.f97 qgg qga 41=true:=by kernel_rfl
def qe6:IC:=(.seq (.reg [qO 9 (.bin .lss (.t 8) (.t 7))]) (.seq (.cond (.t 9) .skip (.exit 0)) (.seq (.block 1 (.seq (.reg [qM 10 8,qM 4 10]) (.reg [qM 11 0,qM 12 4,qO 13 (.idx (.t 11) (.t 12)),qO 14 (.call 97 [.t 13]),qO 15 (.call 20 [.t 3,.t 14])]))) (.reg [qO 16 (.bin .add (.t 8) (.c (.int .i64 1))),qM 8 16]))))
def qgP:IC:=(.seq (.reg [qO 2 (.mov (.c (.str [])))]) (.seq (.reg [qO 3 (.alc 52 [.raw (.pointer none),.nl 1])]) (.seq (.reg [qO 5 (.call 96 [.t 3,.c (.int .u8 34)])]) (.seq (.seq (.reg [qM 6 0,qO 7 (.sln (.t 6)),qO 8 (.mov (.c (.int .i64 0)))]) (.block 0 (.loop qe6))) (.seq (.reg [qO 17 (.call 96 [.t 3,.c (.int .u8 34)])]) (.seq (.reg [qO 18 (.call 23 [.t 3]),qM 2 18]) .ret))))))
def qgC:List IRes:=[.t 2]
theorem qkB:chkF Tryz.prog Tryz.f55 qgP qgC 19=true:=by kernel_rfl
def qeJ:IC:=(.seq (.reg [qO 9 (.bin .lss (.t 8) (.t 7))]) (.seq (.cond (.t 9) .skip (.exit 0)) (.seq (.block 1 (.seq (.reg [qM 10 8,qM 4 10]) (.reg [qM 11 3,qM 12 0,qM 13 4,qO 14 (.idx (.t 12) (.t 13)),qO 15 (.cvi .u64 (.t 14)),qO 16 (.bin .xor (.t 11) (.t 15)),qO 17 (.bin .mul (.t 16) (.c (.int .u64 1099511628211))),qM 3 17]))) (.reg [qO 18 (.bin .add (.t 8) (.c (.int .i64 1))),qM 8 18]))))
def qgh:IC:=(.seq (.reg [qO 2 (.mov (.c (.str [])))]) (.seq (.reg [qO 3 (.mov (.c (.int .u64 14695981039346656037)))]) (.seq (.seq (.reg [qM 6 0,qO 7 (.sln (.t 6)),qO 8 (.mov (.c (.int .i64 0)))]) (.block 0 (.loop qeJ))) (.seq (.reg [qM 19 3,qO 20 (.call 176 [.t 19,.c (.int .i64 16)]),qM 5 20]) (.seq (.reg [qM 21 5,qO 22 (.sln (.t 21)),qO 23 (.bin .sub (.c (.int .i64 16)) (.t 22)),qO 24 (.call 125 [.c (.str [48]),.t 23]),qM 25 5,qO 26 (.bin .add (.t 24) (.t 25)),qM 2 26]) .ret)))))
def qgb:List IRes:=[.t 2]
theorem qjM:chkF Tryz.prog Tryz.f130 qgh qgb 27=true:=by kernel_rfl
def qcG:IC:=(.seq (.reg [qO 38 (.bin .lss (.t 37) (.c (.int .i64 16)))]) (.seq (.cond (.t 38) .skip (.exit 2)) (.seq (.block 3 (.seq (.reg [qM 39 3,qO 40 (.bin .rem (.t 39) (.c (.int .u64 16))),qM 41 3,qO 42 (.bin .rem (.t 41) (.c (.int .u64 16))),qO 43 (.bin .add (.t 42) (.c (.int .u64 1))),qO 44 (.ssl (.c (.str [48,49,50,51,52,53,54,55,56,57,97,98,99,100,101,102])) (some (.t 40)) (some (.t 43))),qM 45 5,qO 46 (.bin .add (.t 44) (.t 45)),qM 5 46]) (.reg [qM 47 3,qO 48 (.bin .quo (.t 47) (.c (.int .u64 16))),qM 3 48]))) (.reg [qO 49 (.bin .add (.t 37) (.c (.int .i64 1))),qM 37 49]))))
def qcH:IC:=(.seq (.reg [qO 9 (.bin .lss (.t 8) (.t 7))]) (.seq (.cond (.t 9) .skip (.exit 0)) (.seq (.block 1 (.seq (.reg [qM 10 8,qM 4 10]) (.seq (.reg [qM 11 3,qM 12 0,qM 13 4,qO 14 (.idx (.t 12) (.t 13)),qO 15 (.cvi .u64 (.t 14)),qO 16 (.bin .xor (.t 11) (.t 15)),qM 3 16]) (.reg [qM 17 3,qO 18 (.bin .shl (.t 17) (.c (.int .u64 40))),qM 19 3,qO 20 (.bin .shl (.t 19) (.c (.int .u64 8))),qO 21 (.bin .add (.t 18) (.t 20)),qM 22 3,qO 23 (.bin .shl (.t 22) (.c (.int .u64 7))),qO 24 (.bin .add (.t 21) (.t 23)),qM 25 3,qO 26 (.bin .shl (.t 25) (.c (.int .u64 5))),qO 27 (.bin .add (.t 24) (.t 26)),qM 28 3,qO 29 (.bin .shl (.t 28) (.c (.int .u64 4))),qO 30 (.bin .add (.t 27) (.t 29)),qM 31 3,qO 32 (.bin .shl (.t 31) (.c (.int .u64 1))),qO 33 (.bin .add (.t 30) (.t 32)),qM 34 3,qO 35 (.bin .add (.t 33) (.t 34)),qM 3 35])))) (.reg [qO 36 (.bin .add (.t 8) (.c (.int .i64 1))),qM 8 36]))))
def qdQ:IC:=(.seq (.reg [qO 2 (.mov (.c (.str [])))]) (.seq (.reg [qO 3 (.mov (.c (.int .u64 14695981039346656037)))]) (.seq (.seq (.reg [qM 6 0,qO 7 (.sln (.t 6)),qO 8 (.mov (.c (.int .i64 0)))]) (.block 0 (.loop qcH))) (.seq (.reg [qO 5 (.mov (.c (.str [])))]) (.seq (.seq (.reg [qO 37 (.mov (.c (.int .i64 0)))]) (.block 2 (.loop qcG))) (.seq (.reg [qM 50 5,qM 2 50]) .ret))))))
def qdI:List IRes:=[.t 2]
theorem qgW:chkF Tryz.prog Tryz.f64 qdQ qdI 51=true:=by kernel_rfl
def qds:IC:=(.seq (.reg [qO 10 (.bin .lss (.t 9) (.t 8))]) (.seq (.cond (.t 10) .skip (.exit 0)) (.seq (.block 1 (.seq (.reg [qM 11 9,qM 4 11]) (.seq (.reg [qM 12 0,qM 13 4,qO 14 (.idx (.t 12) (.t 13)),qM 5 14]) (.block 2 (.seq (.reg [qM 20 5,qO 21 (.bin .eql (.t 20) (.c (.int .u8 34))),qM 22 21,⟨some 23,.mov (.t 5),(some (22,false))⟩,⟨some 24,.bin .eql (.t 23) (.c (.int .u8 92)),(some (22,false))⟩,qO 25 (.pick (.t 22) (.c (.bool true)) (.t 24)),qM 19 25]) (.cond (.t 19) (.reg [qM 26 3,qM 27 5,qO 28 (.bsl 1 [.c (.int .u8 92),.t 27]),qO 29 (.app 5 1 1 (.t 26) (.t 28)),qM 3 29]) (.seq (.reg [qM 31 5,qO 32 (.bin .eql (.t 31) (.c (.int .u8 10))),qM 30 32]) (.cond (.t 30) (.reg [qM 33 3,qO 34 (.aps 5 (.t 33) (.c (.str [92,110]))),qM 3 34]) (.seq (.reg [qM 36 5,qO 37 (.bin .lss (.t 36) (.c (.int .u8 33))),qM 38 37,⟨some 39,.mov (.t 5),(some (38,false))⟩,⟨some 40,.bin .gtr (.t 39) (.c (.int .u8 126)),(some (38,false))⟩,qO 41 (.pick (.t 38) (.c (.bool true)) (.t 40)),qM 35 41]) (.cond (.t 35) (.drg [qM 42 3,qM 43 5,qO 44 (.bin .quo (.t 43) (.c (.int .u8 16))),qO 45 (.idx (.c (.str [48,49,50,51,52,53,54,55,56,57,97,98,99,100,101,102])) (.t 44)),qM 46 5,qO 47 (.bin .rem (.t 46) (.c (.int .u8 16))),qO 48 (.idx (.c (.str [48,49,50,51,52,53,54,55,56,57,97,98,99,100,101,102])) (.t 47)),qO 49 (.bsl 1 [.c (.int .u8 92),.c (.int .u8 120),.t 45,.t 48]),qO 50 (.app 5 1 1 (.t 42) (.t 49)),qM 3 50]) (.reg [qM 15 3,qM 16 5,qO 17 (.bsl 1 [.t 16]),qO 18 (.app 5 1 1 (.t 15) (.t 17)),qM 3 18]))))))))))) (.cut (.reg [qO 51 (.bin .add (.t 9) (.c (.int .i64 1))),qM 9 51])))))
def qeK:IC:=(.seq (.reg [qO 2 (.mov (.c (.str [])))]) (.seq (.reg [qO 6 (.bsr 5 1 [.c (.int .u8 34)]),qM 3 6]) (.seq (.seq (.reg [qM 7 0,qO 8 (.sln (.t 7)),qO 9 (.mov (.c (.int .i64 0)))]) (.block 0 (.loop qds))) (.seq (.reg [qM 52 3,qO 53 (.bsl 1 [.c (.int .u8 34)]),qO 54 (.app 5 1 1 (.t 52) (.t 53)),qO 55 (.b2s (.t 54)),qM 2 55]) .ret))))
def qex:List IRes:=[.t 2]
theorem qhO:chkF Tryz.prog Tryz.f32 qeK qex 56=true:=by kernel_rfl
def qhC:IC:=(.seq (.reg [qO 2 (.mov (.c (.str [])))]) (.seq (.seq (.reg [qM 3 0,qO 4 (.bin .eql (.t 3) (.c (.str [])))]) (.cond (.t 4) (.seq (.reg [qO 2 (.mov (.c (.str [45])))]) .ret) .skip)) (.seq (.reg [qM 5 0,qM 2 5]) .ret)))
def qhx:List IRes:=[.t 2]
theorem qk2:chkF Tryz.prog Tryz.f54 qhC qhx 6=true:=by kernel_rfl
def qfF:IC:=(.seq (.reg [qO 2 (.mov (.c (.str [])))]) (.seq (.seq (.reg [qM 3 0,qO 4 (.bin .eql (.t 3) (.c (.str [])))]) (.cond (.t 4) (.seq (.reg [qO 2 (.mov (.c (.str [45])))]) .ret) .skip)) (.seq (.reg [qM 5 0,qM 2 5]) .ret)))
def qfv:List IRes:=[.t 2]
theorem qjh:chkF Tryz.prog Tryz.f31 qfF qfv 6=true:=by kernel_rfl
theorem qkQ (c:UInt8) (n:Nat) (hn:n < 256):c=UInt8.ofNat n↔((c.toNat:Nat):Int)=(n:Int):=by
 constructor
 ·rintro rfl
  simp
  omega
 ·intro h
  apply UInt8.toNat_inj.1
  simp
  omega
theorem qrX (c:UInt8) (h:c.toNat < 128):(Utf8.encode (IntKind.i32.wrap ((c.toNat:Nat):Int))).data.toList=[c]:=by
 have:∀ n:Fin 128,(Utf8.encode (IntKind.i32.wrap ((n.val:Nat):Int))).data.toList=[UInt8.ofNat n.val]:=by decide +kernel
 have h1:=this ⟨c.toNat,h⟩
 simpa using h1
theorem c_hi (c:UInt8):((c.toNat:Nat):Int).fdiv (2 ^ (min (yn 4) IntKind.u8.bits))=((c.toNat / 16:Nat):Int):=by
 rw [show (2:Int) ^ (min (yn 4) IntKind.u8.bits)=16 by decide,Int.fdiv_eq_ediv_of_nonneg _ (by omega)]
 omega
theorem c_lo (c:UInt8):bitA .u8 ((c.toNat:Nat):Int) 15=((c.toNat % 16:Nat):Int):=by
 have:∀ n:Fin 256,bitA .u8 ((n.val:Nat):Int) 15=((n.val % 16:Nat):Int):=by decide +kernel
 have h:=c.toNat_lt
 exact this ⟨c.toNat,by omega⟩
theorem qqT {n:Nat} (h:n < 16):IntKind.u8.wrap (((n:Nat):Int)+1)=((n+1:Nat):Int):=by
 have:∀ n:Fin 16,IntKind.u8.wrap (((n.val:Nat):Int)+1)=((n.val+1:Nat):Int):=by decide
 exact this ⟨n,h⟩
theorem qoL (n:Nat) (h:n < 16):List.drop n (48 :: List.take n [49,50,51,52,53,54,55,56,57,97,98,99,100,101,102])=[hxB n]:=by
 have:=qxG n h
 rwa [yy] at this
section
variable {E:Envt}
theorem qoW (s:List UInt8):PCall Tryz.prog E 54 [.str s] (·=.str (qff s)):=by
 refine qaf mixed Tryz.func54 qk2 ?_
 simp only [a0,l0,OS.ao,zl,zt,zk,zp,zo,zq,zu,zd,zj,zm,qhC,qhx,ZZ,WW,Ze,reduceCtorEq,zd,ze,za,zf,zb]
 unfold qff
 refine br ?_ ?_
 ·intro h
  have h:s=[]:=by simpa using h
  simp only [ZZ,WW,Ze,reduceCtorEq,zd,ze,za,zf,zb]
  rw [if_pos h]
 ·intro h
  have h:¬ s=[]:=by simpa using h
  simp only [ZZ,WW,Ze,reduceCtorEq,zd,ze,za,zf,zb]
  rw [if_neg h]
theorem qhf (s:List UInt8):PCall Tryz.prog E 31 [.str s] (·=.str (qff s)):=by
 refine qaf mixed Tryz.func31 qjh ?_
 simp only [a0,l0,OS.ao,zl,zt,zk,zp,zo,zq,zu,zd,zj,zm,qfF,qfv,ZZ,WW,Ze,reduceCtorEq,zd,ze,za,zf,zb]
 unfold qff
 refine br ?_ ?_
 ·intro h
  have h:s=[]:=by simpa using h
  simp only [ZZ,WW,Ze,reduceCtorEq,zd,ze,za,zf,zb]
  rw [if_pos h]
 ·intro h
  have h:¬ s=[]:=by simpa using h
  simp only [ZZ,WW,Ze,reduceCtorEq,zd,ze,za,zf,zb]
  rw [if_neg h]
theorem qni (c:UInt8):PCall Tryz.prog E 97 [.int .u8 (c.toNat:Nat)] (·=.str (quB c)):=by
 have h34:=qkQ c 34 (by omega)
 have h92:=qkQ c 92 (by omega)
 have h10:=qkQ c 10 (by omega)
 have h256:=c.toNat_lt
 refine qaf mixed Tryz.func97 qjL ?_
 simp only [a0,l0,OS.ao,zl,zt,zk,zp,zo,zq,zu,zd,zj,zm,qgg,qga,ZZ,WW,Ze,reduceCtorEq,zd,ze,za,zf,zb]
 unfold quB
 ((repeat' (with_reducible apply And.intro))<;>try ((exact sc_)))
 refine br ?_ ?_
 ·intro h
  have h:c=34∨c=92:=by
   rcases Bool.or_eq_true_iff.1 h with h|h
   ·exact .inl (h34.2 (of_decide_eq_true h))
   ·exact .inr (h92.2 (of_decide_eq_true h))
  have hl:c.toNat < 128:=by rcases h with rfl|rfl<;>decide
  have he:=qrX c hl
  simp only [ZZ,WW,Ze,reduceCtorEq,zd,ze,za,zf,zb,he]
  ((repeat' (with_reducible apply And.intro))<;>try ((exact sc_)))
  rw [if_pos h]
 intro h
 have h:¬ (c=34∨c=92):=by
  simp only [zZ,decide_eq_false_iff_not] at h
  rintro (h'|h')
  ·exact h.1 (h34.1 h')
  ·exact h.2 (h92.1 h')
 rw [if_neg h]
 simp only [ZZ,WW,Ze,reduceCtorEq,zd,ze,za,zf,zb]
 refine br ?_ ?_
 ·intro h2
  have h2:c=10:=h10.2 (of_decide_eq_true h2)
  simp only [ZZ,WW,Ze,reduceCtorEq,zd,ze,za,zf,zb]
  rw [if_pos h2]
 intro h2
 have h2:¬ c=10:=fun e=>of_decide_eq_false h2 (h10.1 e)
 rw [if_neg h2]
 simp only [ZZ,WW,Ze,reduceCtorEq,zd,ze,za,zf,zb]
 ((repeat' (with_reducible apply And.intro))<;>try ((exact sc_)))
 have hlt:(c < 33∨126 < c)↔(decide (((c.toNat:Nat):Int) < 33) || decide (126 < ((c.toNat:Nat):Int)))=true:=by
  simp only [Bool.or_eq_true,decide_eq_true_eq,UInt8.lt_iff_toNat_lt]
  rw [show (33:UInt8).toNat=33 from rfl,show (126:UInt8).toNat=126 from rfl]
  omega
 refine br ?_ ?_
 ·intro h3
  rw [if_pos (hlt.2 h3)]
  have e1:=c_hi c
  have e2:=c_lo c
  have e3:=qqT (n:=c.toNat / 16) (by omega)
  have e4:=qqT (n:=c.toNat % 16) (by omega)
  have e5:=qoL (c.toNat / 16) (by omega)
  have e6:=qoL (c.toNat % 16) (by omega)
  simp only [ZZ,WW,Ze,reduceCtorEq,zd,ze,za,zf,zb]
  refine drg0 ?_
  simp only [ZZ,WW,Ze,reduceCtorEq,zd,ze,za,zf,zb,e1,e2,e3,e4,e5,e6,yi]
  ((repeat' (with_reducible apply And.intro))<;>try ((exact sc_)))
 ·intro h3
  have h3':¬ (c < 33∨126 < c):=fun e=>by rw [hlt.1 e] at h3;cases h3
  rw [if_neg h3']
  have hl:c.toNat < 128:=by
   simp only [zZ,decide_eq_false_iff_not] at h3
   omega
  have he:=qrX c hl
  simp only [ZZ,WW,Ze,reduceCtorEq,zd,ze,za,zf,zb,he]
theorem qrS (h:Int) (c:UInt8):IntKind.u64.wrap (bitX .u64 h (IntKind.u64.wrap (c.toNat:Nat)) * 1099511628211)=fnvS h c:=by
 have:=c.toNat_lt
 rw [qlG (x:=((c.toNat:Nat):Int)) (by omega) (by omega)]
 rfl
theorem qqm (x:Int) (k:Int) (n:Nat) (hk:k=n) (hn:n≤64):IntKind.u64.wrap (x * 2 ^ (min k.toNat IntKind.u64.bits))=IntKind.u64.wrap (x * (2 ^ n:Nat)):=by
 subst hk
 rw [yi,show IntKind.u64.bits=64 from rfl,Nat.min_eq_left hn,Int.natCast_pow]
 rfl
def hxR:Nat→Nat→Nat
 |0,n=>n
 |k+1,n=>hxR k (n / 16)
theorem qpO:∀ (k n:Nat),hxR (k+1) n=hxR k n / 16
 |0,n=>rfl
 |k+1,n=>qpO k (n / 16)
theorem quw:∀ (k n:Nat),hxR k n≤n
 |0,n=>Nat.le_refl _
 |k+1,n=>Nat.le_trans (quw k (n / 16)) (Nat.div_le_self _ _)
theorem qnA:∀ (k n:Nat),hexK (k+1) n=hxB (hxR k n % 16) :: hexK k n
 |0,n=>by simp [hexK,hxR]
 |k+1,n=>by
  rw [hexK,qnA k (n / 16)]
  rfl
theorem quG (m:Nat) (h:m < 18446744073709551616):((m:Nat):Int).tmod 16=((m % 16:Nat):Int)∧IntKind.u64.wrap (((m % 16:Nat):Int)+1)=((m % 16+1:Nat):Int)∧IntKind.u64.wrap (((m:Nat):Int).tdiv 16)=((m / 16:Nat):Int):=by
 refine ⟨?_,?_,?_⟩
 ·rw [Int.tmod_eq_emod_of_nonneg (by omega)];omega
 ·rw [qlG (by omega) (by omega)];omega
 ·rw [Int.tdiv_eq_ediv_of_nonneg (by omega),qlG (by omega) (by omega)];omega
set_option maxHeartbeats 1000000 in
theorem qpd (s:List UInt8) (hs:s.length≤1000000000):PCall Tryz.prog E 64 [.str s] (·=.str (digF s)):=by
 refine qaf mixed Tryz.func64 qgW ?_
 simp only [a0,l0,OS.ao,zl,zt,zk,zp,zo,zq,zu,zd,zj,zm,qdQ,qdI,ZZ,WW,Ze,reduceCtorEq,zd,ze,za,zf,zb]
 refine qag (fun n fr L=>∃ (k:Nat),k≤s.length∧n=s.length - k∧fr=[.p (.str s),oo,.p (.str []),.p (.int .u64 (fnvF (s.take k))),oo,oo,oo,.p (int (s.length:Nat)),.p (int (k:Nat)),oo,oo,oo,oo,oo,oo,oo,oo,oo,oo,oo,oo,oo,oo,oo,oo,oo,oo,oo,oo,oo,oo,oo,oo,oo,oo,oo,oo,oo,oo,oo,oo,oo,oo,oo,oo,oo,oo,oo,oo,oo,oo]∧L=[]) (s.length) _ [] (by (simp only [ZZ,WW,Ze,reduceCtorEq,zd,ze,za,zf,zb];try trivial)) (by (simp only [ZZ,WW,Ze,reduceCtorEq,zd,ze,za,zf,zb];try trivial)) ⟨0,by omega,by omega,rfl,rfl⟩ ?_
 rintro n fr L ⟨k,hk,rfl,rfl,rfl⟩
 simp only [qcH,ZZ,WW,Ze,reduceCtorEq,zd,ze,za,zf,zb]
 refine br ?_ ?_
 ·intro h
  have hlt:k < s.length:=by have:=of_decide_eq_true h;omega
  have hn:=qpS hlt
  generalize fnvF (s.take k)=x at *
  have e0:=qrS x (s.getD k 0)
  have e1:∀ y:Int,IntKind.u64.wrap (y * 2 ^ (min (yn 40) IntKind.u64.bits))=IntKind.u64.wrap (y * 1099511627776):=fun y=>qqm y 40 40 rfl (by omega)
  have e2:∀ y:Int,IntKind.u64.wrap (y * 2 ^ (min (yn 8) IntKind.u64.bits))=IntKind.u64.wrap (y * 256):=fun y=>qqm y 8 8 rfl (by omega)
  have e3:∀ y:Int,IntKind.u64.wrap (y * 2 ^ (min (yn 7) IntKind.u64.bits))=IntKind.u64.wrap (y * 128):=fun y=>qqm y 7 7 rfl (by omega)
  have e4:∀ y:Int,IntKind.u64.wrap (y * 2 ^ (min (yn 5) IntKind.u64.bits))=IntKind.u64.wrap (y * 32):=fun y=>qqm y 5 5 rfl (by omega)
  have e5:∀ y:Int,IntKind.u64.wrap (y * 2 ^ (min (yn 4) IntKind.u64.bits))=IntKind.u64.wrap (y * 16):=fun y=>qqm y 4 4 rfl (by omega)
  have e6:∀ y:Int,IntKind.u64.wrap (y * 2 ^ (min (yn 1) IntKind.u64.bits))=IntKind.u64.wrap (y * 2):=fun y=>qqm y 1 1 rfl (by omega)
  simp only [ZZ,WW,Ze,reduceCtorEq,zd,ze,za,zf,zb,yi,e1,e2,e3,e4,e5,e6,qqz,e0]
  ((repeat' (with_reducible apply And.intro))<;>try ((exact sc_)))
  refine qae (s.length - (k+1)) _ [] (by omega) (by rw [hn];(simp only [ZZ,WW,Ze,reduceCtorEq,zd,ze,za,zf,zb];try trivial)) (by (simp only [ZZ,WW,Ze,reduceCtorEq,zd,ze,za,zf,zb];try trivial)) ⟨k+1,by omega,rfl,rfl,rfl⟩
 ·intro h
  have hge:s.length≤k:=by have:=of_decide_eq_false h;omega
  rw [zP hge]
  have hb:=qoR s
  have hd:digF s=hexK 16 (fnvF s).toNat:=rfl
  obtain ⟨q,hn⟩:=Int.eq_ofNat_of_zero_le hb.1
  rw [hn] at hb hd ⊢
  rw [yi] at hd
  simp only [ZZ,WW,Ze,reduceCtorEq,zd,ze,za,zf,zb]
  refine qag (fun n fr L=>∃ (k:Nat) (m:Nat) (T:List UInt8),k≤16∧n=16 - k∧(m=hxR k q)∧(T=hexK k q)∧fr=[oo,oo,oo,.p (.int .u64 (m:Nat)),oo,.p (.str T),oo,oo,oo,oo,oo,oo,oo,oo,oo,oo,oo,oo,oo,oo,oo,oo,oo,oo,oo,oo,oo,oo,oo,oo,oo,oo,oo,oo,oo,oo,oo,.p (int (k:Nat)),oo,oo,oo,oo,oo,oo,oo,oo,oo,oo,oo,oo,oo]∧L=[]) (16) _ [] (by (simp only [ZZ,WW,Ze,reduceCtorEq,zd,ze,za,zf,zb];try trivial)) (by (simp only [ZZ,WW,Ze,reduceCtorEq,zd,ze,za,zf,zb];try trivial)) ⟨0,q,(List.nil:List UInt8),by omega,by omega,rfl,rfl,rfl,rfl⟩ ?_
  rintro n fr L ⟨k,m,T,hk,rfl,hm,hT,rfl,rfl⟩
  simp only [qcG,ZZ,WW,Ze,reduceCtorEq,zd,ze,za,zf,zb]
  have hle:m≤q:=by rw [hm];exact quw k q
  have hx1:hxB (m % 16) :: T=hexK (k+1) q:=by rw [qnA,hm,hT]
  have hx2:m / 16=hxR (k+1) q:=by rw [qpO,hm]
  have hkl:T.length=k:=by rw [hT,qmg]
  refine br ?_ ?_
  ·intro h
   have hlt:k < 16:=by have:=of_decide_eq_true h;omega
   obtain ⟨e1,e2,e4⟩:=quG m (by omega)
   have e3:=qoL (m % 16) (by omega)
   clear hd hb hn hm hT
   simp only [ZZ,WW,Ze,reduceCtorEq,zd,ze,za,zf,zb,e1,e2,e3,e4,yi]
   ((repeat' (with_reducible apply And.intro))<;>try ((exact sc_)))
   refine qae (16 - (k+1)) _ [] (by omega) (by (simp only [ZZ,WW,Ze,reduceCtorEq,zd,ze,za,zf,zb];try trivial)) (by (simp only [ZZ,WW,Ze,reduceCtorEq,zd,ze,za,zf,zb];try trivial)) ⟨k+1,m / 16,hxB (m % 16) :: T,by omega,rfl,hx2,hx1,rfl,rfl⟩
  ·intro h
   have hge:k=16:=by have:=of_decide_eq_false h;omega
   rw [hge] at hT
   rw [hd,← hT]
   clear hd hT hx1 hm
   simp only [ZZ,WW,Ze,reduceCtorEq,zd,ze,za,zf,zb]
end
theorem qxa:∀ n:Nat,Lib.repeatL [48] n=List.replicate n 48
 |0=>rfl
 |n+1=>by
  have:=qxa n
  simp only [Lib.repeatL,zj,List.flatten_cons] at this ⊢
  rw [this]
  rfl
theorem qsG (s:List UInt8) (hs:s.length≤1000000000):PCall Tryz.prog ED 130 [.str s] (·=.str (digF s)):=by
 refine qaf mixed Tryz.func130 qjM ?_
 simp only [a0,l0,OS.ao,zl,zt,zk,zp,zo,zq,zu,zd,zj,zm,qgh,qgb,ZZ,WW,Ze,reduceCtorEq,zd,ze,za,zf,zb]
 refine qag (fun n fr L=>∃ (k:Nat),k≤s.length∧n=s.length - k∧fr=[.p (.str s),oo,.p (.str []),.p (.int .u64 (fnvF (s.take k))),oo,oo,oo,.p (int (s.length:Nat)),.p (int (k:Nat)),oo,oo,oo,oo,oo,oo,oo,oo,oo,oo,oo,oo,oo,oo,oo,oo,oo,oo]∧L=[]) (s.length) _ [] (by (simp only [ZZ,WW,Ze,reduceCtorEq,zd,ze,za,zf,zb];try trivial)) (by (simp only [ZZ,WW,Ze,reduceCtorEq,zd,ze,za,zf,zb];try trivial)) ⟨0,by omega,by omega,rfl,rfl⟩ ?_
 rintro n fr L ⟨k,hk,rfl,rfl,rfl⟩
 simp only [qeJ,ZZ,WW,Ze,reduceCtorEq,zd,ze,za,zf,zb]
 refine br ?_ ?_
 ·intro h
  have hlt:k < s.length:=by have:=of_decide_eq_true h;omega
  have hn:=qpS hlt
  generalize fnvF (s.take k)=x at *
  have e0:=qrS x (s.getD k 0)
  simp only [ZZ,WW,Ze,reduceCtorEq,zd,ze,za,zf,zb,yi,e0]
  ((repeat' (with_reducible apply And.intro))<;>try ((exact sc_)))
  refine qae (s.length - (k+1)) _ [] (by omega) (by rw [hn];(simp only [ZZ,WW,Ze,reduceCtorEq,zd,ze,za,zf,zb];try trivial)) (by (simp only [ZZ,WW,Ze,reduceCtorEq,zd,ze,za,zf,zb];try trivial)) ⟨k+1,by omega,rfl,rfl,rfl⟩
 ·intro h
  have hge:s.length≤k:=by have:=of_decide_eq_false h;omega
  rw [zP hge]
  have hb:=qoR s
  have hd:=qwn s
  obtain ⟨n,hn⟩:=Int.eq_ofNat_of_zero_le hb.1
  rw [hn] at hb hd ⊢
  rw [yi] at hd
  simp only [ZZ,WW,Ze,reduceCtorEq,zd,ze,za,zf,zb]
  have hl1:=qvT n
  have hl2:=qmh 15 n (by omega)
  refine use1 (qk8 n (by omega)) rfl (.inl rfl) ?_
  generalize hexF n=T at *
  have he:(16:Int) - (T.length:Int)=((16 - T.length:Nat):Int):=by omega
  simp only [ZZ,WW,Ze,reduceCtorEq,zd,ze,za,zf,zb,he]
  ((repeat' (with_reducible apply And.intro))<;>try ((exact sc_)))
  refine use1 (qsw [48] (16 - T.length) (by omega) (by decide)) rfl (.inl rfl) ?_
  have hr:=qxa (16 - T.length)
  rw [hr]
  simp only [ZZ,WW,Ze,reduceCtorEq,zd,ze,za,zf,zb]
  ((repeat' (with_reducible apply And.intro))<;>try ((exact sc_)))
end Go.Proofs.YtjgdjinhkgjpeaaGreatDoor
namespace Go.Proofs.YtjgdjinhkgjpeaaGreatDoor
open Go.Lib Go.RowKit Go.Shelf
theorem qjI {l:List UInt8} {c:UInt8} (h:∀ b∈l,b≠c):Lib.indexByte l c=-1:=by
 have h1:=Lib.contains_iff_indexByte l c
 have h2:l.contains c=false:=by
  rw [Bool.eq_false_iff]
  intro h3
  exact h c (by simpa using h3) rfl
 rw [h2] at h1
 have h3:¬ (0:Int)≤Lib.indexByte l c:=of_decide_eq_false h1.symm
 have h4:-1≤Lib.indexByte l c:=by rw [← Lib.indexAny_one];exact Lib.indexAny_ge _ _
 omega
def Asc (s:ByteArray):Prop:=∀ (j:Nat) (b:UInt8),s.data.toList[j]?=some b→b.toNat < 128
theorem Asc.rest {s:ByteArray} (h:Asc s) (i:Nat) {c:UInt8} (hc:128≤c.toNat):Lib.indexByte (s.extract i s.size).data.toList c=-1:=by
 refine qjI fun b hb e=>?_
 have hb:=mem_extract hb
 obtain ⟨j,hj⟩:=List.getElem?_of_mem hb
 have:=h j b hj
 rw [e] at this
 omega
section
variable {P:Program} {ρ:Ren}
end
end Go.Proofs.YtjgdjinhkgjpeaaGreatDoor
namespace Go.Proofs.YtjgdjinhkgjpeaaGreatDoor
open Nat renaming le_refl→zT,reduceAdd→zd,reduceEqDiff→zb,reduceLT→zf,reduceLeDiff→za,reduceMul→ze,reduceSub→zu
open List renaming cons_append→zo,getElem?_eq_getElem→zr,length_cons→zk,length_nil→zp,map_cons→zl,map_nil→zt,nil_append→zq,replicate_succ→zj,replicate_zero→zm
open Bool renaming true_and→yk
open Go.RowKit
def splF (s:List UInt8) (c:UInt8):List (List UInt8):=(Lib.splitB ⟨#[c]⟩ 0 (Lib.countB ⟨s.toArray⟩ ⟨#[c]⟩) ⟨s.toArray⟩).map (·.data.toList)
theorem qjk (sep:ByteArray):∀ (k:Nat) (s:ByteArray),(Lib.splitB sep 0 k s).length≤k+1∧∀ x∈Lib.splitB sep 0 k s,x.size≤s.size:=by
 intro k
 induction k with
 |zero=>intro s;simp [Lib.splitB]
 |succ k ih=>
  intro s
  unfold Lib.splitB
  split
  ·simp
  ·have:=ih (s.extract ((Lib.indexB s sep).toNat+sep.size) s.size)
   refine ⟨by simp;omega,fun x hx=>?_⟩
   simp only [List.mem_cons] at hx
   rcases hx with rfl|hx
   ·simp;omega
   ·have:=this.2 x hx;simp at this;omega
theorem qjP (s:List UInt8) (c:UInt8):(splF s c).length≤s.length+1:=by
 have h1:=(qjk ⟨#[c]⟩ (Lib.countB ⟨s.toArray⟩ ⟨#[c]⟩) ⟨s.toArray⟩).1
 have h2:=Lib.countB_le ⟨#[c]⟩ (zT 1) (⟨s.toArray⟩:ByteArray).size ⟨s.toArray⟩ (zT _)
 rw [qfm] at h2
 simp only [splF,List.length_map]
 omega
theorem qh6 (s:List UInt8) (c:UInt8):∀ x∈splF s c,x.length≤s.length:=by
 intro x hx
 simp only [splF,List.mem_map] at hx
 obtain ⟨y,hy,rfl⟩:=hx
 have:=(qjk ⟨#[c]⟩ (Lib.countB ⟨s.toArray⟩ ⟨#[c]⟩) ⟨s.toArray⟩).2 y hy
 rw [qfm] at this
 rw [Array.length_toList]
 exact this
theorem qli {w:World} {U:Nat→Prop} {b:Nat}:∀ (l:List ByteArray) (off:Nat),(∀ i x,l[i]?=some x→w.cell? ⟨b,off+i,none⟩=some (.string x))→PRepE w U b 1 off ((l.map (·.data.toList)).map fun x=>[.str x])
 |[],off,h=>trivial
 |x :: r,off,h=>by
  refine ⟨rfl,⟨⟨.string x,by simpa using h 0 _ rfl,rfl,?_⟩,trivial⟩,qli r (off+1) fun i u hu=>?_⟩
  ·simp [PRep]
  ·have:=h (i+1) u (by simpa using hu)
   rwa [show off+(i+1)=off+1+i from by omega] at this
theorem quR:(Tryz.prog.info? 9).map (fun i=>(i.zero,i.size,i.bytes))=some (some (.string ByteArray.empty),1,16):=by kernel_rfl
theorem qj0 (s:List UInt8) (c:UInt8) (hs:s.length≤1000000000):PCall Tryz.prog E0 37 [.str s,.str [c]] (·=strs (splF s c)):=by
 intro w U vs hU hE hEb hA
 obtain ⟨_,m,hm⟩:=hE
 simp only [PRepL,PRep] at hA
 obtain ⟨v,r,rfl,rfl,v2,r2,rfl,rfl,rfl⟩:=hA
 refine (Any.strings_Split Tryz.laySplit quR ⟨s.toArray⟩ ⟨#[c]⟩ m w (by rw [qfm];omega) hm (zT 1)).mono ?_
 rintro e w' ⟨rfl,rfl⟩
 have hl:=Lib.splitB_all ⟨#[c]⟩ (zT 1) 0 _ (⟨s.toArray⟩:ByteArray) rfl
 refine ⟨_,_,rfl,rfl,?_,⟨rfl,rfl,rfl,by simp,fun k hk _=>Lib.alloc_old w _ k hk⟩⟩
 have hln:(List.map (fun x=>[PV.str x]) (splF s c)).length=Lib.countB ⟨s.toArray⟩ ⟨#[c]⟩+1:=by simp [splF,hl]
 refine ⟨some ⟨w.heap.size,0,none⟩,Lib.countB ⟨s.toArray⟩ ⟨#[c]⟩+1,by rw [hln],by rw [hln];exact zT _,fun _=>⟨w.heap.size,0,rfl,by simp,fun h=>by have:=hU _ h;omega,?_⟩⟩
 ·refine qli _ 0 fun i x hx=>?_
  rw [Lib.cell_of_heap (heap_alloc_new w _)]
  simp [hx]
def qfE:IC:=(.seq (.reg [qO 4 (.mov (.c (.bool false)))]) (.seq (.reg [qM 5 0,qM 6 1,qO 7 (.call 100 [.t 5,.t 6]),qO 8 (.bin .eql (.t 7) (.c (.str []))),qM 4 8]) .ret))
def qfu:List IRes:=[.t 4]
theorem qjg:chkF Tryz.prog Tryz.f58 qfE qfu 9=true:=by kernel_rfl
def qvM (s of:List UInt8):Bool:=decide (Lib.trimS s of=[])
theorem dropW_nil {p:UInt8→Bool}:∀ {l:List UInt8},l.dropWhile p=[]↔l.all p=true
 |[]=>by simp
 |x :: r=>by
  simp only [List.dropWhile,List.all_cons]
  cases h:p x
  ·simp
  ·simpa using dropW_nil (l:=r)
theorem qnt (s of:List UInt8):qvM s of=s.all (fun c=>of.contains c):=by
 rw [Bool.eq_iff_iff,qvM,decide_eq_true_iff,Lib.trimS,Lib.trimLeftS,Lib.trimRightS,dropW_nil]
 constructor
 ·intro h
  have h2:∀ l:List UInt8,(l.dropWhile fun c=>of.contains c).all (fun c=>of.contains c)=true→l.all (fun c=>of.contains c)=true:=by
   intro l
   induction l with
   |nil=>simp
   |cons x r ih=>
    simp only [List.dropWhile]
    cases hx:of.contains x
    ·intro h;exact h
    ·intro h;simp only [List.all_cons,hx,yk];exact ih h
  have:=h2 s.reverse (by simpa [List.all_reverse] using h)
  simpa [List.all_reverse] using this
 ·intro h
  have:(s.reverse.dropWhile fun c=>of.contains c)=[]:=dropW_nil.2 (by simpa [List.all_reverse] using h)
  rw [this]
  simp
section
variable {E:Envt}
def asc (l:List UInt8):Bool:=l.all fun b=>decide (b.toNat < 128)
theorem qx3 {l:List UInt8} (h:asc l=true):∀ (j:Nat) b,(⟨l.toArray⟩:ByteArray).data.toList[j]?=some b→b.toNat < 128:=
 fun _ b hb=>of_decide_eq_true (List.all_eq_true.1 h b (List.mem_of_getElem? (by simpa using hb)))
theorem qlC (s cs:List UInt8) (hs:s.length≤1000000000) (hcs:cs.length≤1000000) (h2:asc cs=true):PCall Tryz.prog E 100 [.str s,.str cs] (·=.str (Lib.trimS s cs)):=
 qbz rfl rfl fun w _=>(Any.strings_Trim_laid Tryz.layTrim (by kernel_rfl) ⟨s.toArray⟩ ⟨cs.toArray⟩ w (by rw [qfm];omega) (by rw [qfm];omega) (qx3 h2)).mono fun e w' h=>⟨h.1,qcL h.2⟩
theorem qry (s of:List UInt8) (hs:s.length≤1000000000) (ho:of.length≤1000) (ha:asc of=true):PCall Tryz.prog E 58 [.str s,.str of] (·=.bool (qvM s of)):=by
 refine qaf mixed Tryz.func58 qjg ?_
 simp only [a0,l0,OS.ao,zl,zt,zk,zp,zo,zq,zu,zd,zj,zm,qfE,qfu,ZZ,WW,Ze,reduceCtorEq,zd,ze,za,zf,zb]
 refine use1 (qlC s of hs (by omega) ha) rfl (.inl rfl) ?_
 simp only [ZZ,WW,Ze,reduceCtorEq,zd,ze,za,zf,zb]
 rfl
end
def qix:IC:=(.seq (.reg [qO 2 (.mov (.c (.bool false)))]) (.seq (.reg [qM 3 0,qO 4 (.bin .geq (.t 3) (.c (.int .u8 97))),qM 5 4,⟨some 6,.mov (.t 0),(some (5,true))⟩,⟨some 7,.bin .leq (.t 6) (.c (.int .u8 122)),(some (5,true))⟩,qO 8 (.pick (.t 5) (.t 7) (.c (.bool false))),qM 2 8]) .ret))
def qil:List IRes:=[.t 2]
theorem qms:chkF Tryz.prog Tryz.f129 qix qil 9=true:=by kernel_rfl
def qhF:IC:=(.seq (.reg [qO 18 (.bin .lss (.t 17) (.t 16))]) (.seq (.cond (.t 18) .skip (.exit 0)) (.seq (.block 1 (.seq (.reg [qM 19 17,qM 3 19]) (.seq (.reg [qM 20 0,qM 21 3,qO 22 (.idx (.t 20) (.t 21)),qM 4 22]) (.seq (.reg [qM 23 4,qO 24 (.call 129 [.t 23]),qO 25 (.not (.t 24)),qM 26 25,⟨some 27,.mov (.t 4),(some (26,true))⟩,⟨some 28,.call 107 [.t 27],(some (26,true))⟩,⟨some 29,.not (.t 28),(some (26,true))⟩,qO 30 (.pick (.t 26) (.t 29) (.c (.bool false))),qM 31 30,⟨some 32,.mov (.t 4),(some (31,true))⟩,⟨some 33,.bin .neq (.t 32) (.c (.int .u8 45)),(some (31,true))⟩,qO 34 (.pick (.t 31) (.t 33) (.c (.bool false))),qM 35 34,⟨some 36,.mov (.t 4),(some (35,true))⟩,⟨some 37,.bin .neq (.t 36) (.c (.int .u8 95)),(some (35,true))⟩,qO 38 (.pick (.t 35) (.t 37) (.c (.bool false)))]) (.cond (.t 38) (.seq (.reg [qO 2 (.mov (.c (.bool false)))]) .ret) .skip))))) (.reg [qO 39 (.bin .add (.t 17) (.c (.int .i64 1))),qM 17 39]))))
def qko:IC:=(.seq (.reg [qO 2 (.mov (.c (.bool false)))]) (.seq (.seq (.reg [qM 5 0,qO 6 (.sln (.t 5)),qO 7 (.call 75 [.t 6,.c (.int .i64 1),.c (.int .i64 40)]),qO 8 (.not (.t 7)),qM 9 8,⟨some 10,.mov (.t 0),(some (9,false))⟩,⟨some 11,.idx (.t 10) (.c (.int .i64 0)),(some (9,false))⟩,⟨some 12,.call 129 [.t 11],(some (9,false))⟩,⟨some 13,.not (.t 12),(some (9,false))⟩,qO 14 (.pick (.t 9) (.c (.bool true)) (.t 13))]) (.cond (.t 14) (.seq (.reg [qO 2 (.mov (.c (.bool false)))]) .ret) .skip)) (.seq (.seq (.reg [qM 15 0,qO 16 (.sln (.t 15)),qO 17 (.mov (.c (.int .i64 0)))]) (.block 0 (.loop qhF))) (.seq (.reg [qO 2 (.mov (.c (.bool true)))]) .ret))))
def qke:List IRes:=[.t 2]
theorem qoY:chkF Tryz.prog Tryz.f87 qko qke 40=true:=by kernel_rfl
def smB (c:UInt8):Bool:=decide (97≤(c.toNat:Int)) && decide ((c.toNat:Int)≤122)
def kcB (c:UInt8):Bool:=((smB c || digB c) || decide (c=45)) || decide (c=95)
def keyB (s:List UInt8):Bool:=(inE s.length 1 40 && smB (s.headD 0)) && s.all kcB
def smSet:List UInt8:=[97,98,99,100,101,102,103,104,105,106,107,108,109,110,111,112,113,114,115,116,117,118,119,120,121,122]
def kcSet:List UInt8:=smSet++[48,49,50,51,52,53,54,55,56,57,45,95]
theorem qvn (c:UInt8):smSet.contains c=smB c:=qqa (p:=fun c=>smSet.contains c=smB c) (by decide +kernel) c
theorem qvO (c:UInt8):kcSet.contains c=kcB c:=qqa (p:=fun c=>kcSet.contains c=kcB c) (by decide +kernel) c
theorem qyl (c:UInt8):decide ((c.toNat:Int)=45)=decide (c=45):=qqa (p:=fun c=>decide ((c.toNat:Int)=45)=decide (c=45)) (by decide +kernel) c
theorem qyk (c:UInt8):decide ((c.toNat:Int)=95)=decide (c=95):=qqa (p:=fun c=>decide ((c.toNat:Int)=95)=decide (c=95)) (by decide +kernel) c
section
variable {E:Envt}
theorem qpu (c:UInt8):PCall Tryz.prog E 129 [.int .u8 (c.toNat:Nat)] (·=.bool (smB c)):=by
 refine qaf mixed Tryz.func129 qms ?_
 simp only [a0,l0,OS.ao,zl,zt,zk,zp,zo,zq,zu,zd,zj,zm,qix,qil,ZZ,WW,Ze,reduceCtorEq,zd,ze,za,zf,zb]
 ((repeat' (with_reducible apply And.intro))<;>try ((exact sc_)))
theorem qn8 (s:List UInt8) (hs:s.length≤1000000000):PCall Tryz.prog E 87 [.str s] (·=.bool (keyB s)):=by
 refine qaf mixed Tryz.func87 qoY ?_
 simp only [a0,l0,OS.ao,zl,zt,zk,zp,zo,zq,zu,zd,zj,zm,qko,qke,ZZ,WW,Ze,reduceCtorEq,zd,ze,za,zf,zb]
 refine use1 (qqO s.length 1 40) rfl (.inl rfl) ?_
 by_cases hi:inE s.length 1 40=true
 rotate_left
 ·have hi:inE s.length 1 40=false:=by simpa using hi
  have hk:keyB s=false:=by rw [keyB,hi];rfl
  rw [hi,hk]
  simp only [ZZ,WW,Ze,reduceCtorEq,zd,ze,za,zf,zb]
  refine ⟨fun h=>h.elim,?_⟩
  refine qye (fun h=>by cases h) (fun _=>?_)
  simp only [ZZ,WW,Ze,reduceCtorEq,zd,ze,za,zf,zb]
 have hi2:=hi
 simp only [inE,Bool.and_eq_true,decide_eq_true_eq] at hi2
 obtain ⟨c0,hc0⟩:∃ c,s[0]?=some c:=⟨_,zr (by omega)⟩
 have hd0:s.headD 0=c0:=by cases s with|nil=>simp at hc0|cons a r=>simpa using hc0
 have hg0:s.getD (Int.toNat 0) 0=c0:=by simp [List.getD,hc0]
 have hk:keyB s=(smB c0 && s.all kcB):=by rw [keyB,hi,hd0,yk]
 rw [hi,hk]
 simp only [ZZ,WW,Ze,reduceCtorEq,zd,ze,za,zf,zb,hg0]
 ((repeat' (with_reducible apply And.intro))<;>try ((exact sc_)))
 refine useG (fun _=>qpu c0) rfl (.inl rfl) ?_
 simp only [ZZ,WW,Ze,reduceCtorEq,zd,ze,za,zf,zb]
 refine br ?_ ?_
 ·intro h
  have h:smB c0=false:=by simpa using h
  simp only [ZZ,WW,Ze,reduceCtorEq,zd,ze,za,zf,zb]
  rw [h]
  rfl
 intro h
 have h:smB c0=true:=by simpa using h
 rw [h,yk]
 simp only [ZZ,WW,Ze,reduceCtorEq,zd,ze,za,zf,zb]
 refine qag (fun n fr L=>∃ (k:Nat),k≤s.length∧n=s.length - k∧(s.all kcB=(s.drop k).all kcB)∧fr=[.p (.str s),oo,oo,oo,oo,oo,oo,oo,oo,oo,oo,oo,oo,oo,oo,oo,.p (int (s.length:Nat)),.p (int (k:Nat)),oo,oo,oo,oo,oo,oo,oo,oo,oo,oo,oo,oo,oo,oo,oo,oo,oo,oo,oo,oo,oo,oo]∧L=[]) (s.length) _ [] (by (simp only [ZZ,WW,Ze,reduceCtorEq,zd,ze,za,zf,zb];try trivial)) (by (simp only [ZZ,WW,Ze,reduceCtorEq,zd,ze,za,zf,zb];try trivial)) ⟨0,by omega,by omega,by simp,rfl,rfl⟩ ?_
 rintro n fr L ⟨k,hk,rfl,hf,rfl,rfl⟩
 simp only [qhF,ZZ,WW,Ze,reduceCtorEq,zd,ze,za,zf,zb]
 refine br ?_ ?_
 ·intro h2
  have hlt:k < s.length:=by have:=of_decide_eq_true h2;omega
  obtain ⟨c,hc⟩:∃ c,s[k]?=some c:=⟨_,zr hlt⟩
  have hg:s.getD k 0=c:=by simp [List.getD,hc]
  have hdr:s.drop k=c :: s.drop (k+1):=by
   obtain ⟨hl,rfl⟩:=List.getElem?_eq_some_iff.1 hc
   exact List.drop_eq_getElem_cons hl
  rw [hdr,List.all_cons] at hf
  simp only [ZZ,WW,Ze,reduceCtorEq,zd,ze,za,zf,zb,hg]
  ((repeat' (with_reducible apply And.intro))<;>try ((exact sc_)))
  refine use1 (qpu c) rfl (.inl rfl) ?_
  simp only [ZZ,WW,Ze,reduceCtorEq,zd,ze,za,zf,zb]
  refine useG (fun _=>qqd c) rfl (.inl rfl) ?_
  have hkc:(!smB c && !digB c && !decide (c=45) && !decide (c=95))=!kcB c:=by
   unfold kcB
   cases smB c<;>cases digB c<;>cases decide (c=45)<;>cases decide (c=95)<;>rfl
  simp only [ZZ,WW,Ze,reduceCtorEq,zd,ze,za,zf,zb,qyl,qyk,hkc]
  ((repeat' (with_reducible apply And.intro))<;>try ((exact sc_)))
  refine br ?_ ?_
  ·intro hb
   have hb:kcB c=false:=by simpa using hb
   rw [hf,hb]
   simp only [ZZ,WW,Ze,reduceCtorEq,zd,ze,za,zf,zb]
   rfl
  ·intro hb
   have hb:kcB c=true:=by simpa using hb
   rw [hb,yk] at hf
   simp only [ZZ,WW,Ze,reduceCtorEq,zd,ze,za,zf,zb]
   ((repeat' (with_reducible apply And.intro))<;>try ((exact sc_)))
   refine qae (s.length - (k+1)) _ [] (by omega) (by (simp only [ZZ,WW,Ze,reduceCtorEq,zd,ze,za,zf,zb];try trivial)) (by (simp only [ZZ,WW,Ze,reduceCtorEq,zd,ze,za,zf,zb];try trivial)) ⟨k+1,by omega,rfl,hf,rfl,rfl⟩
 ·intro h2
  have hge:k=s.length:=by have:=of_decide_eq_false h2;omega
  rw [hf,hge,List.drop_length]
  simp only [ZZ,WW,Ze,reduceCtorEq,zd,ze,za,zf,zb]
end
end Go.Proofs.YtjgdjinhkgjpeaaGreatDoor
namespace Go.Proofs.YtjgdjinhkgjpeaaGreatDoor
structure OrdP {α:Type} (lt:α→α→Bool):Prop where
 asym:∀ x y,lt x y=true→lt y x=false
 ntr:∀ x y z,lt x y=false→lt y z=false→lt x z=false
section
variable {α:Type} {lt:α→α→Bool}
end
structure CmpP {α:Type} (c:α→α→Int):Prop where
 anti:∀ x y,c x y < 0↔0 < c y x
 tr:∀ x y z,c x y≤0→c y z≤0→c x z≤0
def ltC {α:Type} (c:α→α→Int) (x y:α):Bool:=decide (c x y < 0)
def orC {α:Type} (c d:α→α→Int) (x y:α):Int:=if c x y=0 then d x y else c x y
section
variable {α β:Type} {c d:α→α→Int}
theorem CmpP.ord (h:CmpP c):OrdP (ltC c) where
 asym x y h1:=by
  simp only [ltC,decide_eq_true_eq,decide_eq_false_iff_not] at *
  have:=h.anti x y
  omega
 ntr x y z h1 h2:=by
  simp only [ltC,decide_eq_false_iff_not] at *
  have a1:=h.anti x y
  have a2:=h.anti y z
  have a3:=h.anti x z
  have a4:=h.anti y x
  have a5:=h.anti z y
  have:=h.tr z y x
  omega
theorem CmpP.or (h:CmpP c) (k:CmpP d):CmpP (orC c d) where
 anti x y:=by
  have a1:=h.anti x y
  have a2:=h.anti y x
  have a3:=k.anti x y
  unfold orC
  split<;>split<;>omega
 tr x y z:=by
  have a1:=h.anti x y
  have a2:=h.anti y x
  have a3:=h.anti y z
  have a4:=h.anti z y
  have a5:=h.anti x z
  have a6:=h.anti z x
  have t1:=h.tr x y z
  have t2:=h.tr y z x
  have t3:=h.tr z x y
  have t4:=h.tr z y x
  have t5:=k.tr x y z
  unfold orC
  intro h1 h2
  split at h1<;>split at h2<;>split<;>omega
theorem CmpP.zero:CmpP (fun (_ _:α)=>(0:Int)):=⟨fun _ _=>by omega,fun _ _ _ _ _=>by omega⟩
theorem CmpP.on (f:β→α) (h:CmpP c):CmpP (fun x y=>c (f x) (f y)):=⟨fun _ _=>h.anti _ _,fun _ _ _=>h.tr _ _ _⟩
theorem CmpP.sub:CmpP (fun (x y:Int)=>x - y):=⟨fun _ _=>by omega,fun _ _ _ _ _=>by omega⟩
end
theorem qo1:∀ a b:List UInt8,Lib.compareBytes a b=- Lib.compareBytes b a
 |[],[]=>rfl
 |[],_ :: _=>rfl
 |_ :: _,[]=>rfl
 |a :: r,b :: s=>by
  have ih:=qo1 r s
  simp only [Lib.compareBytes,UInt8.lt_iff_toNat_lt]
  by_cases p1:a.toNat < b.toNat<;>by_cases p2:b.toNat < a.toNat<;>simp only [p1,p2,if_true,if_false]<;>omega
theorem qsd:∀ {a b:List UInt8},Lib.compareBytes a b=0→a=b
 |[],[],_=>rfl
 |[],_ :: _,h=>by cases h
 |_ :: _,[],h=>by cases h
 |a :: r,b :: s,h=>by
  simp only [Lib.compareBytes,UInt8.lt_iff_toNat_lt] at h
  by_cases p1:a.toNat < b.toNat
  ·rw [if_pos p1] at h;cases h
  by_cases p2:b.toNat < a.toNat
  ·rw [if_neg p1,if_pos p2] at h;cases h
  rw [if_neg p1,if_neg p2] at h
  rw [qsd h,UInt8.toNat_inj.1 (show a.toNat=b.toNat by omega)]
theorem qxY:∀ a b c:List UInt8,Lib.compareBytes a b≤0→Lib.compareBytes b c≤0→Lib.compareBytes a c≤0
 |[],_,[],_,_=>by decide
 |[],_,_ :: _,_,_=>by simp [Lib.compareBytes]
 |_ :: _,[],_,h,_=>by simp [Lib.compareBytes] at h
 |_ :: _,_ :: _,[],_,h=>by simp [Lib.compareBytes] at h
 |a :: r,b :: s,c :: t,h1,h2=>by
  have ih:=qxY r s t
  simp only [Lib.compareBytes,UInt8.lt_iff_toNat_lt] at h1 h2 ⊢
  by_cases p1:a.toNat < b.toNat<;>by_cases p2:b.toNat < a.toNat<;>by_cases q1:b.toNat < c.toNat<;>by_cases q2:c.toNat < b.toNat<;>by_cases r1:a.toNat < c.toNat<;>by_cases r2:c.toNat < a.toNat<;>simp only [p1,p2,q1,q2,r1,r2,if_true,if_false] at h1 h2 ⊢<;>first|omega|exact ih h1 h2
theorem CmpP.cb:CmpP Lib.compareBytes:=⟨fun x y=>by have:=qo1 x y;omega,qxY⟩
theorem qse (a:List UInt8):Lib.compareBytes a a=0:=by have:=qo1 a a;omega
end Go.Proofs.YtjgdjinhkgjpeaaGreatDoor
namespace Go.Proofs.YtjgdjinhkgjpeaaGreatDoor
open Nat renaming reduceAdd→zd,reduceEqDiff→zb,reduceLT→zf,reduceLeDiff→za,reduceMul→ze,reduceSub→zu
open List renaming cons_append→zo,length_cons→zk,length_nil→zp,map_cons→zl,map_nil→zt,nil_append→zq,replicate_succ→zj,replicate_zero→zm
open Go.RowKit
def qgi:IC:=(.seq (.reg [qO 2 (.mov (.c (.bool false)))]) (.seq (.reg [qM 3 0,qM 4 0,qO 5 (.bin .neq (.t 3) (.t 4)),qM 2 5]) .ret))
def qgc:List IRes:=[.t 2]
theorem qjN:chkF Tryz.prog Tryz.f102 qgi qgc 6=true:=by kernel_rfl
def qe7:IC:=(.seq (.reg [qO 4 (.mov (.c (.int .i64 0)))]) (.seq (.reg [qM 7 0,qO 8 (.call 102 [.t 7]),qM 5 8]) (.seq (.reg [qM 9 1,qO 10 (.call 102 [.t 9]),qM 6 10]) (.seq (.seq (.reg [qM 11 5]) (.cond (.t 11) (.seq (.seq (.reg [qM 12 6]) (.cond (.t 12) (.seq (.reg [qO 4 (.mov (.c (.int .i64 0)))]) .ret) .skip)) (.seq (.reg [qO 4 (.mov (.c (.int .i64 (-1))))]) .ret)) .skip)) (.seq (.seq (.reg [qM 13 6]) (.cond (.t 13) (.seq (.reg [qO 4 (.mov (.c (.int .i64 1)))]) .ret) .skip)) (.seq (.seq (.reg [qM 14 0,qM 15 1,qO 16 (.bin .lss (.t 14) (.t 15))]) (.cond (.t 16) (.seq (.reg [qO 4 (.mov (.c (.int .i64 (-1))))]) .ret) .skip)) (.seq (.seq (.reg [qM 17 0,qM 18 1,qO 19 (.bin .gtr (.t 17) (.t 18))]) (.cond (.t 19) (.seq (.reg [qO 4 (.mov (.c (.int .i64 1)))]) .ret) .skip)) (.seq (.reg [qO 4 (.mov (.c (.int .i64 0)))]) .ret))))))))
def qeY:List IRes:=[.t 4]
theorem qiJ:chkF Tryz.prog Tryz.f61 qe7 qeY 20=true:=by kernel_rfl
def qgj:IC:=(.seq (.reg [qO 9 (.bin .lss (.t 8) (.t 7))]) (.seq (.cond (.t 9) .skip (.exit 0)) (.seq (.block 1 (.seq (.reg [qO 10 (.ixa 1 (.t 6) (.t 8)),qO 11 (.ld 1 false (.t 10)),qM 5 11]) (.seq (.reg [qM 12 5,qM 13 3,qO 14 (.bin .neq (.t 12) (.t 13))]) (.cond (.t 14) (.seq (.reg [qM 15 5,qM 2 15]) .ret) .skip)))) (.reg [qO 16 (.bin .add (.t 8) (.c (.int .i64 1))),qM 8 16]))))
def qiw:IC:=(.seq (.reg [qO 2 (.mov (.c (.int .i64 0)))]) (.seq (.reg [qO 3 (.mov (.c (.int .i64 0)))]) (.seq (.seq (.reg [qM 6 0,qO 7 (.len (.t 6)),qO 8 (.mov (.c (.int .i64 0)))]) (.block 0 (.loop qgj))) (.seq (.reg [qM 17 3,qM 2 17]) .ret))))
def qik:List IRes:=[.t 2]
theorem qmr:chkF Tryz.prog Tryz.f59 qiw qik 18=true:=by kernel_rfl
def sgnC (a b:Int):Int:=if a < b then -1 else if b < a then 1 else 0
section
variable {E:Envt}
theorem qnv (n:Int):PCall Tryz.prog E 102 [int n] (·=.bool false):=by
 refine qaf mixed Tryz.func102 qjN ?_
 simp only [a0,l0,OS.ao,zl,zt,zk,zp,zo,zq,zu,zd,zj,zm,qgi,qgc,ZZ,WW,Ze,reduceCtorEq,zd,ze,za,zf,zb]
 simp
theorem qkO (a b:Int):PCall Tryz.prog E 61 [int a,int b] (·=int (sgnC a b)):=by
 refine qaf mixed Tryz.func61 qiJ ?_
 simp only [a0,l0,OS.ao,zl,zt,zk,zp,zo,zq,zu,zd,zj,zm,qe7,qeY,ZZ,WW,Ze,reduceCtorEq,zd,ze,za,zf,zb]
 refine use1 (qnv a) rfl (.inl rfl) ?_
 simp only [ZZ,WW,Ze,reduceCtorEq,zd,ze,za,zf,zb]
 refine use1 (qnv b) rfl (.inl rfl) ?_
 simp only [ZZ,WW,Ze,reduceCtorEq,zd,ze,za,zf,zb]
 unfold sgnC
 refine br ?_ ?_
 ·intro h
  simp only [ZZ,WW,Ze,reduceCtorEq,zd,ze,za,zf,zb]
  rw [if_pos (of_decide_eq_true h)]
 intro h
 simp only [ZZ,WW,Ze,reduceCtorEq,zd,ze,za,zf,zb]
 refine br ?_ ?_
 ·intro h2
  simp only [ZZ,WW,Ze,reduceCtorEq,zd,ze,za,zf,zb]
  rw [if_neg (of_decide_eq_false h),if_pos (of_decide_eq_true h2)]
 intro h2
 simp only [ZZ,WW,Ze,reduceCtorEq,zd,ze,za,zf,zb]
 rw [if_neg (of_decide_eq_false h),if_neg (of_decide_eq_false h2)]
theorem quC (l:List Int) (hl:l.length≤1000000):PCall Tryz.prog E 59 [ints l] (·=int (qbw l)):=by
 refine qaf mixed Tryz.func59 qmr ?_
 simp only [a0,l0,OS.ao,zl,zt,zk,zp,zo,zq,zu,zd,zj,zm,qiw,qik,ZZ,WW,Ze,reduceCtorEq,zd,ze,za,zf,zb]
 simp only [ints,ZZ,WW,Ze,reduceCtorEq,zd,ze,za,zf,zb]
 generalize hes:l.map (fun x=>[PV.int IntKind.i64 x])=es
 have hln:es.length=l.length:=by rw [← hes];simp
 refine qag (fun n fr L=>∃ (k:Nat),k≤l.length∧n=l.length - k∧(qbw l=qbw (l.drop k))∧fr=[.p (.sl 1 es),oo,.p (int 0),.p (int 0),oo,oo,.p (.sl 1 es),.p (int (es.length:Nat)),.p (int (k:Nat)),oo,oo,oo,oo,oo,oo,oo,oo,oo]∧L=[]) (l.length) _ [] zF_ (by (simp only [ZZ,WW,Ze,reduceCtorEq,zd,ze,za,zf,zb];try trivial)) ⟨0,by omega,by omega,rfl,rfl,rfl⟩ ?_
 rintro n fr L ⟨k,hk,rfl,hF,rfl,rfl⟩
 simp only [qgj,ZZ,WW,Ze,reduceCtorEq,zd,ze,za,zf,zb]
 refine br ?_ ?_
 ·intro h
  have hlt:k < l.length:=by have:=of_decide_eq_true h;omega
  obtain ⟨x,hx⟩:∃ x,l[k]?=some x:=⟨_,List.getElem?_eq_getElem hlt⟩
  have hg:es.getD k []=[.int .i64 x]:=by rw [← hes];exact qcw hx
  have hd:=qkq l k x hx
  simp only [ZZ,WW,Ze,reduceCtorEq,zd,ze,za,zf,zb,hg]
  ((repeat' (with_reducible apply And.intro))<;>try ((exact sc_)))
  refine br ?_ ?_
  ·intro h2
   have h3:¬ x=0:=by simpa using h2
   simp only [ZZ,WW,Ze,reduceCtorEq,zd,ze,za,zf,zb]
   rw [hF,hd,if_neg h3]
  ·intro h2
   have h3:x=0:=by simpa using h2
   rw [if_pos h3] at hd
   simp only [ZZ,WW,Ze,reduceCtorEq,zd,ze,za,zf,zb]
   ((repeat' (with_reducible apply And.intro))<;>try ((exact sc_)))
   refine qae (l.length - (k+1)) _ [] (by omega) (by (simp only [ZZ,WW,Ze,reduceCtorEq,zd,ze,za,zf,zb];try trivial)) (by (simp only [ZZ,WW,Ze,reduceCtorEq,zd,ze,za,zf,zb];try trivial)) ⟨k+1,by omega,rfl,by rw [hF,hd],rfl,rfl⟩
 ·intro h
  have hge:l.length≤k:=by have:=of_decide_eq_false h;omega
  simp only [ZZ,WW,Ze,reduceCtorEq,zd,ze,za,zf,zb]
  rw [hF,List.drop_eq_nil_of_le (by omega)]
  rfl
theorem qiT (s t:List UInt8):PCall Tryz.prog E 60 [.str s,.str t] (·=int (Lib.compareBytes s t)):=
 qbz rfl rfl fun w _=>(Any.strings_Compare Tryz.layCompare ⟨s.toArray⟩ ⟨t.toArray⟩ w).mono fun e w' h=>⟨h.1,by rw [h.2];exact Grow.refl _ _⟩
end
end Go.Proofs.YtjgdjinhkgjpeaaGreatDoor
namespace Go.Proofs.YtjgdjinhkgjpeaaGreatDoor
theorem qoF:∀ (kv:List (List UInt8×PV)) (s t:List UInt8) (v:PV),mpF (mpS kv s v) t=if s=t then some v else mpF kv t
 |[],s,t,v=>by simp [mpS,mpF]
 |p :: r,s,t,v=>by
  simp only [mpS]
  split
  ·rename_i h
   by_cases hs:s=t
   ·simp [mpF,hs]
   ·simp [mpF,hs,h]
  ·rename_i h
   simp only [mpF,qoF r s t v]
   by_cases hp:p.1=t
   ·have:¬ s=t:=fun e=>h (hp.trans e.symm)
    simp [hp,this]
   ·simp [hp]
end Go.Proofs.YtjgdjinhkgjpeaaGreatDoor
namespace Go.Proofs.YtjgdjinhkgjpeaaGreatDoor
open Go.RowKit
section
variable {E:Envt}
end
section
variable {E:Envt}
theorem qhj (s:List UInt8) (n:Nat) (hn:n≤1000000) (hs:s.length≤1000000):PCall Tryz.prog E 125 [.str s,int n] (·=.str (Lib.repeatL s n)):=
 qbz rfl rfl fun w _=>(qpx ⟨s.toArray⟩ n w (by omega) (by rw [show (⟨s.toArray⟩:ByteArray).size=s.length from by simp [ByteArray.size]];exact Nat.le_trans (Nat.mul_le_mul hs hn) (by decide))).mono fun e w' h=>⟨h.1,qcL h.2⟩
end
end Go.Proofs.YtjgdjinhkgjpeaaGreatDoor
namespace Go.Proofs.YtjgdjinhkgjpeaaGreatDoor
open Nat renaming reduceAdd→zd,reduceEqDiff→zb,reduceLeDiff→za,reduceMul→ze
section
variable {E:Envt}
abbrev Par:=List UInt8×Int×Int
def t1:List UInt8:=[108,101,103,97,108,32,97,100,118,105,99,101]
def t2:List UInt8:=[112,114,105,118,105,108,101,103,101,100,32,97,110,100,32,99,111,110,102,105,100,101,110,116,105,97,108]
def p0:List Par:=[([97,105,100,64,111,117,114,115,46,100,101],1,3),([97,110,110,64,102,105,114,109,46,100,101],1,2),([108,97,119,64,111,117,114,115,46,100,101],1,1)]
def d0 (y:Int):List Par:=[([102,105,114,109,46,100,101],1,4),([120,46,102,105,114,109,46,100,101],y,2),([111,117,114,115,46,100,101],1,4)]
def tS:List (List UInt8):=[[],[90,101,100],[122,101,100],[97],[122,255],Lib.repeatL [122] 60,Lib.repeatL [122] 61]
end
section
variable {E:Envt}
end
section
variable {E:Envt}
end
section
variable {E:Envt}
end
def qeF:IC:=(.seq (.reg [qO 4 (.mov (.c (.bool false)))]) (.seq (.reg [qM 5 0,qM 6 1,qO 7 (.call 111 [.t 5,.t 6]),qO 8 (.bin .geq (.t 7) (.c (.int .i64 0))),qM 4 8]) .ret))
def qet:List IRes:=[.t 4]
theorem qhK:chkF Tryz.prog Tryz.f104 qeF qet 9=true:=by kernel_rfl
section
theorem qkN (s t:List UInt8) (hs:s.length≤1000000000):PCall Tryz.prog E0 104 [.str s,.str t] (·=.bool (decide (0≤Lib.index s t))):=by
 refine qaf mixed Tryz.func104 qhK ?_
 simp only [a0,l0,OS.ao,List.map_cons,List.map_nil,List.length_cons,List.length_nil,List.cons_append,List.nil_append,Nat.reduceSub,zd,List.replicate_succ,List.replicate_zero,qeF,qet,ZZ,WW,Ze,reduceCtorEq,zd,ze,za,Nat.reduceLT,zb]
 refine use1 (qt8 s t hs) rfl (.inl rfl) ?_
 simp only [ZZ,WW,Ze,reduceCtorEq,zd,ze,za,Nat.reduceLT,zb]
end
end Go.Proofs.YtjgdjinhkgjpeaaGreatDoor
namespace Go.Proofs.YtjgdjinhkgjpeaaGreatDoor
open Nat renaming reduceAdd→zd,reduceEqDiff→zb,reduceLT→zf,reduceLeDiff→za,reduceMul→ze,reduceSub→zu
open List renaming cons_append→zo,length_cons→zk,length_nil→zp,map_cons→zl,map_nil→zt,nil_append→zq,replicate_succ→zj,replicate_zero→zm
open Bool renaming not_eq_false'→yp,not_eq_true'→zW
open Go.RowKit
def qbh:IC:=(.seq (.reg [qO 4 (.mov (.c (.bool false)))]) (.seq (.reg [qM 5 0,qO 6 (.sln (.t 5)),qM 7 1,qO 8 (.sln (.t 7)),qO 9 (.bin .geq (.t 6) (.t 8)),qM 10 9,⟨some 11,.mov (.t 0),(some (10,true))⟩,⟨some 12,.mov (.t 1),(some (10,true))⟩,⟨some 13,.sln (.t 12),(some (10,true))⟩,⟨some 14,.ssl (.t 11) none (some (.t 13)),(some (10,true))⟩,⟨some 15,.mov (.t 1),(some (10,true))⟩,⟨some 16,.bin .eql (.t 14) (.t 15),(some (10,true))⟩,qO 17 (.pick (.t 10) (.t 16) (.c (.bool false))),qM 4 17]) .ret))
def qbb:List IRes:=[.t 4]
theorem qdc:chkF Tryz.prog Tryz.f115 qbh qbb 18=true:=by kernel_rfl
def qbi:IC:=(.seq (.reg [qO 4 (.mov (.c (.str []))),qO 5 (.mov (.c (.bool false)))]) (.seq (.seq (.reg [qM 6 0,qM 7 1,qO 8 (.call 146 [.t 6,.t 7]),qO 9 (.not (.t 8))]) (.cond (.t 9) (.seq (.reg [qM 10 0,qM 4 10,qO 5 (.mov (.c (.bool false)))]) .ret) .skip)) (.seq (.reg [qM 11 0,qM 12 0,qO 13 (.sln (.t 12)),qM 14 1,qO 15 (.sln (.t 14)),qO 16 (.bin .sub (.t 13) (.t 15)),qO 17 (.ssl (.t 11) none (some (.t 16))),qM 4 17,qO 5 (.mov (.c (.bool true)))]) .ret)))
def qbc:List IRes:=[.t 4,.t 5]
theorem qdd:chkF Tryz.prog Tryz.f105 qbi qbc 18=true:=by kernel_rfl
def qeg:IC:=(.seq (.reg [qO 4 (.mov (.c (.str []))),qO 5 (.mov (.c (.bool false)))]) (.seq (.reg [qM 6 0,qM 7 1,qO 8 (.call 105 [.t 6,.t 7]),qO 9 (.ext 0 (.t 8)),qO 10 (.ext 1 (.t 8)),qM 4 9,qM 5 10]) .ret))
def qd4:List IRes:=[.t 4,.t 5]
theorem qhm:chkF Tryz.prog Tryz.f67 qeg qd4 11=true:=by kernel_rfl
def qbj:IC:=(.seq (.reg [qO 4 (.mov (.c (.str []))),qO 5 (.mov (.c (.bool false)))]) (.seq (.seq (.reg [qM 6 0,qM 7 1,qO 8 (.call 115 [.t 6,.t 7]),qO 9 (.not (.t 8))]) (.cond (.t 9) (.seq (.reg [qM 10 0,qM 4 10,qO 5 (.mov (.c (.bool false)))]) .ret) .skip)) (.seq (.reg [qM 11 0,qM 12 1,qO 13 (.sln (.t 12)),qO 14 (.ssl (.t 11) (some (.t 13)) none),qM 4 14,qO 5 (.mov (.c (.bool true)))]) .ret)))
def qbd:List IRes:=[.t 4,.t 5]
theorem qde:chkF Tryz.prog Tryz.f147 qbj qbd 15=true:=by kernel_rfl
def qeh:IC:=(.seq (.reg [qO 4 (.mov (.c (.str []))),qO 5 (.mov (.c (.bool false)))]) (.seq (.reg [qM 6 0,qM 7 1,qO 8 (.call 147 [.t 6,.t 7]),qO 9 (.ext 0 (.t 8)),qO 10 (.ext 1 (.t 8)),qM 4 9,qM 5 10]) .ret))
def qd5:List IRes:=[.t 4,.t 5]
theorem qhn:chkF Tryz.prog Tryz.f106 qeh qd5 11=true:=by kernel_rfl
def qa4:IC:=(.seq (.reg [qO 4 (.mov (.c (.str [])))]) (.seq (.seq (.reg [qM 5 0,qM 6 1,qO 7 (.call 115 [.t 5,.t 6])]) (.cond (.t 7) (.seq (.reg [qM 8 0,qM 9 1,qO 10 (.sln (.t 9)),qO 11 (.ssl (.t 8) (some (.t 10)) none),qM 4 11]) .ret) .skip)) (.seq (.reg [qM 12 0,qM 4 12]) .ret)))
def qa2:List IRes:=[.t 4]
theorem qcO:chkF Tryz.prog Tryz.f114 qa4 qa2 13=true:=by kernel_rfl
def qdM:IC:=(.seq (.reg [qO 4 (.mov (.c (.str [])))]) (.seq (.reg [qM 5 0,qM 6 1,qO 7 (.call 114 [.t 5,.t 6]),qM 4 7]) .ret))
def qdF:List IRes:=[.t 4]
theorem qgT:chkF Tryz.prog Tryz.f73 qdM qdF 8=true:=by kernel_rfl
def qiy:IC:=(.seq (.reg [qO 2 (.mov (.c (.bool false)))]) (.seq (.reg [qM 3 0,qO 4 (.call 158 [.t 3,.c (.bool false)]),qM 5 4,⟨some 6,.mov (.t 0),(some (5,true))⟩,⟨some 7,.call 74 [.t 6,.c (.str [32])],(some (5,true))⟩,⟨some 8,.not (.t 7),(some (5,true))⟩,qO 9 (.pick (.t 5) (.t 8) (.c (.bool false))),qM 10 9,⟨some 11,.mov (.t 0),(some (10,true))⟩,⟨some 12,.call 159 [.t 11,.c (.str [32])],(some (10,true))⟩,⟨some 13,.not (.t 12),(some (10,true))⟩,qO 14 (.pick (.t 10) (.t 13) (.c (.bool false))),qM 15 14,⟨some 16,.mov (.t 0),(some (15,true))⟩,⟨some 17,.call 104 [.t 16,.c (.str [32,32])],(some (15,true))⟩,⟨some 18,.not (.t 17),(some (15,true))⟩,qO 19 (.pick (.t 15) (.t 18) (.c (.bool false))),qM 2 19]) .ret))
def qim:List IRes:=[.t 2]
theorem qmt:chkF Tryz.prog Tryz.f117 qiy qim 20=true:=by kernel_rfl
section
variable {E:Envt}
def qeR (s p:List UInt8):List UInt8×Bool:=if sufE s p=true then (s.take (s.length - p.length),true) else (s,false)
def qaF (s p:List UInt8):List UInt8×Bool:=if Lib.hasPrefix s p=true then (s.drop p.length,true) else (s,false)
theorem qmQ (s p:List UInt8) (hs:s.length≤1000000000) (hp:p.length≤1000000000):PCall Tryz.prog E 105 [.str s,.str p] (·=.tup [.str (qeR s p).1,.bool (qeR s p).2]):=by
 refine qaf mixed Tryz.func105 qdd ?_
 simp only [a0,l0,OS.ao,zl,zt,zk,zp,zo,zq,zu,zd,zj,zm,qbi,qbc,ZZ,WW,Ze,reduceCtorEq,zd,ze,za,zf,zb]
 refine use1 (qia s p (by omega)) rfl (.inl rfl) ?_
 simp only [ZZ,WW,Ze,reduceCtorEq,zd,ze,za,zf,zb]
 unfold qeR
 refine br ?_ ?_
 ·intro h
  have h:sufE s p=false:=by rwa [zW] at h
  simp only [ZZ,WW,Ze,reduceCtorEq,zd,ze,za,zf,zb]
  rw [if_neg (by simp [h])]
 ·intro h
  have h:sufE s p=true:=by rwa [yp] at h
  have hb:p.length≤s.length:=by
   have:=of_decide_eq_true (Bool.and_eq_true_iff.1 h).1
   omega
  have e:((s.length:Int) - p.length).toNat=s.length - p.length:=by omega
  simp only [ZZ,WW,Ze,reduceCtorEq,zd,ze,za,zf,zb,e]
  refine ⟨qaj (by omega) (by omega),⟨by omega,by omega⟩,?_⟩
  rw [if_pos h]
theorem qob (s p:List UInt8) (hs:s.length≤1000000000) (hp:p.length≤1000000000):PCall Tryz.prog E 67 [.str s,.str p] (·=.tup [.str (qeR s p).1,.bool (qeR s p).2]):=by
 refine qaf mixed Tryz.func67 qhm ?_
 simp only [a0,l0,OS.ao,zl,zt,zk,zp,zo,zq,zu,zd,zj,zm,qeg,qd4,ZZ,WW,Ze,reduceCtorEq,zd,ze,za,zf,zb]
 refine use1 (qmQ s p hs hp) rfl (.inl rfl) ?_
 simp only [ZZ,WW,Ze,reduceCtorEq,zd,ze,za,zf,zb]
theorem qiD {s p:List UInt8} (h:Lib.hasPrefix s p=true):p.length≤s.length:=by
 unfold Lib.hasPrefix at h
 simp at h
 first|exact (List.IsPrefix.length_le (List.isPrefixOf_iff_prefix.1 h))|exact h.length_le|omega
theorem qvy (s p:List UInt8):(decide ((p.length:Int)≤s.length) && decide (s.take p.length=p))=Lib.hasPrefix s p:=by
 rw [Bool.eq_iff_iff]
 unfold Lib.hasPrefix
 rw [List.isPrefixOf_iff_prefix,List.prefix_iff_eq_take]
 simp only [Bool.and_eq_true,decide_eq_true_eq]
 constructor
 ·rintro ⟨_,h⟩;exact h.symm
 ·intro h
  have:=congrArg List.length h
  simp at this
  exact ⟨by omega,h.symm⟩
theorem qib (s p:List UInt8) (hs:s.length≤1000000000):PCall Tryz.prog E 115 [.str s,.str p] (·=.bool (Lib.hasPrefix s p)):=by
 rw [← qvy]
 refine qaf mixed Tryz.func115 qdc ?_
 simp only [a0,l0,OS.ao,zl,zt,zk,zp,zo,zq,zu,zd,zj,zm,qbh,qbb,ZZ,WW,Ze,reduceCtorEq,zd,ze,za,zf,zb]
 ((repeat' (with_reducible apply And.intro))<;>try ((exact sc_)))
theorem qmR (s p:List UInt8) (hs:s.length≤1000000000) (hp:p.length≤1000000000):PCall Tryz.prog E 147 [.str s,.str p] (·=.tup [.str (qaF s p).1,.bool (qaF s p).2]):=by
 refine qaf mixed Tryz.func147 qde ?_
 simp only [a0,l0,OS.ao,zl,zt,zk,zp,zo,zq,zu,zd,zj,zm,qbj,qbd,ZZ,WW,Ze,reduceCtorEq,zd,ze,za,zf,zb]
 refine use1 (qib s p hs) rfl (.inl rfl) ?_
 simp only [ZZ,WW,Ze,reduceCtorEq,zd,ze,za,zf,zb]
 unfold qaF
 refine br ?_ ?_
 ·intro h
  have h:Lib.hasPrefix s p=false:=by rwa [zW] at h
  simp only [ZZ,WW,Ze,reduceCtorEq,zd,ze,za,zf,zb]
  rw [if_neg (by simp [h])]
 ·intro h
  have h:Lib.hasPrefix s p=true:=by rwa [yp] at h
  have hb:=qiD h
  simp only [ZZ,WW,Ze,reduceCtorEq,zd,ze,za,zf,zb]
  refine ⟨⟨by omega,by omega⟩,?_⟩
  rw [if_pos h]
  try simp
theorem qoc (s p:List UInt8) (hs:s.length≤1000000000) (hp:p.length≤1000000000):PCall Tryz.prog E 106 [.str s,.str p] (·=.tup [.str (qaF s p).1,.bool (qaF s p).2]):=by
 refine qaf mixed Tryz.func106 qhn ?_
 simp only [a0,l0,OS.ao,zl,zt,zk,zp,zo,zq,zu,zd,zj,zm,qeh,qd5,ZZ,WW,Ze,reduceCtorEq,zd,ze,za,zf,zb]
 refine use1 (qmR s p hs hp) rfl (.inl rfl) ?_
 simp only [ZZ,WW,Ze,reduceCtorEq,zd,ze,za,zf,zb]
theorem qk7 (s p:List UInt8) (hs:s.length≤1000000000) (hp:p.length≤1000000000):PCall Tryz.prog E 114 [.str s,.str p] (·=.str (qaF s p).1):=by
 refine qaf mixed Tryz.func114 qcO ?_
 simp only [a0,l0,OS.ao,zl,zt,zk,zp,zo,zq,zu,zd,zj,zm,qa4,qa2,ZZ,WW,Ze,reduceCtorEq,zd,ze,za,zf,zb]
 refine use1 (qib s p hs) rfl (.inl rfl) ?_
 simp only [ZZ,WW,Ze,reduceCtorEq,zd,ze,za,zf,zb]
 unfold qaF
 refine br ?_ ?_
 ·intro h
  have hb:=qiD h
  simp only [ZZ,WW,Ze,reduceCtorEq,zd,ze,za,zf,zb]
  refine ⟨⟨by omega,by omega⟩,?_⟩
  rw [if_pos h]
  try simp
 ·intro h
  simp only [ZZ,WW,Ze,reduceCtorEq,zd,ze,za,zf,zb]
  rw [if_neg (by simp [h])]
theorem qmJ (s p:List UInt8) (hs:s.length≤1000000000) (hp:p.length≤1000000000):PCall Tryz.prog E 73 [.str s,.str p] (·=.str (qaF s p).1):=by
 refine qaf mixed Tryz.func73 qgT ?_
 simp only [a0,l0,OS.ao,zl,zt,zk,zp,zo,zq,zu,zd,zj,zm,qdM,qdF,ZZ,WW,Ze,reduceCtorEq,zd,ze,za,zf,zb]
 refine use1 (qk7 s p hs hp) rfl (.inl rfl) ?_
 simp only [ZZ,WW,Ze,reduceCtorEq,zd,ze,za,zf,zb]
end
def qcD (s:List UInt8):Bool:=((visE s false && !Lib.hasPrefix s [32]) && !sufE s [32]) && !decide (0≤Lib.index s [32,32])
theorem qqc (s:List UInt8) (hs:s.length≤1000000000):PCall Tryz.prog E0 117 [.str s] (·=.bool (qcD s)):=by
 refine qaf mixed Tryz.func117 qmt ?_
 simp only [a0,l0,OS.ao,zl,zt,zk,zp,zo,zq,zu,zd,zj,zm,qiy,qim,ZZ,WW,Ze,reduceCtorEq,zd,ze,za,zf,zb]
 refine use1 (qqJ s false hs) rfl (.inl rfl) ?_
 simp only [ZZ,WW,Ze,reduceCtorEq,zd,ze,za,zf,zb]
 refine useG (fun _=>qb5 s [32]) rfl (.inl rfl) ?_
 simp only [ZZ,WW,Ze,reduceCtorEq,zd,ze,za,zf,zb]
 refine useG (fun _=>qn9 s [32] (by omega)) rfl (.inl rfl) ?_
 simp only [ZZ,WW,Ze,reduceCtorEq,zd,ze,za,zf,zb]
 refine useG (fun _=>qkN s [32,32] hs) rfl (.inl rfl) ?_
 simp only [ZZ,WW,Ze,reduceCtorEq,zd,ze,za,zf,zb]
 ((repeat' (with_reducible apply And.intro))<;>try ((exact sc_)))
end Go.Proofs.YtjgdjinhkgjpeaaGreatDoor
