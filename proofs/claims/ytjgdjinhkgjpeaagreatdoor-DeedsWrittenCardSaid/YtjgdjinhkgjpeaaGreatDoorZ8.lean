import Derived.Test.YtjgdjinhkgjpeaaGreatDoorZ6
import Derived.Lib.Join
import Derived.Test.YtjgdjinhkgjpeaaGreatDoorZ7
import Derived.Lib.ItoaLen
import Derived.Test.YtjgdjinhkgjpeaaGreatDoorZ4
import Derived.Test.YtjgdjinhkgjpeaaGreatDoorZ5
import Derived.Shelf.RegionOpenPlain
import Derived.WalkKit
import Derived.Deep.RegionLaw
import Derived.Lib.Walk
import Derived.Lib.SliceRun
import Derived.Lib.IndexMore
import Derived.Lib.ValidLaws
import Derived.Test.YtjgdjinhkgjpeaaGreatDoorLayDecode
import Derived.Lib.LastIndexByte
set_option linter.unusedVariables false
set_option linter.unusedSimpArgs false
set_option linter.defProp false
namespace Go.Proofs.YtjgdjinhkgjpeaaGreatDoor
structure Dd where
 site:List UInt8
 no:Int
 tm:Int
 kind:Int
 id:List UInt8
 field:List UInt8
 value:List UInt8
 frm:Int
 upto:Int
 osite:List UInt8
 ono:Int
 sum:List UInt8
 deriving DecidableEq
instance:Inhabited Dd:=⟨⟨[],0,0,0,[],[],[],0,0,[],0,[]⟩⟩
def dd0:Dd:=⟨[],0,0,0,[],[],[],0,0,[],0,[]⟩
def ddC (d:Dd):List PV:=[.str d.site,int d.no,int d.tm,int d.kind,.str d.id,.str d.field,.str d.value,int d.frm,int d.upto,.str d.osite,int d.ono,.str d.sum]
def ddE (l:List Dd):List (List PV):=l.map ddC
theorem qac (l:List Dd):(ddE l).length=l.length:=by simp [ddE]
theorem qbC {l:List Dd} {k:Nat} {d:Dd} (h:l[k]?=some d):(ddE l).getD k []=ddC d:=qcw h
theorem qr1 (l m:List Dd):ddE l++ddE m=ddE (l++m):=by simp [ddE]
theorem qoV:ddE []=[]:=rfl
theorem qwp (d:Dd):[ddC d]=ddE [d]:=rfl
structure DdB (d:Dd):Prop where
 b1:d.site.length≤200000
 b2:d.id.length≤200000
 b3:d.field.length≤200000
 b4:d.value.length≤200000
 b5:d.osite.length≤200000
 b6:d.sum.length≤200000
 c1:-1000000000000≤d.no∧d.no≤1000000000000
 c2:-1000000000000≤d.tm∧d.tm≤1000000000000
 c3:-1000000000000≤d.kind∧d.kind≤1000000000000
 c4:-1000000000000≤d.frm∧d.frm≤1000000000000
 c5:-1000000000000≤d.upto∧d.upto≤1000000000000
 c6:-1000000000000≤d.ono∧d.ono≤1000000000000
def DdsB (l:List Dd):Prop:=∀ d∈l,DdB d
theorem DdsB.get {l:List Dd} (h:DdsB l) {k:Nat} {d:Dd} (hd:l[k]?=some d):DdB d:=h d (List.mem_of_getElem? hd)
theorem DdsB.app {l m:List Dd} (h:DdsB l) (k:DdsB m):DdsB (l++m):=fun d hd=>(List.mem_append.1 hd).elim (h d) (k d)
theorem DdsB.nil:DdsB []:=fun _ h=>by cases h
def stC (s:List UInt8) (n:Int) (t:List UInt8) (m:Int):Int:=qbw [Lib.compareBytes s t,sgnC n m]
def wrdF (d:Dd):List (List UInt8):=[qff d.id,qff d.field,quoF d.value,Lib.itoa d.frm,Lib.itoa d.upto,qff d.osite,Lib.itoa d.ono]
def sumF (before:List UInt8) (d:Dd):List UInt8:=digF (Lib.join ([before,d.site,Lib.itoa d.no,Lib.itoa d.tm,Lib.itoa d.kind]++wrdF d) [32])
def qdA (d:Dd):Bool:=decide (d.kind=3) || decide (d.kind=6)
def valB (d:Dd):Bool:=(decide (d.kind=1) || decide (d.kind=2)) || decide (d.kind=5)
def qhG (d:Dd):Bool:=(((((qdA d && !decide (d.id=[])) || (!decide (d.kind=1) && !decide (d.field=[]))) || (!valB d && !decide (d.value=[]))) || (!decide (d.kind=4) && !(decide (d.frm=0) && decide (d.upto=0)))) || (!qdA d && !(decide (d.osite=[]) && decide (d.ono=0))))
def qed (d:Dd):Bool:=
 if d.kind=1 then decide ((d.value.length:Int)≤60) && qcD d.value else if d.kind=2 then keyB d.value else if d.kind=5 then inE d.value.length 1 200 && qcD d.value
 else if d.kind=4 then (decide (0≤d.frm) && decide (d.frm < d.upto)) && decide (d.upto≤20000) else true
def qjJ (d:Dd):Int:=
 if qhG d=true then 3 else if qdA d=true then 0
 else if (!keyB d.id || (decide (d.kind=1) && !keyB d.field))=true then 5 else if qed d=true then 0 else 3
def oneF (d:Dd):Int:=if inE d.tm 0 5761439=false then 1 else if inE d.kind 1 6=false then 4 else qjJ d
def atF (p:Option Dd) (d:Dd):Int:=
 if keyB d.site=false then 5
 else if (match p with|some q=>decide (0≤stC q.site q.no d.site d.no)|none=>false)=true then 7
 else if ¬ d.no=(match p with|some q=>if q.site=d.site then q.no+1 else 1|none=>1) then 1
 else if ¬ oneF d=0 then oneF d
 else if d.sum=sumF (match p with|some q=>if q.site=d.site then q.sum else []|none=>[]) d then 0 else 15
def qiq (l:List Dd) (k:Nat):Option Dd:=if k=0 then none else l[k - 1]?
def chkI (l:List Dd) (k:Nat):Int:=match l[k]? with|some d=>atF (qiq l k) d|none=>0
def qkX (d x:Dd):Bool:=
 if d.kind=3 then decide (x.kind=2) || decide (x.kind=4)
 else ((((decide (x.kind=1) || decide (x.kind=5)) || decide (x.kind=3)) && decide (x.site=d.site)) && decide (x.no < d.no))
def qeV (l:List Dd) (s:List UInt8) (n:Int):Option Dd:=l.find? fun d=>decide (d.site=s) && decide (d.no=n)
def ofX (d:Dd):Option Dd→Int
 |some x=>if qkX d x=true then 0 else 16
 |none=>8
def ofF (l:List Dd) (d:Dd):Int:=if qdA d=true then ofX d (qeV l d.osite d.ono) else 0
def ofI (l:List Dd) (k:Nat):Int:=match l[k]? with|some d=>ofF l d|none=>0
def qjB (g:Nat→Int):Nat→Nat→Int×Int
 |0,_=>(0,0)
 |n+1,i=>if g i=0 then qjB g n (i+1) else ((i:Int),g i)
theorem qkb (g:Nat→Int):∀ (k n i:Nat),(∀ j,i≤j→j < i+k→g j=0)→qjB g (k+n) i=qjB g n (i+k)
 |0,n,i,_=>by simp
 |k+1,n,i,h=>by
  rw [show k+1+n=(k+n)+1 from by omega,qjB,if_pos (h i (Nat.le_refl _) (by omega)),qkb g k n (i+1) (fun j h1 h2=>h j (by omega) (by omega)),show i+1+k=i+(k+1) from by omega]
theorem qh9 {g:Nat→Int} {k N:Nat} (hk:k < N) (h:∀ j,j < k→g j=0) (hg:¬ g k=0):qjB g N 0=((k:Int),g k):=by
 obtain ⟨m,rfl⟩:∃ m,N=k+(m+1):=⟨N - k - 1,by omega⟩
 rw [qkb g k (m+1) 0 (fun j _ h2=>h j (by omega)),Nat.zero_add,qjB,if_neg hg]
theorem qh8 {g:Nat→Int} {N:Nat} (h:∀ j,j < N→g j=0):qjB g N 0=(0,0):=by
 rw [show N=N+0 from rfl,qkb g N 0 0 (fun j _ h2=>h j (by omega))]
 rfl
theorem qgw {g:Nat→Int}:∀ {n i:Nat},(qjB g n i).2=0→∀ j,i≤j→j < i+n→g j=0
 |0,i,_,j,h1,h2=>by omega
 |n+1,i,h,j,h1,h2=>by
  rw [qjB] at h
  split at h
  ·rename_i hg
   rcases Nat.eq_or_lt_of_le h1 with rfl|h3
   ·exact hg
   ·exact qgw h j h3 (by omega)
  ·rename_i hg
   exact absurd h hg
def ckdF (l:List Dd):Int×Int:=
 if 2000 < l.length then (0,2) else if (qjB (chkI l) l.length 0).2=0 then qjB (ofI l) l.length 0 else qjB (chkI l) l.length 0
end Go.Proofs.YtjgdjinhkgjpeaaGreatDoor
namespace Go.Proofs.YtjgdjinhkgjpeaaGreatDoor
open Nat renaming reduceAdd→zd,reduceEqDiff→zb,reduceLT→zf,reduceLeDiff→za,reduceMul→ze,reduceSub→zu
open List renaming cons_append→zo,length_cons→zk,length_nil→zp,map_cons→zl,map_nil→zt,nil_append→zq,replicate_succ→zj,replicate_zero→zm,take_of_length_le→zP
open Go.RowKit
theorem qf1 (a b:List UInt8):bytC (a++b)=bytC a++bytC b:=by simp [bytC]
theorem qp4 (l:List UInt8):qg0 (bytC l)=some l:=by
 have:=qji l
 rwa [List.map_map] at this
section
variable {E:Envt}
theorem qt5 (s:List UInt8) (hs:s.length≤1000000000):PCall Tryz.prog E 55 [.str s] (·=.str (quoF s)):=by
 refine qaf mixed Tryz.func55 qkB ?_
 simp only [a0,l0,OS.ao,zl,zt,zk,zp,zo,zq,zu,zd,zj,zm,qgP,qgC,ZZ,WW,Ze,reduceCtorEq,zd,ze,za,zf,zb]
 refine qwT 1000 [] 34 (.inl ⟨rfl,rfl⟩) (by simp) (by simp) ?_
 simp only [ZZ,WW,Ze,reduceCtorEq,zd,ze,za,zf,zb,qfS]
 refine qag (fun n fr L=>∃ (k:Nat) (q:List UInt8),k≤s.length∧n=s.length - k∧(q=34 :: (s.take k).flatMap quB)∧fr=[.p (.str s),oo,oo,.adr (.l 3) 0,oo,oo,oo,.p (int (s.length:Nat)),.p (int (k:Nat)),oo,oo,oo,oo,oo,oo,oo,oo,oo,oo]∧L=[(.l 3,.box [.adr (.l 3) 0,.row (.l 1000)] tSb),(.l 1000,.row (bytC q) tU8 1 true)]) (s.length) _ _ (by (simp only [ZZ,WW,Ze,reduceCtorEq,zd,ze,za,zf,zb];try trivial)) (by (simp only [ZZ,WW,Ze,reduceCtorEq,zd,ze,za,zf,zb];try trivial)) ⟨0,[34],by omega,by omega,by simp,rfl,rfl⟩ ?_
 rintro n fr L ⟨k,q,hk,rfl,hq,rfl,rfl⟩
 simp only [qe6,ZZ,WW,Ze,reduceCtorEq,zd,ze,za,zf,zb]
 have hql:q.length≤4 * s.length+1:=by
  have h1:=qot (s.take k)
  have h2:(s.take k).length≤s.length:=by simp;omega
  rw [hq]
  simp only [zk]
  omega
 refine br ?_ ?_
 ·intro h
  have hlt:k < s.length:=by have:=of_decide_eq_true h;omega
  have hn:=qpy hlt
  simp only [ZZ,WW,Ze,reduceCtorEq,zd,ze,za,zf,zb]
  ((repeat' (with_reducible apply And.intro))<;>try ((exact sc_)))
  refine use1 (qni (s.getD k 0)) rfl (.inl rfl) ?_
  have hcl:=qou (s.getD k 0)
  simp only [ZZ,WW,Ze,reduceCtorEq,zd,ze,za,zf,zb]
  refine qqi 1000 q (quB (s.getD k 0)) (.inr ⟨rfl,rfl⟩) (by simp) (by omega) ?_
  simp only [ZZ,WW,Ze,reduceCtorEq,zd,ze,za,zf,zb,qfS]
  ((repeat' (with_reducible apply And.intro))<;>try ((exact sc_)))
  refine qae (s.length - (k+1)) _ _ (by omega) (by (simp only [ZZ,WW,Ze,reduceCtorEq,zd,ze,za,zf,zb];try trivial)) (by (simp only [ZZ,WW,Ze,reduceCtorEq,zd,ze,za,zf,zb];try trivial)) ⟨k+1,q++quB (s.getD k 0),by omega,rfl,by rw [hn,hq];rfl,rfl,rfl⟩
 ·intro h
  have hge:s.length≤k:=by have:=of_decide_eq_false h;omega
  rw [zP hge] at hq
  simp only [ZZ,WW,Ze,reduceCtorEq,zd,ze,za,zf,zb]
  refine qwT 1000 q 34 (.inr ⟨rfl,rfl⟩) (by simp) (by omega) ?_
  simp only [ZZ,WW,Ze,reduceCtorEq,zd,ze,za,zf,zb,qfS]
  refine qqh 1000 (q++[34]) (.inr ⟨rfl,rfl⟩) (by simp) ?_
  simp only [ZZ,WW,Ze,reduceCtorEq,zd,ze,za,zf,zb]
  rw [hq]
  rfl
theorem qkL (s:List UInt8) (hs:s.length≤1000000000):PCall Tryz.prog E 32 [.str s] (·=.str (quoF s)):=by
 refine qaf mixed Tryz.func32 qhO ?_
 simp only [a0,l0,OS.ao,zl,zt,zk,zp,zo,zq,zu,zd,zj,zm,qeK,qex,ZZ,WW,Ze,reduceCtorEq,zd,ze,za,zf,zb]
 refine qag (fun n fr L=>∃ (k:Nat) (q:List UInt8),k≤s.length∧n=s.length - k∧(q=34 :: (s.take k).flatMap quB)∧fr=[.p (.str s),oo,oo,.row (.l 6),oo,oo,oo,oo,.p (int (s.length:Nat)),.p (int (k:Nat)),oo,oo,oo,oo,oo,oo,oo,oo,oo,oo,oo,oo,oo,oo,oo,oo,oo,oo,oo,oo,oo,oo,oo,oo,oo,oo,oo,oo,oo,oo,oo,oo,oo,oo,oo,oo,oo,oo,oo,oo,oo,oo,oo,oo,oo,oo]∧L=[(.l 6,.row (bytC q) tU8 1 true)]) (s.length) _ _ (by (simp only [ZZ,WW,Ze,reduceCtorEq,zd,ze,za,zf,zb];try trivial)) (by (simp only [ZZ,WW,Ze,reduceCtorEq,zd,ze,za,zf,zb];try trivial)) ⟨0,[34],by omega,by omega,by simp,rfl,rfl⟩ ?_
 rintro n fr L ⟨k,q,hk,rfl,hq,rfl,rfl⟩
 simp only [qds,ZZ,WW,Ze,reduceCtorEq,zd,ze,za,zf,zb]
 have hql:q.length≤4 * s.length+1:=by
  have h1:=qot (s.take k)
  have h2:(s.take k).length≤s.length:=by simp;omega
  rw [hq]
  simp only [zk]
  omega
 refine br ?_ ?_
 ·intro h
  have hlt:k < s.length:=by have:=of_decide_eq_true h;omega
  have hn:=qpy hlt
  obtain ⟨c,hc⟩:∃ c,s.getD k 0=c:=⟨_,rfl⟩
  rw [hc] at hn
  have h34:=qkQ c 34 (by omega)
  have h92:=qkQ c 92 (by omega)
  have h10:=qkQ c 10 (by omega)
  have h256:=c.toNat_lt
  have hqB:quB c=quB c:=rfl
  conv at hqB=>rhs;unfold quB
  have hbl:=qhg (s:=q)
  simp only [ZZ,WW,Ze,reduceCtorEq,zd,ze,za,zf,zb,hc]
  ((repeat' (with_reducible apply And.intro))<;>try ((exact sc_)))
  refine br ?_ ?_
  ·intro h
   have h:c=34∨c=92:=by
    rcases Bool.or_eq_true_iff.1 h with h|h
    ·exact .inl (h34.2 (of_decide_eq_true h))
    ·exact .inr (h92.2 (of_decide_eq_true h))
   rw [if_pos h] at hqB
   have hb:bytC q++[[.int .u8 92],[.int .u8 (c.toNat:Nat)]]=bytC (q++quB c):=by rw [hqB,qf1];rfl
   simp only [ZZ,WW,Ze,reduceCtorEq,zd,ze,za,zf,zb,hb]
   ((repeat' (with_reducible apply And.intro))<;>try ((exact sc_)))
   refine qai zE_ ?_
   simp only [ZZ,WW,Ze,reduceCtorEq,zd,ze,za,zf,zb]
   ((repeat' (with_reducible apply And.intro))<;>try ((exact sc_)))
   refine qae (s.length - (k+1)) _ _ (by omega) (by (simp only [ZZ,WW,Ze,reduceCtorEq,zd,ze,za,zf,zb];try trivial)) (by (simp only [ZZ,WW,Ze,reduceCtorEq,zd,ze,za,zf,zb];try trivial)) ⟨k+1,q++quB c,by omega,rfl,by rw [hn,hq];rfl,rfl,rfl⟩
  intro h
  have h:¬ (c=34∨c=92):=by
   simp only [Bool.or_eq_false_iff,decide_eq_false_iff_not] at h
   rintro (h'|h')
   ·exact h.1 (h34.1 h')
   ·exact h.2 (h92.1 h')
  rw [if_neg h] at hqB
  simp only [ZZ,WW,Ze,reduceCtorEq,zd,ze,za,zf,zb]
  refine br ?_ ?_
  ·intro h2
   have h2:c=10:=h10.2 (of_decide_eq_true h2)
   rw [if_pos h2] at hqB
   have hb:bytC q++qhT [92,110]=bytC (q++quB c):=by rw [hqB,qf1];rfl
   simp only [ZZ,WW,Ze,reduceCtorEq,zd,ze,za,zf,zb,hb]
   ((repeat' (with_reducible apply And.intro))<;>try ((exact sc_)))
   refine qai zE_ ?_
   simp only [ZZ,WW,Ze,reduceCtorEq,zd,ze,za,zf,zb]
   ((repeat' (with_reducible apply And.intro))<;>try ((exact sc_)))
   refine qae (s.length - (k+1)) _ _ (by omega) (by (simp only [ZZ,WW,Ze,reduceCtorEq,zd,ze,za,zf,zb];try trivial)) (by (simp only [ZZ,WW,Ze,reduceCtorEq,zd,ze,za,zf,zb];try trivial)) ⟨k+1,q++quB c,by omega,rfl,by rw [hn,hq];rfl,rfl,rfl⟩
  intro h2
  have h2:¬ c=10:=fun e=>of_decide_eq_false h2 (h10.1 e)
  rw [if_neg h2] at hqB
  simp only [ZZ,WW,Ze,reduceCtorEq,zd,ze,za,zf,zb]
  ((repeat' (with_reducible apply And.intro))<;>try ((exact sc_)))
  have hlt':(c < 33∨126 < c)↔(decide (((c.toNat:Nat):Int) < 33) || decide (126 < ((c.toNat:Nat):Int)))=true:=by
   simp only [Bool.or_eq_true,decide_eq_true_eq,UInt8.lt_iff_toNat_lt]
   rw [show (33:UInt8).toNat=33 from rfl,show (126:UInt8).toNat=126 from rfl]
   omega
  refine br ?_ ?_
  ·intro h3
   rw [if_pos (hlt'.2 h3)] at hqB
   have e1:IntKind.u8.wrap (((c.toNat:Nat):Int).tdiv 16)=((c.toNat / 16:Nat):Int):=by
    have:∀ n:Fin 256,IntKind.u8.wrap (((n.val:Nat):Int).tdiv 16)=((n.val / 16:Nat):Int):=by decide +kernel
    exact this ⟨c.toNat,h256⟩
   have e2:((c.toNat:Nat):Int).tmod 16=((c.toNat % 16:Nat):Int):=by rw [Int.tmod_eq_emod_of_nonneg (by omega)];omega
   have e3:([48,49,50,51,52,53,54,55,56,57,97,98,99,100,101,102]:List UInt8).getD (c.toNat / 16) 0=hxB (c.toNat / 16):=rfl
   have e4:([48,49,50,51,52,53,54,55,56,57,97,98,99,100,101,102]:List UInt8).getD (c.toNat % 16) 0=hxB (c.toNat % 16):=rfl
   have hb:bytC q++[[.int .u8 92],[.int .u8 120],[.int .u8 ((hxB (c.toNat / 16)).toNat:Nat)],[.int .u8 ((hxB (c.toNat % 16)).toNat:Nat)]]=bytC (q++quB c):=by rw [hqB,qf1];rfl
   simp only [ZZ,WW,Ze,reduceCtorEq,zd,ze,za,zf,zb]
   refine drg0 ?_
   simp only [ZZ,WW,Ze,reduceCtorEq,zd,ze,za,zf,zb,e1,e2,e3,e4,hb,Int.toNat_natCast]
   ((repeat' (with_reducible apply And.intro))<;>try ((exact sc_)))
   refine qai zE_ ?_
   simp only [ZZ,WW,Ze,reduceCtorEq,zd,ze,za,zf,zb]
   ((repeat' (with_reducible apply And.intro))<;>try ((exact sc_)))
   refine qae (s.length - (k+1)) _ _ (by omega) (by (simp only [ZZ,WW,Ze,reduceCtorEq,zd,ze,za,zf,zb];try trivial)) (by (simp only [ZZ,WW,Ze,reduceCtorEq,zd,ze,za,zf,zb];try trivial)) ⟨k+1,q++quB c,by omega,rfl,by rw [hn,hq];rfl,rfl,rfl⟩
  ·intro h3
   rw [if_neg (fun e=>by rw [hlt'.1 e] at h3;cases h3)] at hqB
   have hb:bytC q++[[.int .u8 (c.toNat:Nat)]]=bytC (q++quB c):=by rw [hqB,qf1];rfl
   simp only [ZZ,WW,Ze,reduceCtorEq,zd,ze,za,zf,zb,hb]
   ((repeat' (with_reducible apply And.intro))<;>try ((exact sc_)))
   refine qai zE_ ?_
   simp only [ZZ,WW,Ze,reduceCtorEq,zd,ze,za,zf,zb]
   ((repeat' (with_reducible apply And.intro))<;>try ((exact sc_)))
   refine qae (s.length - (k+1)) _ _ (by omega) (by (simp only [ZZ,WW,Ze,reduceCtorEq,zd,ze,za,zf,zb];try trivial)) (by (simp only [ZZ,WW,Ze,reduceCtorEq,zd,ze,za,zf,zb];try trivial)) ⟨k+1,q++quB c,by omega,rfl,by rw [hn,hq];rfl,rfl,rfl⟩
 ·intro h
  have hge:s.length≤k:=by have:=of_decide_eq_false h;omega
  rw [zP hge] at hq
  have hb:bytC q++[[.int .u8 34]]=bytC (q++[34]):=by rw [qf1];rfl
  have hbl:=qhg (s:=q)
  simp only [ZZ,WW,Ze,reduceCtorEq,zd,ze,za,zf,zb,hb,qp4]
  ((repeat' (with_reducible apply And.intro))<;>try ((exact sc_)))
  rw [hq]
  rfl
end
def qgM:IC:=(.seq (.reg [qO 1 (.box 44 (.t 0)),qO 2 (.mov (.c (.nl 1)))]) (.seq (.drg [qO 3 (.fla 4 (.t 1)),qO 4 (.ld 1 false (.t 3)),qO 5 (.pcall 0 54 [.t 4]),qO 6 (.fla 5 (.t 1)),qO 7 (.ld 1 false (.t 6)),qO 8 (.pcall 1 54 [.t 7]),qO 9 (.fla 6 (.t 1)),qO 10 (.ld 1 false (.t 9)),qO 11 (.pcall 2 55 [.t 10]),qO 12 (.fla 7 (.t 1)),qO 13 (.fla 0 (.t 12)),qO 14 (.ld 1 false (.t 13)),qO 15 (.pcall 3 17 [.t 14]),qO 16 (.fla 7 (.t 1)),qO 17 (.fla 1 (.t 16)),qO 18 (.ld 1 false (.t 17)),qO 19 (.pcall 4 17 [.t 18]),qO 20 (.fla 9 (.t 1)),qO 21 (.fla 0 (.t 20)),qO 22 (.ld 1 false (.t 21)),qO 23 (.pcall 5 54 [.t 22]),qO 24 (.fla 9 (.t 1)),qO 25 (.fla 1 (.t 24)),qO 26 (.ld 1 false (.t 25)),qO 27 (.pcall 6 17 [.t 26]),qO 28 (.bsl 1 [.t 5,.t 8,.t 11,.t 15,.t 19,.t 23,.t 27]),qM 2 28]) .ret))
def qgz:List IRes:=[.t 2]
theorem qky:chkF Tryz.prog Tryz.f19 qgM qgz 29=true:=by kernel_rfl
def qiu:IC:=(.seq (.reg [qO 2 (.box 44 (.t 0)),qO 4 (.mov (.c (.str [])))]) (.seq (.drg [qM 6 1,qO 7 (.fla 0 (.t 2)),qO 8 (.fla 0 (.t 7)),qO 9 (.ld 1 false (.t 8)),qO 10 (.fla 0 (.t 2)),qO 11 (.fla 1 (.t 10)),qO 12 (.ld 1 false (.t 11)),qO 13 (.pcall 0 17 [.t 12]),qO 14 (.fla 2 (.t 2)),qO 15 (.ld 1 false (.t 14)),qO 16 (.pcall 1 17 [.t 15]),qO 17 (.fla 3 (.t 2)),qO 18 (.ld 1 false (.t 17)),qO 19 (.pcall 2 17 [.t 18]),qO 20 (.bsr 9 1 [.t 6,.t 9,.t 13,.t 16,.t 19]),qM 5 20]) (.seq (.reg [qM 21 5,qO 22 (.ld 12 true (.t 2)),qO 23 (.call 19 [.t 22]),qO 24 (.app 9 1 16 (.t 21) (.t 23)),qO 25 (.call 21 [.t 24,.c (.str [32])]),qO 26 (.call 130 [.t 25]),qM 4 26]) .ret)))
def qii:List IRes:=[.t 4]
theorem qmp:chkF Tryz.prog Tryz.f90 qiu qii 27=true:=by kernel_rfl
def qdS:IC:=(.seq (.reg [qO 3 (.box 44 (.t 1)),qO 4 (.mov (.c (.str [])))]) (.seq (.drg [qM 5 0,qO 6 (.fla 0 (.t 3)),qO 7 (.fla 0 (.t 6)),qO 8 (.ld 1 false (.t 7)),qO 9 (.fla 0 (.t 3)),qO 10 (.fla 1 (.t 9)),qO 11 (.ld 1 false (.t 10)),qO 12 (.pcall 0 17 [.t 11]),qO 13 (.fla 2 (.t 3)),qO 14 (.ld 1 false (.t 13)),qO 15 (.pcall 1 17 [.t 14]),qO 16 (.fla 3 (.t 3)),qO 17 (.ld 1 false (.t 16)),qO 18 (.pcall 2 17 [.t 17]),qO 19 (.fla 4 (.t 3)),qO 20 (.ld 1 false (.t 19)),qO 21 (.pcall 3 31 [.t 20]),qO 22 (.fla 5 (.t 3)),qO 23 (.ld 1 false (.t 22)),qO 24 (.pcall 4 31 [.t 23]),qO 25 (.fla 6 (.t 3)),qO 26 (.ld 1 false (.t 25)),qO 27 (.pcall 5 32 [.t 26]),qO 28 (.fla 7 (.t 3)),qO 29 (.fla 0 (.t 28)),qO 30 (.ld 1 false (.t 29)),qO 31 (.pcall 6 17 [.t 30]),qO 32 (.fla 7 (.t 3)),qO 33 (.fla 1 (.t 32)),qO 34 (.ld 1 false (.t 33)),qO 35 (.pcall 7 17 [.t 34]),qO 36 (.fla 9 (.t 3)),qO 37 (.fla 0 (.t 36)),qO 38 (.ld 1 false (.t 37)),qO 39 (.pcall 8 31 [.t 38]),qO 40 (.fla 9 (.t 3)),qO 41 (.fla 1 (.t 40)),qO 42 (.ld 1 false (.t 41)),qO 43 (.pcall 9 17 [.t 42]),qO 44 (.bsl 1 [.t 5,.t 8,.t 12,.t 15,.t 18,.t 21,.t 24,.t 27,.t 31,.t 35,.t 39,.t 43]),qO 45 (.pcall 10 21 [.t 44,.c (.str [32])]),qO 46 (.pcall 11 64 [.t 45]),qM 4 46]) .ret))
def qdK:List IRes:=[.t 4]
theorem qgY:chkF Tryz.prog Tryz.f27 qdS qdK 47=true:=by kernel_rfl
def qfA:IC:=(.seq (.reg [qO 2 (.box 40 (.t 0)),qO 3 (.box 40 (.t 1)),qO 4 (.mov (.c (.int .i64 0)))]) (.seq (.drg [qO 5 (.fla 0 (.t 2)),qO 6 (.ld 1 false (.t 5)),qO 7 (.fla 0 (.t 3)),qO 8 (.ld 1 false (.t 7)),qO 9 (.pcall 0 60 [.t 6,.t 8]),qO 10 (.fla 1 (.t 2)),qO 11 (.ld 1 false (.t 10)),qO 12 (.fla 1 (.t 3)),qO 13 (.ld 1 false (.t 12)),qO 14 (.pcall 1 61 [.t 11,.t 13]),qO 15 (.bsl 1 [.t 9,.t 14]),qO 16 (.pcall 2 59 [.t 15]),qM 4 16]) .ret))
def qfq:List IRes:=[.t 4]
theorem qjc:chkF Tryz.prog Tryz.f88 qfA qfq 17=true:=by kernel_rfl
def qc3:IC:=(.seq (.reg [qO 2 (.box 44 (.t 0)),qO 3 (.box 44 (.t 1)),qO 4 (.mov (.c (.int .i64 0)))]) (.seq (.drg [qO 5 (.fla 0 (.t 2)),qO 6 (.fla 0 (.t 5)),qO 7 (.ld 1 false (.t 6)),qO 8 (.fla 0 (.t 3)),qO 9 (.fla 0 (.t 8)),qO 10 (.ld 1 false (.t 9)),qO 11 (.pcall 0 60 [.t 7,.t 10]),qO 12 (.fla 0 (.t 2)),qO 13 (.fla 1 (.t 12)),qO 14 (.ld 1 false (.t 13)),qO 15 (.fla 0 (.t 3)),qO 16 (.fla 1 (.t 15)),qO 17 (.ld 1 false (.t 16)),qO 18 (.pcall 1 61 [.t 14,.t 17]),qO 19 (.bsl 1 [.t 11,.t 18]),qO 20 (.pcall 2 59 [.t 19]),qM 4 20]) .ret))
def qcS:List IRes:=[.t 4]
theorem qfW:chkF Tryz.prog Tryz.f25 qc3 qcS 21=true:=by kernel_rfl
theorem qfL (s:List UInt8):(qff s).length≤s.length+1:=by
 unfold qff
 split
 ·simp
 ·omega
theorem qkn {n:Int} (h:-1000000000000≤n∧n≤1000000000000):(Lib.itoa n).length≤21:=Lib.itoa_length_le n (by omega) (by omega)
theorem qq3 {b:List UInt8} {d:Dd} (hb:b.length≤200000) (h:DdB d):(Lib.join ([b,d.site,Lib.itoa d.no,Lib.itoa d.tm,Lib.itoa d.kind]++wrdF d) [32]).length≤10000000:=by
 have i1:=qkn h.c1
 have i2:=qkn h.c2
 have i3:=qkn h.c3
 have i4:=qkn h.c4
 have i5:=qkn h.c5
 have i6:=qkn h.c6
 have d1:=qfL d.id
 have d2:=qfL d.field
 have d3:=qfL d.osite
 have q1:=qpz d.value
 have b1:=h.b1
 have b2:=h.b2
 have b3:=h.b3
 have b4:=h.b4
 have b5:=h.b5
 simp only [wrdF,zo,zq,Lib.join_length,Lib.lens,zl,zt,List.sum_cons,List.sum_nil,zk,zp]
 omega
theorem qpj (d:Dd) (h:DdB d):PCall Tryz.prog ED 19 [.agg (ddC d)] (·=strs (wrdF d)):=by
 refine qaf mixed Tryz.func19 qky ?_
 simp only [a0,l0,OS.ao,zl,zt,zk,zp,zo,zq,zu,zd,zj,zm,qgM,qgz,ZZ,WW,Ze,reduceCtorEq,zd,ze,za,zf,zb]
 simp only [ddC,ZZ,WW,Ze,reduceCtorEq,zd,ze,za,zf,zb]
 refine ⟨[.str (qff d.id),.str (qff d.field),.str (quoF d.value),.str (Lib.itoa d.frm),.str (Lib.itoa d.upto),.str (qff d.osite),.str (Lib.itoa d.ono)],?_⟩
 simp only [ZZ,WW,Ze,reduceCtorEq,zd,ze,za,zf,zb]
 refine ⟨usep (qoW d.id) rfl (.inl rfl),usep (qoW d.field) rfl (.inl rfl),usep (qt5 d.value (by have:=h.b4;omega)) rfl (.inl rfl),usep (qaW d.frm (by have:=h.c4;omega) (by have:=h.c4;omega)) rfl (.inl rfl),usep (qaW d.upto (by have:=h.c5;omega) (by have:=h.c5;omega)) rfl (.inl rfl),usep (qoW d.osite) rfl (.inl rfl),usep (qaW d.ono (by have:=h.c6;omega) (by have:=h.c6;omega)) rfl (.inl rfl),?_⟩
 rfl
theorem quj (d:Dd) (h:DdB d) (b:List UInt8) (hb:b.length≤200000):PCall Tryz.prog ED 90 [.agg (ddC d),.str b] (·=.str (sumF b d)):=by
 have hl:=qq3 hb h
 refine qaf mixed Tryz.func90 qmp ?_
 simp only [a0,l0,OS.ao,zl,zt,zk,zp,zo,zq,zu,zd,zj,zm,qiu,qii,ZZ,WW,Ze,reduceCtorEq,zd,ze,za,zf,zb]
 simp only [ddC,ZZ,WW,Ze,reduceCtorEq,zd,ze,za,zf,zb]
 refine ⟨[.str (Lib.itoa d.no),.str (Lib.itoa d.tm),.str (Lib.itoa d.kind)],?_⟩
 simp only [ZZ,WW,Ze,reduceCtorEq,zd,ze,za,zf,zb]
 refine ⟨usep (qaW d.no (by have:=h.c1;omega) (by have:=h.c1;omega)) rfl (.inl rfl),usep (qaW d.tm (by have:=h.c2;omega) (by have:=h.c2;omega)) rfl (.inl rfl),usep (qaW d.kind (by have:=h.c3;omega) (by have:=h.c3;omega)) rfl (.inl rfl),?_⟩
 refine use1 (qpj d h) rfl (.inl rfl) ?_
 simp only [ZZ,WW,Ze,reduceCtorEq,zd,ze,za,zf,zb,strs,wrdF]
 ((repeat' (with_reducible apply And.intro))<;>try ((exact sc_)))
 refine use1 (qmN ([b,d.site,Lib.itoa d.no,Lib.itoa d.tm,Lib.itoa d.kind]++wrdF d) [32] (by simp [wrdF]) (by omega)) rfl (.inr rfl) ?_
 simp only [ZZ,WW,Ze,reduceCtorEq,zd,ze,za,zf,zb]
 refine use1 (qsG _ (Nat.le_trans hl (by omega))) rfl (.inl rfl) ?_
 simp only [ZZ,WW,Ze,reduceCtorEq,zd,ze,za,zf,zb]
 rfl
theorem qhY (d:Dd) (h:DdB d) (b:List UInt8) (hb:b.length≤200000):PCall Tryz.prog ED 27 [.str b,.agg (ddC d)] (·=.str (sumF b d)):=by
 have hl:=qq3 hb h
 refine qaf mixed Tryz.func27 qgY ?_
 simp only [a0,l0,OS.ao,zl,zt,zk,zp,zo,zq,zu,zd,zj,zm,qdS,qdK,ZZ,WW,Ze,reduceCtorEq,zd,ze,za,zf,zb]
 simp only [ddC,ZZ,WW,Ze,reduceCtorEq,zd,ze,za,zf,zb]
 refine ⟨[.str (Lib.itoa d.no),.str (Lib.itoa d.tm),.str (Lib.itoa d.kind),.str (qff d.id),.str (qff d.field),.str (quoF d.value),.str (Lib.itoa d.frm),.str (Lib.itoa d.upto),.str (qff d.osite),.str (Lib.itoa d.ono),.str (Lib.join ([b,d.site,Lib.itoa d.no,Lib.itoa d.tm,Lib.itoa d.kind]++wrdF d) [32]),.str (sumF b d)],?_⟩
 simp only [ZZ,WW,Ze,reduceCtorEq,zd,ze,za,zf,zb]
 refine ⟨usep (qaW d.no (by have:=h.c1;omega) (by have:=h.c1;omega)) rfl (.inl rfl),usep (qaW d.tm (by have:=h.c2;omega) (by have:=h.c2;omega)) rfl (.inl rfl),usep (qaW d.kind (by have:=h.c3;omega) (by have:=h.c3;omega)) rfl (.inl rfl),usep (qhf d.id) rfl (.inl rfl),usep (qhf d.field) rfl (.inl rfl),usep (qkL d.value (by have:=h.b4;omega)) rfl (.inl rfl),usep (qaW d.frm (by have:=h.c4;omega) (by have:=h.c4;omega)) rfl (.inl rfl),usep (qaW d.upto (by have:=h.c5;omega) (by have:=h.c5;omega)) rfl (.inl rfl),usep (qhf d.osite) rfl (.inl rfl),usep (qaW d.ono (by have:=h.c6;omega) (by have:=h.c6;omega)) rfl (.inl rfl),?_⟩
 refine ⟨usep (qmN ([b,d.site,Lib.itoa d.no,Lib.itoa d.tm,Lib.itoa d.kind]++wrdF d) [32] (by simp [wrdF]) (by omega)) rfl (.inl rfl),usep (qpd _ (by omega)) rfl (.inl rfl)⟩
section
variable {E:Envt}
theorem qlz (s:List UInt8) (n:Int) (t:List UInt8) (m:Int):PCall Tryz.prog E 88 [.agg [.str s,int n],.agg [.str t,int m]] (·=int (stC s n t m)):=by
 refine qaf mixed Tryz.func88 qjc ?_
 simp only [a0,l0,OS.ao,zl,zt,zk,zp,zo,zq,zu,zd,zj,zm,qfA,qfq,ZZ,WW,Ze,reduceCtorEq,zd,ze,za,zf,zb]
 refine drg3 (x1:=int (Lib.compareBytes s t)) (x2:=int (sgnC n m)) (x3:=int (stC s n t m)) ?_
 simp only [ZZ,WW,Ze,reduceCtorEq,zd,ze,za,zf,zb]
 refine ⟨usep (qiT s t) rfl (.inl rfl),usep (qkO n m) rfl (.inl rfl),usep (quC [Lib.compareBytes s t,sgnC n m] (by simp)) rfl (.inl rfl)⟩
theorem qlM (a b:Dd):PCall Tryz.prog E 25 [.agg (ddC a),.agg (ddC b)] (·=int (stC a.site a.no b.site b.no)):=by
 refine qaf mixed Tryz.func25 qfW ?_
 simp only [a0,l0,OS.ao,zl,zt,zk,zp,zo,zq,zu,zd,zj,zm,qc3,qcS,ZZ,WW,Ze,reduceCtorEq,zd,ze,za,zf,zb]
 simp only [ddC,ZZ,WW,Ze,reduceCtorEq,zd,ze,za,zf,zb]
 refine drg3 (x1:=int (Lib.compareBytes a.site b.site)) (x2:=int (sgnC a.no b.no)) (x3:=int (stC a.site a.no b.site b.no)) ?_
 simp only [ZZ,WW,Ze,reduceCtorEq,zd,ze,za,zf,zb]
 refine ⟨usep (qiT a.site b.site) rfl (.inl rfl),usep (qkO a.no b.no) rfl (.inl rfl),usep (quC [Lib.compareBytes a.site b.site,sgnC a.no b.no] (by simp)) rfl (.inl rfl)⟩
end
end Go.Proofs.YtjgdjinhkgjpeaaGreatDoor
namespace Go.Proofs.YtjgdjinhkgjpeaaGreatDoor
open List renaming length_append→zx,length_drop→zR,length_take→zQ,mem_append→zC,mem_of_mem_drop→ym,mem_of_mem_take→ya
open _root_.Array renaming length_toList→yj
open Go.Lib Go.RowKit Go.Shelf Go.Sort
abbrev tDd:Nat:=44
theorem qoZ {w:World} {b t o:Nat} {cur:Array Value} (hg:w.heap[b]?=some (.cells cur t (0,0))) (h:o < cur.size):(w.cell? ⟨b,o,none⟩).isSome=true∧w.frozen? ⟨b,o,none⟩=false:=by
 simp [World.cell?,World.frozen?,hg,h]
theorem qm6 {P:Program} {w:World} {b o t:Nat} {cur:Array Value} {vs:List Value} (hg:w.heap[b]?=some (.cells cur t (0,0))) (hl:o+vs.length≤cur.size) (h1:∀ v∈vs,v.oneCell'=true):w.setCells b o vs=w.setRow b (cur.toList.take o++vs++cur.toList.drop (o+vs.length)).toArray:=by
 have a:=run_storeCells_at P b o t vs 0 cur w hg (by omega) h1
 have c:=run_storeCells_cells (P:=P) b o vs 0 w (fun j hj=>(qoZ hg (by omega)).1) (fun j hj=>(qoZ hg (by omega)).2) h1
 rw [a] at c
 simpa using c.symm
theorem qr5 {w:World} {b o c t:Nat} {z:Value} {cur:Array Value} (hv:∀ w,(zeroValue tDd).run Tryz.prog w=.ok z w) (hz:z.cells.size=12) (h1:∀ v∈z.cells.toList,v.oneCell'=true) (hg:w.heap[b]?=some (.cells cur t (0,0))) (hl:o+12≤cur.size) (ty:TypeId) :
  (Builtin.clear_ #[26] ty #[.slice (some ⟨b,o,none⟩) 1 c]).run Tryz.prog w=.ok (.tuple #[]) (w.setRow b (cur.toList.take o++z.cells.toList++cur.toList.drop (o+12)).toArray):=by
 have hzc:(Builtin.zeroCells z.cells 1).toList=z.cells.toList:=by
  apply List.ext_getElem
  ·simp [Builtin.zeroCells,hz]
  ·intro i q1 q2
   have:i < 12:=by simpa [hz] using q2
   simp [Builtin.zeroCells,hz,Nat.mod_eq_of_lt this]
   rw [getElem!_pos _ _ (by omega)]
 have hst:=run_storeCells_at Tryz.prog b o t z.cells.toList 0 cur w hg (by simp [hz];omega) h1
 simp only [Nat.add_zero,yj,hz] at hst
 simp [Builtin.clear_,run_underlying Tryz.underlying26,hv,hzc,hst]
theorem qiY (w:World) (b:Nat) (c1 c2:Array Value):(w.setRow b c1).setRow b c2=w.setRow b c2:=by
 simp only [World.setRow,World.mk.injEq,true_and,and_true]
 apply Array.ext
 ·simp
 ·intro k h1 h2
  simp only [Array.getElem_modify]
  split
  ·rename_i h
   subst h
   cases w.heap[b]'(by simpa using h2)<;>rfl
  ·rfl
set_option maxHeartbeats 4000000 in
set_option maxRecDepth 1000000 in
theorem qtJ (w:World) (blk cap n i j:Nat) (hj:j=i+1) (cur:Array Value) (hg:w.heap[blk]?=some (.cells cur tDd (0,0))) (hcur:cur.size=cap * 12) (hn:n≤cap) (hcap:cap≤maxLen) (hi:i < n) (h1c:∀ v∈cur.toList.take (n * 12),v.oneCell'=true) :
  Calls Tryz.prog 50 #[.slice (some ⟨blk,0,none⟩) n cap,.int .i64 i,.int .i64 j] w fun e w'=>e=.returned (.slice (some ⟨blk,0,none⟩) (n - 1) cap)∧
   ∃ q cur',w'=(Sort.ahead w q).setRow blk cur'∧cur'.size=cap * 12∧cur'.toList.take ((n - 1) * 12)=cur.toList.take (i * 12)++(cur.toList.take (n * 12)).drop (j * 12):=by
 have hA:appB Tryz.prog tDd 12 144=true:=by kernel_rfl
 obtain ⟨i0,zv,q1,q2,q3,q4,q5,q6,q7⟩:=qdf hA
 have hv:∀ w,(zeroValue tDd).run Tryz.prog w=.ok zv w:=fun w=>by simp [zeroValue,typeInfo,q1,q2]
 have hzb:qgn Tryz.prog tDd [.str [],int 0,int 0,int 0,.str [],.str [],.str [],int 0,int 0,.str [],int 0,.str []]=true:=by kernel_rfl
 obtain ⟨zv',p1,p2⟩:=qic hzb w
 have hzz:zv'=zv:=by rw [hv] at p1;simpa using p1.symm
 subst hzz
 obtain ⟨g1,g2⟩:=qb7 p2 w (fun _=>False)
 have hz1:∀ v∈zv'.cells.toList,v.oneCell'=true:=g1.oneCells g2
 obtain ⟨news,hnews⟩:∃ news,news=(cur.toList.take (n * 12)).drop (j * 12):=⟨_,rfl⟩
 have hlen:news.length=(n - j) * 12:=by rw [hnews];simp;omega
 have s2:∀ u∈news,u.oneCell'=true:=fun u hu=>h1c u (ym (by rw [hnews] at hu;exact hu))
 have hbl:∀ o,o < cur.size→(w.drew.cell? ⟨blk,o,none⟩).isSome=true∧w.drew.frozen? ⟨blk,o,none⟩=false:=fun o ho=>qoZ (w:=w.drew) hg ho
 obtain ⟨A,hA',hsrc⟩:∃ A:Addr,(if cap=j then some (⟨blk,0,none⟩:Addr) else some ⟨blk,j * 12,none⟩)=some A∧Hid (∀ t u,news[t]?=some u→w.drew.cell? (A.add t)=some u):=by
  by_cases h:cap=j
  ·refine ⟨⟨blk,0,none⟩,by simp [h],fun t u hu=>?_⟩
   have h0:news.length=0:=by rw [hlen];omega
   rw [List.length_eq_zero_iff.1 h0] at hu
   simp at hu
  ·refine ⟨⟨blk,j * 12,none⟩,by simp [h],fun t u hu=>?_⟩
   have ht:t < (n - j) * 12:=by
    have:=(List.getElem?_eq_some_iff.1 hu).1
    rwa [hlen] at this
   rw [hnews,List.getElem?_drop,List.getElem?_take,if_pos (by omega)] at hu
   rw [Addr.add_lit]
   show (match w.heap[blk]? with|some (.cells c _ _)=>if (none:Option Nat).isSome then none else c[j * 12+t]?|_=>none)=some u
   simpa [hg] using hu
 have s1:Hid (news.length=(n - j) * 12):=hlen
 have s2':Hid (∀ u∈news,u.oneCell'=true):=s2
 have s3:Hid (∀ t,t < news.length→(w.drew.cell? ⟨blk,0+i * 12+t,none⟩).isSome=true∧w.drew.frozen? ⟨blk,0+i * 12+t,none⟩=false):=fun t ht=>hbl _ (by rw [hlen] at ht;omega)
 obtain ⟨W1,hW1⟩:∃ W1,W1=w.drew.setCells blk (0+i * 12) news:=⟨_,rfl⟩
 have hrow:w.drew.setCells blk (0+i * 12) news=w.drew.setRow blk (cur.toList.take (0+i * 12)++news++cur.toList.drop (0+i * 12+news.length)).toArray:=qm6 (P:=Tryz.prog) (w:=w.drew) (t:=tDd) hg (by rw [hlen];omega) s2
 obtain ⟨cur1,hcur1⟩:∃ cur1:Array Value,cur1=(cur.toList.take (0+i * 12)++news++cur.toList.drop (0+i * 12+news.length)).toArray:=⟨_,rfl⟩
 rw [← hcur1] at hrow
 have hg1:W1.heap[blk]?=some (.cells cur1 tDd (0,0)):=by rw [hW1,hrow];exact setRow_heap w.drew blk cur cur1 tDd (0,0) hg
 have hs1:cur1.size=cap * 12:=by rw [hcur1];simp only [List.size_toArray,zx,zQ,zR,yj,hlen];omega
 have hcl:∀ ty,(Builtin.clear_ #[26] ty #[.slice (some ⟨blk,(i+(n - j)) * 12,none⟩) (n - (i+(n - j))) (cap - (i+(n - j)))]).run Tryz.prog W1=.ok (.tuple #[]) (W1.setRow blk (cur1.toList.take ((n - 1) * 12)++zv'.cells.toList++cur1.toList.drop ((n - 1) * 12+12)).toArray):=by
  intro ty
  rw [show i+(n - j)=n - 1 by omega,show n - (n - 1)=1 by omega]
  exact qr5 hv q5 hz1 hg1 (by omega) ty
 have hzl:zv'.cells.toList.length=12:=by simpa using q5
 generalize zv'.cells.toList=Z at hcl hzl hz1
 have hW:Hid (W1=w.drew.setCells blk (0+i * 12) news):=hW1
 have X:Hid (W1=w.drew.setRow blk cur1):=hW1.trans hrow
 have Xc:Hid (cur1=(cur.toList.take (0+i * 12)++news++cur.toList.drop (0+i * 12+news.length)).toArray):=hcur1
 have Xn:Hid (news=(cur.toList.take (n * 12)).drop (j * 12)):=hnews
 have hic:i≤cap:=by omega
 have hjc:j≤cap:=by omega
 have hij:i < j:=by omega
 have hjn:j≤n:=by omega
 have hJ:Hid (j=i+1):=hj
 clear hj
 have t22:Tryz.prog.underlying 26=some (.slice tDd):=Tryz.underlying26
 clear hW1 hcur1 hrow hnews hbl hg1 hv
 go_enter Tryz.func50,Tryz.ntmps50
 go_wp2_with fail
 go_region_law_o (refine step_append_room rfl (.tmp 22) (.tmp 25) 26 rfl tDd i0 12 t22 q1 q3 blk 0 i cap (by simp [Act.eval,Act.put]) A (n - j) (cap - j) news (by simp [Act.eval,Act.put]) s1.out hsrc.out s2'.out (by omega) s3.out ?_;rw [← hW.out])
 go_wp2
 go_ret
 refine ⟨by rw [show i+(n - j)=n - 1 by have:=hJ.out;omega];rfl,1,_,by rw [X.out,qiY];rfl,?_,?_⟩
 ·simp only [List.size_toArray,zx,zQ,zR,yj,hzl,hs1]
  have:=hJ.out
  omega
 ·show List.take ((n - 1) * 12) (List.take ((n - 1) * 12) cur1.toList++(Z++List.drop ((n - 1) * 12+12) cur1.toList))=_
  rw [List.take_append_of_le_length (by simp [hs1];omega),List.take_take,Nat.min_self,Xc.out]
  simp only [Nat.zero_add]
  show List.take ((n - 1) * 12) (List.take (i * 12) cur.toList++news++List.drop (i * 12+news.length) cur.toList)=_
  have hti:(cur.toList.take (i * 12)).length=i * 12:=by simp;omega
  rw [List.take_left' (by rw [zx,hti,s1.out];have:=hJ.out;omega),← Xn.out]
section
variable {E:Envt} {L:Objs} {fr:List AV} {d:Option Nat} {is:List IOper} {Y:List PV} {K:List AV→Objs→Prop}
theorem qwS (i:Nat) (es:List (List PV)) (a b:Nat) (ha:a < es.length) (hb:b=a+1) (hz:es.length≤1000000000) (hlk:Zas L (.l i)=some (.row es tDd 12 true))
  (hk:qaa Tryz.prog E Y is (Zg (fr.map (·.kill (.l i))) d (.row (.l i))) (Zav L (.l i) (.row (es.take a++es.drop b) tDd 12 true)) K):qa0 Tryz.prog E 50 [.row (.l i),.p (int a),.p (int b)] L d fr (qc8 Tryz.prog E Y is K):=by
 refine .inr (.inr ⟨i,?_⟩)
 intro w X ι vs hs hX hE hEb hA
 simp only [ARepL,ARep] at hA
 obtain ⟨v1,r1,rfl,⟨rfl,A,n,c,hv⟩,v2,r2,rfl,h2,v3,r3,rfl,h3,rfl⟩:=hA
 have h2:v2=.int .i64 a:=h2
 have h3:v3=.int .i64 b:=h3
 subst h2 h3
 obtain ⟨us,u1,u2,u3,u4⟩:=hs.obj _ _ hlk
 rcases u1.2 with ⟨_,h0⟩|⟨g,cap,cur,fz,g1,g2,g3,g4,g5,g6,g7⟩
 ·omega
 have hfz:fz=(0,0):=by rcases g7 with h|⟨h,_⟩;exact h;cases h
 subst hfz
 rw [g1]
 refine (qtJ w g cap es.length a b hb cur g2 g5 g3 g4 ha (by rw [g6];exact u2)).mono ?_
 rintro e w' ⟨rfl,q,cur',rfl,k1,k2⟩
 have hG:Grow w ((Sort.ahead w q).setRow g cur') (Old L ι (.l i)):=by
  refine ⟨rfl,rfl,rfl,by simp [World.setRow,Sort.ahead],fun x hx hn=>?_⟩
  have hne:g≠x:=fun e=>hn ⟨_,hlk,by rw [g1,← e];rfl⟩
  simp [World.setRow,Sort.ahead,Array.getElem?_modify,hne]
 have hbk:∀ b',blk (.slice (some ⟨g,0,none⟩) (es.length - 1) cap)=some b'→w.heap.size≤b'∨Old L ι (.l i) b':=fun b' e=>.inr ⟨_,hlk,by rw [g1];exact e⟩
 have hgw:((Sort.ahead w q).setRow g cur').heap[g]?=some (.cells cur' tDd (0,0)):=setRow_heap (Sort.ahead w q) g cur cur' tDd (0,0) g2
 have hkp:=qaO (X:=X) (ao:=.row (es.take a++es.drop b) tDd 12 true) (fun b hb=>(hX b hb).1) hG hbk
 have hlen:(es.take a++es.drop b).length=es.length - 1:=by simp;omega
 have hfl:(es.take a++es.drop b).flatten=es.flatten.take (a * 12)++es.flatten.drop (b * 12):=by rw [List.flatten_append,qh2 es a u4 (by omega),qku es b u4 (by omega)]
 have hcl:cur'.toList.take ((es.length - 1) * 12)=us.take (a * 12)++us.drop (b * 12):=by
  rw [k2,g6,← g6,List.take_take,Nat.min_eq_left (by omega)]
 have hobj:ObjOk ((Sort.ahead w q).setRow g cur') (fun b'=>Own (Zav L (.l i) (.row (es.take a++es.drop b) tDd 12 true)) (updI ι (.l i) (.slice (some ⟨g,0,none⟩) (es.length - 1) cap)) b'∨X b') (updI ι (.l i) (.slice (some ⟨g,0,none⟩) (es.length - 1) cap)) (.l i) (.row (es.take a++es.drop b) tDd 12 true):=by
  refine ⟨us.take (a * 12)++us.drop (b * 12),⟨?_,.inr ⟨g,cap,cur',(0,0),by simp [updI,hlen],hgw,by omega,g4,k1,by rw [hlen];exact hcl,.inl rfl⟩⟩,?_,?_,?_⟩
  ·have:=u1.1
   rw [hlen]
   simp only [zx,zQ,zR,this]
   omega
  ·intro u hu
   rcases zC.1 hu with hu|hu
   ·exact u2 u (ya hu)
   ·exact u2 u (ym hu)
  ·rw [hfl]
   exact PRepL.mono hkp _ _ ((u3.take _).append (u3.drop _))
  ·intro x hx
   rcases zC.1 hx with hx|hx
   ·exact u4 x (ya hx)
   ·exact u4 x (ym hx)
 refine ⟨_,.row (.l i),_,updI ι (.l i) (.slice (some ⟨g,0,none⟩) (es.length - 1) cap),rfl,hk,⟨by simp [updI],_,_,_,rfl⟩,⟨hs.upd (fun b hb=>(hX b hb).1) _ _ _ hG hbk hobj,⟨hG.os,hG.tape,hG.output,hG.size,fun x hx hn=>hG.block x hx (fun e=>hn e.own)⟩,fun x hx=>?_,fun j hj=>by simp [updI,hj],fun j hj=>?_⟩⟩
 ·rcases qir hx with h|⟨j,q',hj,h1,h2⟩
  ·rcases hbk x h with h|h
   ·exact .inr h
   ·exact .inl h.own
  ·exact .inl ⟨j,q',h1,h2⟩
 ·rw [qbL] at hj
  by_cases e:j=.l i
  ·exact .inr e
  ·rw [if_neg e] at hj
   exact .inl (by simpa using hj)
end
end Go.Proofs.YtjgdjinhkgjpeaaGreatDoor
namespace Go.Proofs.YtjgdjinhkgjpeaaGreatDoor
open List renaming cons_append→zo,nil_append→zq
open Go.RowKit
theorem qpT {c:UInt8} {a b a' b':List UInt8} (h:a++c :: b=a'++c :: b') (h1:c∉a) (h2:c∉a'):a=a'∧b=b':=by
 induction a generalizing a' with
 |nil=>
  cases a' with
  |nil=>simpa using h
  |cons x a'=>simp only [zq,zo,List.cons.injEq] at h;exact absurd (by rw [h.1];simp) h2
 |cons y a ih=>
  cases a' with
  |nil=>simp only [zq,zo,List.cons.injEq] at h;exact absurd (by rw [← h.1];simp) h1
  |cons x a'=>
   simp only [zo,List.cons.injEq] at h
   obtain ⟨e1,e2⟩:=ih h.2 (fun hm=>h1 (by simp [hm])) (fun hm=>h2 (by simp [hm]))
   exact ⟨by rw [h.1,e1],e2⟩
theorem hp1 (c:UInt8) (r:List UInt8):Lib.hasPrefix r [c]=true↔∃ t,r=c :: t:=by
 unfold Lib.hasPrefix
 rw [List.isPrefixOf_iff_prefix]
 constructor
 ·rintro ⟨t,rfl⟩;exact ⟨t,rfl⟩
 ·rintro ⟨t,rfl⟩;exact ⟨t,rfl⟩
end Go.Proofs.YtjgdjinhkgjpeaaGreatDoor
namespace Go.Proofs.YtjgdjinhkgjpeaaGreatDoor
end Go.Proofs.YtjgdjinhkgjpeaaGreatDoor
namespace Go.Proofs.YtjgdjinhkgjpeaaGreatDoor
open Go.RowKit
section
variable {E:Envt}
def idxF {α:Type} (q:α→Bool) (l:List α):Int:=match l.findIdx? q with|some i=>(i:Int)|none=>-1
theorem qtr {α:Type} {q:α→Bool} {l:List α} {k:Nat} {x:α} (h:l[k]?=some x) (hx:q x=true) (hno:∀ y∈l.take k,q y=false):idxF q l=k:=by
 obtain ⟨hk,hxk⟩:=List.getElem?_eq_some_iff.1 h
 have:l.findIdx? q=some k:=by
  rw [List.findIdx?_eq_some_iff_getElem]
  refine ⟨hk,by rw [hxk];exact hx,fun j hj=>?_⟩
  have:=hno l[j] (by rw [List.mem_take_iff_getElem];exact ⟨j,by omega,rfl⟩)
  simp [this]
 simp [idxF,this]
theorem qrL {α:Type} {q:α→Bool} {l:List α} (hno:∀ y∈l,q y=false):idxF q l=-1:=by
 have:l.findIdx? q=none:=by rw [List.findIdx?_eq_none_iff];exact hno
 simp [idxF,this]
end
section
variable {E:Envt}
end
end Go.Proofs.YtjgdjinhkgjpeaaGreatDoor
namespace Go.Proofs.YtjgdjinhkgjpeaaGreatDoor
end Go.Proofs.YtjgdjinhkgjpeaaGreatDoor
namespace Go.Proofs.YtjgdjinhkgjpeaaGreatDoor
open Go.RowKit
section
variable {P:Program} {E:Envt} {w:World} {U:Nat→Prop}
end
section
variable {E:Envt}
end
end Go.Proofs.YtjgdjinhkgjpeaaGreatDoor
namespace Go.Proofs.YtjgdjinhkgjpeaaGreatDoor
section
variable {E:Envt}
end
end Go.Proofs.YtjgdjinhkgjpeaaGreatDoor
namespace Go.Proofs.YtjgdjinhkgjpeaaGreatDoor
open Nat renaming reduceAdd→zd,reduceEqDiff→zb,reduceLT→zf,reduceLeDiff→za,reduceMul→ze,reduceSub→zu
open List renaming cons_append→zo,length_cons→zk,length_nil→zp,map_cons→zl,map_nil→zt,nil_append→zq,replicate_succ→zj,replicate_zero→zm,reverse_reverse→yw
open Bool renaming and_eq_true→zh
open Go.RowKit
section
end
def sp (c:UInt8):List UInt8→List (List UInt8)
 |[]=>[[]]
 |x :: s=>if x=c then [] :: sp c s else (x :: (sp c s).headD []) :: (sp c s).tail
theorem qql (c:UInt8) (s:List UInt8):sp c s≠[]:=by
 cases s with
 |nil=>simp [sp]
 |cons x s=>unfold sp;split<;>simp
theorem qiX {s:List UInt8} {c:UInt8} (h:Lib.index s [c]=-1):Lib.split s [c]=[s]:=by
 unfold Lib.split
 rw [Lib.count_miss h]
 rfl
theorem qj5 {s:List UInt8} {c:UInt8} {i:Nat} (h:Lib.index s [c]=i):Lib.split s [c]=s.take i :: Lib.split (s.drop (i+1)) [c]:=by
 unfold Lib.split
 rw [Lib.count_hit (by simp) h,Nat.add_comm,Lib.splitK,if_neg (by rw [h];simp),h]
 simp
theorem qsN (c:UInt8):∀ s:List UInt8,Lib.split s [c]=sp c s:=by
 intro s
 induction s with
 |nil=>rw [qiX (by rfl)];rfl
 |cons x s ih=>
  by_cases hx:x=c
  ·subst hx
   have h0:Lib.index (x :: s) [x]=((0:Nat):Int):=by rw [Lib.index_one];simp [Lib.indexByte]
   rw [qj5 h0,sp,if_pos rfl,← ih]
   simp
  ·have hi:Lib.index (x :: s) [c]=if Lib.index s [c]=-1 then -1 else Lib.index s [c]+1:=by
    rw [Lib.index_one,Lib.index_one,Lib.indexByte]
    simp [hx]
   rw [sp,if_neg hx,← ih]
   by_cases hm:Lib.index s [c]=-1
   ·rw [if_pos hm] at hi
    rw [qiX hi,qiX hm]
    rfl
   ·rw [if_neg hm] at hi
    have hge:=Lib.indexByte_ge s c
    rw [← Lib.index_one] at hge
    obtain ⟨i,hi2⟩:∃ i:Nat,Lib.index s [c]=i:=⟨(Lib.index s [c]).toNat,by omega⟩
    rw [hi2] at hi
    rw [qj5 (i:=i+1) (by rw [hi];simp),qj5 hi2]
    simp
theorem qgv (s:List UInt8) (c:UInt8):splF s c=sp c s:=by
 rw [← qsN]
 unfold splF Lib.split
 rw [Lib.splitB_data]
theorem qwY (c:UInt8) (b:List UInt8):∀ a:List UInt8,sp c (a++c :: b)=sp c a++sp c b:=by
 intro a
 induction a with
 |nil=>simp [sp]
 |cons x a ih=>
  rw [zo,sp,sp,ih]
  split
  ·simp
  ·have:=qql c a
   cases h:sp c a with
   |nil=>exact absurd h this
   |cons y r=>simp
theorem suf1 (s:List UInt8) (c:UInt8):sufE s [c]=true↔∃ t,s=t++[c]:=by
 unfold sufE
 simp only [zh,decide_eq_true_eq,zk,zp,Nat.zero_add]
 constructor
 ·rintro ⟨_,h⟩
  exact ⟨s.take (s.length - 1),by rw [← h,List.take_append_drop]⟩
 ·rintro ⟨t,rfl⟩
  simp
  omega
theorem qqW (s:List UInt8) (cs:List UInt8):(Lib.trimRightS s cs).length≤s.length:=by
 unfold Lib.trimRightS
 have:=(List.dropWhile_suffix (l:=s.reverse) (fun x=>cs.contains x)).length_le
 simpa using this
theorem qqU (s:List UInt8) (cs:List UInt8):(Lib.trimS s cs).length≤s.length:=by
 unfold Lib.trimS Lib.trimLeftS
 exact Nat.le_trans (List.dropWhile_suffix _).length_le (qqW s cs)
theorem qqV (s:List UInt8) (cs:List UInt8):Lib.trimRightS s cs <+: s:=by
 unfold Lib.trimRightS
 have:=List.reverse_prefix.2 (List.dropWhile_suffix (l:=s.reverse) (fun x=>cs.contains x))
 rwa [yw] at this
theorem quH (s:List UInt8):decide (Lib.trimS s [32]=s)=(!Lib.hasPrefix s [32] && !sufE s [32]):=by
 by_cases h1:Lib.hasPrefix s [32]=true
 ·obtain ⟨t,rfl⟩:=(hp1 _ _).1 h1
  rw [h1,decide_eq_false]
  ·rfl
  ·intro h
   have hl:=congrArg List.length h
   have hp:=qqV (32 :: t) [32]
   unfold Lib.trimS Lib.trimLeftS at hl
   cases hu:Lib.trimRightS (32 :: t) [32] with
   |nil=>rw [hu] at hl;simp at hl
   |cons y u=>
    rw [hu] at hl hp
    have hy:y=32:=by obtain ⟨r,hr⟩:=hp;simp at hr;exact hr.1
    subst hy
    have h2:=hp.length_le
    have h3:=(List.dropWhile_suffix (l:=u) (fun x=>[(32:UInt8)].contains x)).length_le
    simp [List.dropWhile_cons] at hl h2 h3
    omega
 ·have h1':Lib.hasPrefix s [32]=false:=Bool.eq_false_iff.2 h1
  rw [h1']
  by_cases h2:sufE s [32]=true
  ·rw [h2,decide_eq_false]
   ·rfl
   ·intro h
    obtain ⟨t,rfl⟩:=(suf1 _ _).1 h2
    have hl:=congrArg List.length h
    have h3:=qqU t [32]
    have e:Lib.trimS (t++[32]) [32]=Lib.trimS t [32]:=by
     unfold Lib.trimS Lib.trimRightS
     simp [List.dropWhile_cons]
    rw [e] at hl
    simp at hl
    omega
  ·have h2':sufE s [32]=false:=Bool.eq_false_iff.2 h2
   rw [h2',decide_eq_true]
   ·rfl
   ·have hr:Lib.trimRightS s [32]=s:=by
     unfold Lib.trimRightS
     cases hs:s.reverse with
     |nil=>simp at hs;subst hs;rfl
     |cons y r=>
      have hy:y≠32:=by
       rintro rfl
       apply h2
       refine (suf1 _ _).2 ⟨r.reverse,?_⟩
       have:=congrArg List.reverse hs
       simpa using this
      rw [List.dropWhile_cons,if_neg (by simp [hy]),← hs,yw]
    unfold Lib.trimS
    rw [hr]
    unfold Lib.trimLeftS
    cases s with
    |nil=>rfl
    |cons y r=>
     have hy:y≠32:=by
      rintro rfl
      exact h1 ((hp1 _ _).2 ⟨r,rfl⟩)
     rw [List.dropWhile_cons,if_neg (by simp [hy])]
def qeo:IC:=(.seq (.reg [qO 2 (.mov (.c (.bool false)))]) (.seq (.reg [qM 3 0,qO 4 (.call 103 [.t 3,.c (.bool false)]),qM 5 4,⟨some 6,.mov (.t 0),(some (5,true))⟩,⟨some 7,.call 100 [.t 6,.c (.str [32])],(some (5,true))⟩,⟨some 8,.mov (.t 0),(some (5,true))⟩,⟨some 9,.bin .eql (.t 7) (.t 8),(some (5,true))⟩,qO 10 (.pick (.t 5) (.t 9) (.c (.bool false))),qM 11 10,⟨some 12,.mov (.t 0),(some (11,true))⟩,⟨some 13,.call 104 [.t 12,.c (.str [32,32])],(some (11,true))⟩,⟨some 14,.not (.t 13),(some (11,true))⟩,qO 15 (.pick (.t 11) (.t 14) (.c (.bool false))),qM 2 15]) .ret))
def qeb:List IRes:=[.t 2]
theorem qht:chkF Tryz.prog Tryz.f63 qeo qeb 16=true:=by kernel_rfl
theorem qlD (s:List UInt8) (hs:s.length≤1000000000):PCall Tryz.prog E0 63 [.str s] (·=.bool (qcD s)):=by
 refine qaf mixed Tryz.func63 qht ?_
 simp only [a0,l0,OS.ao,zl,zt,zk,zp,zo,zq,zu,zd,zj,zm,qeo,qeb,ZZ,WW,Ze,reduceCtorEq,zd,ze,za,zf,zb]
 refine use1 (qlH s false hs) rfl (.inl rfl) ?_
 simp only [ZZ,WW,Ze,reduceCtorEq,zd,ze,za,zf,zb]
 refine useG (fun _=>qlC s [32] hs (by decide) (by decide)) rfl (.inl rfl) ?_
 simp only [ZZ,WW,Ze,reduceCtorEq,zd,ze,za,zf,zb]
 refine useG (fun _=>qkN s [32,32] hs) rfl (.inl rfl) ?_
 simp only [ZZ,WW,Ze,reduceCtorEq,zd,ze,za,zf,zb]
 rw [qcD,quH]
 cases visE s false<;>cases Lib.hasPrefix s [32]<;>cases sufE s [32]<;>rfl
def qe9:IC:=(.seq (.reg [qO 2 (.mov (.c (.bool false)))]) (.seq (.reg [qM 3 0,qO 4 (.sln (.t 3)),qO 5 (.bin .geq (.t 4) (.c (.int .i64 1))),qM 6 5,⟨some 7,.mov (.t 0),(some (6,true))⟩,⟨some 8,.sln (.t 7),(some (6,true))⟩,⟨some 9,.bin .leq (.t 8) (.c (.int .i64 40)),(some (6,true))⟩,qO 10 (.pick (.t 6) (.t 9) (.c (.bool false))),qM 11 10,⟨some 12,.mov (.t 0),(some (11,true))⟩,⟨some 13,.call 58 [.t 12,.c (.str [97,98,99,100,101,102,103,104,105,106,107,108,109,110,111,112,113,114,115,116,117,118,119,120,121,122,48,49,50,51,52,53,54,55,56,57,45,95])],(some (11,true))⟩,qO 14 (.pick (.t 11) (.t 13) (.c (.bool false))),qM 15 14,⟨some 16,.mov (.t 0),(some (15,true))⟩,⟨some 17,.ssl (.t 16) none (some (.c (.int .i64 1))),(some (15,true))⟩,⟨some 18,.call 58 [.t 17,.c (.str [97,98,99,100,101,102,103,104,105,106,107,108,109,110,111,112,113,114,115,116,117,118,119,120,121,122])],(some (15,true))⟩,qO 19 (.pick (.t 15) (.t 18) (.c (.bool false))),qM 2 19]) .ret))
def qe0:List IRes:=[.t 2]
theorem qiL:chkF Tryz.prog Tryz.f24 qe9 qe0 20=true:=by kernel_rfl
section
variable {E:Envt}
theorem qiU (s:List UInt8) (hs:s.length≤1000000000):PCall Tryz.prog E 24 [.str s] (·=.bool (keyB s)):=by
 have hset:kcSet=[97,98,99,100,101,102,103,104,105,106,107,108,109,110,111,112,113,114,115,116,117,118,119,120,121,122,48,49,50,51,52,53,54,55,56,57,45,95]:=rfl
 refine qaf mixed Tryz.func24 qiL ?_
 simp only [a0,l0,OS.ao,zl,zt,zk,zp,zo,zq,zu,zd,zj,zm,qe9,qe0,ZZ,WW,Ze,reduceCtorEq,zd,ze,za,zf,zb]
 refine useG (fun _=>qry s kcSet hs (by decide) (by decide)) rfl (.inl rfl) ?_
 simp only [ZZ,WW,Ze,reduceCtorEq,zd,ze,za,zf,zb]
 ((repeat' (with_reducible apply And.intro))<;>try ((exact sc_)))
 refine useG (fun _=>qry (s.take 1) smSet (by simp;omega) (by decide) (by decide)) rfl (.inl rfl) ?_
 simp only [ZZ,WW,Ze,reduceCtorEq,zd,ze,za,zf,zb]
 have e1:(fun c=>kcSet.contains c)=kcB:=funext qvO
 have e2:(fun c=>smSet.contains c)=smB:=funext qvn
 rw [qnt,qnt,e1,e2,keyB]
 cases s with
 |nil=>rfl
 |cons c r=>
  simp only [List.take_succ_cons,List.take_zero,List.all_cons,List.all_nil,Bool.and_true,List.headD_cons,inE]
  generalize decide ((1:Int)≤((c :: r).length:Nat))=b1
  generalize decide (((c :: r).length:Nat)≤(40:Int))=b2
  generalize r.all kcB=b3
  generalize smB c=b4
  generalize kcB c=b5
  cases b1<;>cases b2<;>cases b3<;>cases b4<;>cases b5<;>rfl
end
def qhE:IC:=(.seq (.reg [qO 2 (.mov (.c (.bool false)))]) (.seq (.reg [qM 3 0,qO 4 (.call 75 [.t 3,.c (.int .i64 0),.c (.int .i64 5761439)]),qM 2 4]) .ret))
def qhz:List IRes:=[.t 2]
theorem qk4:chkF Tryz.prog Tryz.f89 qhE qhz 5=true:=by kernel_rfl
def qeO:IC:=(.seq (.reg [qO 2 (.mov (.c (.bool false)))]) (.seq (.reg [qM 3 0,qO 4 (.bin .geq (.t 3) (.c (.int .i64 0))),qM 5 4,⟨some 6,.mov (.t 0),(some (5,true))⟩,⟨some 7,.bin .lss (.t 6) (.c (.int .i64 5761440)),(some (5,true))⟩,qO 8 (.pick (.t 5) (.t 7) (.c (.bool false))),qM 2 8]) .ret))
def qeB:List IRes:=[.t 2]
theorem qhS:chkF Tryz.prog Tryz.f62 qeO qeB 9=true:=by kernel_rfl
section
variable {E:Envt}
theorem qn7 (n:Int):PCall Tryz.prog E 89 [int n] (·=.bool (inE n 0 5761439)):=by
 refine qaf mixed Tryz.func89 qk4 ?_
 simp only [a0,l0,OS.ao,zl,zt,zk,zp,zo,zq,zu,zd,zj,zm,qhE,qhz,ZZ,WW,Ze,reduceCtorEq,zd,ze,za,zf,zb]
 refine use1 (qqO n 0 5761439) rfl (.inl rfl) ?_
 simp only [ZZ,WW,Ze,reduceCtorEq,zd,ze,za,zf,zb]
theorem qlF (n:Int):PCall Tryz.prog E 62 [int n] (·=.bool (inE n 0 5761439)):=by
 refine qaf mixed Tryz.func62 qhS ?_
 simp only [a0,l0,OS.ao,zl,zt,zk,zp,zo,zq,zu,zd,zj,zm,qeO,qeB,ZZ,WW,Ze,reduceCtorEq,zd,ze,za,zf,zb]
 have:(decide (0≤n) && decide (n < 5761440))=inE n 0 5761439:=by
  unfold inE
  rw [Bool.eq_iff_iff]
  simp only [zh,decide_eq_true_eq]
  omega
 rw [this]
end
end Go.Proofs.YtjgdjinhkgjpeaaGreatDoor
