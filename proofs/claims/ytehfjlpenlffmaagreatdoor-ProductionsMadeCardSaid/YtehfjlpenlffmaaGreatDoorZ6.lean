import Derived.RangeFuncNested
import Derived.RangeFuncBound
import Derived.RangeFuncCalls
import Derived.RangeFuncLeaves
import Derived.RangeFuncBox
import Derived.Shelf.Abstract
import Derived.Shelf.RegionOpen
import Derived.WalkKit
import Derived.OwnWalkIn
import Derived.TacticsInMore
import Derived.RegionIn
import Derived.LoopNIn
import Derived.LoopIn
import Derived.Maps.AppendAt
import Derived.Test.YtehfjlpenlffmaaGreatDoorZ5
set_option linter.unusedVariables false
set_option linter.unusedSimpArgs false
set_option linter.defProp false
namespace Go.Proofs.YtehfjlpenlffmaaGreatDoor
open Nat renaming reduceAdd→zd,reduceSub→zu
open List renaming cons_append→zl,length_cons→zi,length_nil→zo,nil_append→zm
open Go.RowKit Go.Shelf
attribute [local go_sem] Oper.semAt_some
set_option maxRecDepth 100000 in
set_option maxHeartbeats 1000000 in
theorem qyg (F:Fence) (n:Nat) (h5:F.fn 260) (hro:F.round=none) (a:Option Addr) (len cap:Nat) (w:World) :
  CallsIn F n Tryz.prog 260 #[.slice a len cap,.int .i64 50] w fun e w'=>e=.returned (.func (.func 312) #[] #[.pointer (some ⟨w.heap.size,0,none⟩),.pointer (some ⟨w.heap.size+1,0,none⟩)])∧w'=(w.alloc (.cells #[.slice a len cap] 58)).alloc (.cells #[.int .i64 50] 3):=by
 refine callsIn_of_wp Tryz.func260 rfl h5 ?_ hro
 simp only [Tryz.ntmps260,List.size_toArray,zi,zo,zd,zu,Array.replicate_succ,Array.replicate_zero,List.push_toArray,List.append_toArray,zm,zl]
 gi_wp2
 go_ret
 exact ⟨rfl,rfl⟩
structure HidT (p:Prop):Prop where
 out:p
def CkI (len:Nat):Type:={ j:Nat // j * 50 < len }
def ckV (b off len:Nat) (x:CkI len):Value:=.slice (some ⟨b,off+x.1 * 50,none⟩) (min 50 (len - x.1 * 50)) (min 50 (len - x.1 * 50))
def ckL (len:Nat):Nat→List (CkI len)
 |0=>[]
 |k+1=>if h:k * 50 < len then ckL len k++[⟨k,h⟩] else ckL len k
theorem qqi (len:Nat):∀ k,k * 50 < len+50→(ckL len k).length=k
 |0,_=>rfl
 |k+1,h=>by
  rw [ckL,dif_pos (by omega),List.length_append,qqi len k (by omega)]
  rfl
set_option maxRecDepth 100000 in
set_option maxHeartbeats 2000000 in
theorem qwt (F:Fence) (n:Nat) (h7:F.fn 312) (hro:F.round=none) (hn:1≤n) (l Bs b off len cap:Nat) (hl:len≤1000000) (hcap:len≤cap) (Kp:World→World→Prop) (hKc:∀ A B,Kp A B→∀ c v,(c=Bs∨c=Bs+1)→A.cell? ⟨c,0,none⟩=some v→B.cell? ⟨c,0,none⟩=some v) (J Jx:List (CkI len)→World→Prop) (hJ:∀ s X,J s X→J s X.drew)
  (hY:∀ pre x W,J pre W→pre.length < len→YieldAt F (n - 1) Tryz.prog l #[ckV b off len x] W fun e W'=>
   (e=.returned (.bool true)∧J (pre++[x]) W'∧Kp W W')∨(e=.returned (.bool false)∧Jx (pre++[x]) W'))
  (W:World) (hBs:W.cell? ⟨Bs,0,none⟩=some (.slice (some ⟨b,off,none⟩) len cap)) (hBn:W.cell? ⟨Bs+1,0,none⟩=some (.int .i64 50)) (h0:J [] W) :
  CallsIn F n Tryz.prog 312 #[.func (.yield l) #[] #[],.pointer (some ⟨Bs,0,none⟩),.pointer (some ⟨Bs+1,0,none⟩)] W fun e W'=>(∃ v,e=.returned v)∧
   ((∃ ys,ys=ckL len ((len+49) / 50)∧J ys W')∨(∃ pre,True∧Jx pre W')):=by
 refine callsIn_of_wp Tryz.func312 rfl h7 ?_ hro
 simp only [Tryz.ntmps312,List.size_toArray,zi,zo,zd,zu,Array.replicate_succ,Array.replicate_zero,List.push_toArray,List.append_toArray,zm,zl]
 gi_wp2
 gi_loopw [4,5] (fun i e wr=>∃ k q:Nat,q=k * 50∧q < len+50∧i=.int .i64 (q:Nat)∧J (ckL len k) wr∧wr.cell? ⟨Bs,0,none⟩=some (.slice (some ⟨b,off,none⟩) len cap)∧wr.cell? ⟨Bs+1,0,none⟩=some (.int .i64 50))
  (fun i _ _=>len - (intOf i).toNat)
 case atStart=>exact ⟨0,0,rfl,by omega,rfl,h0,hBs,hBn⟩
 case round=>
  obtain ⟨k,q,hq,hk,rfl,hJs,hBs2,hBn2⟩:=hrel
  by_cases hlt:q < len
  ·have hkl:k * 50 < len:=by omega
   obtain ⟨fn,tmps,assign,body,hy,hR⟩:=hY _ ⟨k,hkl⟩ wr.drew (hJ _ _ hJs) (by rw [qqi len k (by omega)];omega)
   have hmx:Tryz.prog.follows .mixedOrders=true:=by kernel_rfl
   obtain ⟨m,hm⟩:∃ m,m=min 50 (len - q):=⟨_,rfl⟩
   have hm1:m≤50:=by omega
   have hm2:q+m≤len:=by omega
   have hm0:0 < m:=by omega
   have hend:(if ((len - q:Nat):Int) < 50 then ((len - q:Nat):Int) else 50)=(m:Nat):=by split<;>omega
   have hv:ckV b off len ⟨k,hkl⟩=.slice (some ⟨b,off+q,none⟩) m m:=by simp only [ckV,← hq,← hm]
   rw [hv] at hy
   have HQ:=HidT.mk hq
   have HM:=HidT.mk hm
   clear hq hm hv
   have hBs3:wr.drew.cell? ⟨Bs,0,none⟩=some (.slice (some ⟨b,off,none⟩) len cap):=hBs2
   have hBn3:wr.drew.cell? ⟨Bs+1,0,none⟩=some (.int .i64 50):=hBn2
   gi_wp2
   refine (fun (key:HidT ?GoalX)=>?main) ?hkey
   case main=>
    gi_region
    all_goals exact key.out
   refine HidT.mk ?_
   gi_wp2
   refine hR.mono ?_
   rintro e W3 (⟨rfl,hJ3,hk3⟩|⟨rfl,hJx3⟩)
   ·have hBn5:=hKc _ _ hk3 (Bs+1) _ (.inr rfl) hBn3
    have hBs5:=hKc _ _ hk3 Bs _ (.inl rfl) hBs3
    gi_wp2
    go_roundw
    case rel=>
     have e1:q+50=(k+1) * 50:=by have:=HQ.out;omega
     have e2:ckL len (k+1)=ckL len k++[⟨k,hkl⟩]:=by rw [ckL,dif_pos hkl]
     exact ⟨k+1,q+50,e1,by omega,by simp,by rw [e2];exact hJ3,hBs5,hBn5⟩
    case measure=>simp [intOf];omega
   ·gi_wp2
    refine bodyPost_ret (results_none rfl _ _ _) rfl ?_
    exact ⟨⟨_,rfl⟩,.inr ⟨_,trivial,hJx3⟩⟩
  ·obtain rfl:(len+49) / 50=k:=by omega
   gi_wp2
   go_end0
   exact ⟨⟨_,rfl⟩,.inl ⟨_,rfl,hJs⟩⟩
theorem qsQ (F:Fence) (n:Nat) (h7:F.fn 312) (hro:F.round=none) (hn:1≤n) (Bs b off len cap:Nat) (hl:len≤1000000) (hcap:len≤cap) (Kp:World→World→Prop) (hKc:∀ A B,Kp A B→∀ c v,(c=Bs∨c=Bs+1)→A.cell? ⟨c,0,none⟩=some v→B.cell? ⟨c,0,none⟩=some v)
  (w:World) (hs1:Bs+1 < w.heap.size) (hBs:w.cell? ⟨Bs,0,none⟩=some (.slice (some ⟨b,off,none⟩) len cap)) (hBn:w.cell? ⟨Bs+1,0,none⟩=some (.int .i64 50)) :
  SeqStopsK F n Tryz.prog 312 #[.pointer (some ⟨Bs,0,none⟩),.pointer (some ⟨Bs+1,0,none⟩)] (fun x:CkI len=>#[ckV b off len x]) Kp (fun ys=>ys=ckL len ((len+49) / 50)) (fun _=>True) len w:=fun l J Jx W hW hJ _ hY h0=>
 qwt F n h7 hro hn l Bs b off len cap hl hcap Kp hKc J Jx (fun s X h=>hJ s X X.drew none h ⟨rfl,rfl,rfl,Nat.le_refl _,fun _ _ _=>rfl⟩ (fun r e=>by cases e)) hY W
  ((hW.cell (p:=⟨Bs,0,none⟩) (by show Bs < w.heap.size;omega)).trans hBs) ((hW.cell (p:=⟨Bs+1,0,none⟩) hs1).trans hBn) h0
end Go.Proofs.YtehfjlpenlffmaaGreatDoor
