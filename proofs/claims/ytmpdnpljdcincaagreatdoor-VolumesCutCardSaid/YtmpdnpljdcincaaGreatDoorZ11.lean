import Derived.Test.YtmpdnpljdcincaaGreatDoorZ6
import Derived.Test.YtmpdnpljdcincaaGreatDoorZ10
import Derived.Maps.OwnIn
set_option linter.unusedVariables false
set_option linter.unusedSimpArgs false
set_option linter.defProp false
namespace Go.Proofs.YtmpdnpljdcincaaGreatDoor
open Go.RowKit Go.Shelf
attribute [local go_sem] Oper.semAt_some
def Kq (N B:Nat) (W W':World):Prop:=Grow W W' (fun b=>b=B∨N≤b)
def pgF (l:SRow) (k:Nat):SRow:=(l.drop (k * 50)).take 50
def pgsF (l:SRow):Tab:=if l=[] then [[]] else (List.range ((l.length+49) / 50)).map (pgF l)
def ElR (W:World) (N b:Nat) (own:Option Nat) (l:SRow) (u:Value):Prop:=
 ∃ A c,u=.slice A l.length c∧l.length≤c∧(l≠[]→∃ k off,A=some ⟨k,off,none⟩∧k < W.heap.size∧(N≤k∨k=b)∧own≠some k∧∀ j s,l[j]?=some s→W.cell? ⟨k,off+j,none⟩=some (.string ⟨s.toArray⟩))
theorem ElR.kept {W W':World} {N b:Nat} {own own':Option Nat} {l:SRow} {u:Value} (h:ElR W N b own l u) (hs:W.heap.size≤W'.heap.size) (hk:∀ k,k < W.heap.size→(N≤k∨k=b)→own≠some k→own'≠some k∧∀ j v,W.cell? ⟨k,j,none⟩=some v→W'.cell? ⟨k,j,none⟩=some v):ElR W' N b own' l u:=by
 obtain ⟨A,c,h1,h2,h3⟩:=h
 refine ⟨A,c,h1,h2,fun hl=>?_⟩
 obtain ⟨k,off,hA,hkl,hN,ho,hc⟩:=h3 hl
 obtain ⟨k1,k2⟩:=hk k hkl hN ho
 exact ⟨k,off,hA,by omega,hN,k1,fun j s hj=>k2 _ _ (hc j s hj)⟩
def CkI.n {len:Nat} (x:CkI len):Nat:=x.1
end Go.Proofs.YtmpdnpljdcincaaGreatDoor
