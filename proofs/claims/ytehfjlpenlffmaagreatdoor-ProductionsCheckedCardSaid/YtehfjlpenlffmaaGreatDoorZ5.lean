import Derived.Test.YtehfjlpenlffmaaGreatDoorZ1
set_option linter.unusedVariables false
set_option linter.unusedSimpArgs false
set_option linter.defProp false
namespace Go.Proofs.YtehfjlpenlffmaaGreatDoor
section
variable {α:Type} [DecidableEq α]
def ixO (a:α):List α→Nat
 |[]=>0
 |b :: r=>if a=b then 0 else ixO a r+1
def lc:List α→List α→Nat
 |[],_=>0
 |_ :: _,[]=>0
 |a :: az,b :: bs=>if a=b then lc az bs+1 else max (lc az (b :: bs)) (lc (a :: az) bs)
termination_by x y=>x.length+y.length
def kp (i j:Nat):List α→List α→List (Nat×Nat)
 |[],_=>[]
 |a :: az,bs=>
  if lc (a :: az) bs=0 then [] else
  if ixO a bs < bs.length∧lc az (bs.drop (ixO a bs+1))+1=lc (a :: az) bs then (i,j+ixO a bs) :: kp (i+1) (j+ixO a bs+1) az (bs.drop (ixO a bs+1))
  else kp (i+1) j az bs
def fk (a:α) (az bs:List α) (m:Nat):List α→Nat→Option Nat
 |[],_=>none
 |b :: r,k=>if a=b∧lc az (bs.drop (k+1))+1=m then some k else fk a az bs m r (k+1)
end
end Go.Proofs.YtehfjlpenlffmaaGreatDoor
