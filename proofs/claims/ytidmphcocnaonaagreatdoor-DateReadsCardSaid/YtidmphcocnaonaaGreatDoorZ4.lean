
/- Own texts, put together: A30 A31. -/
import Derived.Test.YtidmphcocnaonaaGreatDoorZ3
/- Calls walked in place: the callee's body is reckoned with the caller's objects (under new names), then goes on with the caller. No program in sight. -/
namespace Go.Proofs.YtidmphcocnaonaaGreatDoor
set_option linter.unusedVariables false
set_option linter.unusedSimpArgs false
set_option linter.defProp false

section
variable {w w' : World} {U : Nat → Prop} {ι ι' : Key → Value} {f : Key → Option Key}
end

section
variable {P : Program} {E : Envt}
variable {L : Objs} {fr : List AV} {d : Option Nat} {is : List IOper} {Y : List PV} {K : List AV → Objs → Prop}
end
end Go.Proofs.YtidmphcocnaonaaGreatDoor

/- The state told in other words: an object under another name, a plain row as one whose cells may be rows, and back. No program in sight. -/
namespace Go.Proofs.YtidmphcocnaonaaGreatDoor
set_option linter.unusedVariables false
set_option linter.unusedSimpArgs false
set_option linter.defProp false

/-- One name for another. -/
def r1 (d q : Nat) (k : Key) : Option Key := if k = .l d then some (.l q) else if k = .l q then none else some k
section
variable {E : Envt} {B : Base} {w : World} {L : Objs} {ι : Key → Value} {fr : List AV} {a : Act}
end
end Go.Proofs.YtidmphcocnaonaaGreatDoor
