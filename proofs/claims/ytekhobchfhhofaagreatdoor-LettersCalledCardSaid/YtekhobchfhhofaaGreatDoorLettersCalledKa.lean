import Derived.Test.YtekhobchfhhofaaGreatDoorLettersCalled
import Derived.Test.YtekhobchfhhofaaGreatDoorCards
import Derived.Test.YtekhobchfhhofaaGreatDoorTie
import Derived.ProofKit
import Derived.OpenShut
import Derived.ShutString
import Derived.ChangeOld
import Derived.Deep.DeepHandedRow
import Derived.Deep.DeepWitnessRowRef
import Derived.Lib.LaidTab
import Derived.Lib.LaidIn
import Derived.Lib.LaidU8T
import Derived.PinnedBridge
import Derived.Deep.DeepLaidRun
import Derived.Stop.LaidErr
import Derived.Shelf.Vars
namespace Go.Proofs.YtekhobchfhhofaaGreatDoor.lettersCalledDone
open Go.ChangeShapes Go.WideShapes Go.ChangeAt Go.RowKit Go.Lib
open Go.ChangeMaps (open_string shut_string)
set_option linter.unusedVariables false
set_option linter.unusedSimpArgs false
set_option linter.defProp false
theorem own:ownKnob Tryz.prog.godebug=none:=by kernel_rfl
theorem qyv:laidOutB Tryz.prog=true:=by kernel_rfl
theorem quJ:Rows.laid_unicode_utf8_acceptRanges=(Lib.acceptData:DataW Unit):=by kernel_rfl
theorem qrQ:Rows.laid_unicode_utf8_first=(Lib.firstData:DataW Unit):=Pinned.utf8First_eq
theorem qAF:Rows.laid_strings_asciiSpace=(Lib.tabData .u8 Lib.asciiSpaceTab:DataW Unit):=by kernel_rfl
def qyE:DataW Unit→List Value
 |.agg l=>l.filterMap fun
  |.lit (.int k n)=>some (.int k n)
  |_=>none
 |_=>[]
noncomputable def qjl (os:Os):World:=
 let w0:=World.holding Tryz.prog os ⟨#[],#[],[]⟩
 let put (h:Array Obj) (g:Nat) (cs:Array Value):Array Obj:=h.modify g fun
  |.cells _ t frozen=>.cells cs t frozen
  |o=>o
 let h1:=put w0.heap 0 (Lib.firstTab.map fun z=>Value.int .u8 z).toArray
 let h2:=put h1 1 ((List.range 16).flatMap fun i=>[Value.int .u8 (Lib.accLo i),Value.int .u8 (Lib.accHi i)]).toArray
 let h9:=(h2.push (.cells (([9,13,1,32,133,101,160,5760,5600,8192,8202,1,8232,8233,1,8239,8287,48,12288,12288,1]:List Int).map fun z=>Value.int .u16 z).toArray 279)).push (.cells #[.slice (some ⟨h2.size,0,none⟩) 7 7,.slice none 0 0,.int .i64 2] 276)
 let h10:=put h9 4 #[.pointer (some ⟨h2.size+1,0,none⟩)]
 let h11:=put h10 3 (qyE Rows.laid_strings_asciiSpace).toArray
 { w0 with heap:=h11 }
theorem qvY (os:Os) (args:Array Value):laidMet Tryz.prog Rows.lettersCalledRow.laid ((qjl os).forCall (fun _ _=>0) ⟨#[],args,[]⟩).memory:=
 laidMet_of_run3 (l:=[("unicode/utf8.acceptRanges",Rows.laid_unicode_utf8_acceptRanges),("unicode.White_Space",Rows.laid_unicode_White_Space),("strings.asciiSpace",Rows.laid_strings_asciiSpace),("unicode/utf8.first",Rows.laid_unicode_utf8_first)]) 8 (by kernel_rfl) (by kernel_rfl) (by kernel_rfl)
theorem qql (os:Os) {H:Type} (enc:TypeId×Value→H) :
  (OpenSpec.ofChange Rows.lettersCalledSpec).preRow enc Tryz.prog Tryz.f3 Rows.lettersCalledRow.domain false Rows.lettersCalledRow.laid ((qjl os).forCall (fun _ _=>0) ⟨#[],#[.slice none 0 0],[]⟩).memory #[.slice none 0 0]:=by
 have hw:(DataW.whole enc Tryz.prog ((qjl os).forCall (fun _ _=>0) ⟨#[],#[.slice none 0 0],[]⟩).memory Tryz.f3.params.toList (OpenSpec.ofChange Rows.lettersCalledSpec).vars false (#[.slice none 0 0]:Array Value).toList 8).map (fun x=>(x.1,x.2.1)) =
   some ([.nil],[]):=by kernel_rfl
 obtain ⟨⟨x1,x2,x3⟩,hx,hx1⟩:=Option.map_eq_some_iff.1 hw
 simp only [Prod.mk.injEq] at hx1
 obtain ⟨rfl,rfl⟩:=hx1
 exact OpenSpec.preRow_of_cond 8 hx (by kernel_rfl) (fun k hk=>by cases hk) (by kernel_rfl) (qvY os _)
end Go.Proofs.YtekhobchfhhofaaGreatDoor.lettersCalledDone
