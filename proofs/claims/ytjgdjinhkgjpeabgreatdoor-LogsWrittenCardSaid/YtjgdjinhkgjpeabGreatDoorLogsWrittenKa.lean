import Derived.Test.YtjgdjinhkgjpeabGreatDoorLogsWritten
import Derived.Test.YtjgdjinhkgjpeabGreatDoorCards
import Derived.Test.YtjgdjinhkgjpeabGreatDoorTie
import Derived.ProofKit
import Derived.OpenShut
import Derived.ShutString
import Derived.ChangeOld
import Derived.Deep.DeepHandedRow
import Derived.Deep.DeepWitnessRowRef
import Derived.Lib.LaidTab
import Derived.Lib.LaidIn
import Derived.Lib.LaidU8T
import Derived.PinnedBridge
import Derived.Deep.DeepLaidRun
import Derived.Stop.LaidErr
import Derived.Shelf.Vars
namespace Go.Proofs.YtjgdjinhkgjpeabGreatDoor.logsWrittenDone
open Go.ChangeShapes Go.WideShapes Go.ChangeAt Go.RowKit Go.Lib
open Go.ChangeMaps (open_string shut_string)
set_option linter.unusedVariables false
set_option linter.unusedSimpArgs false
set_option linter.defProp false
theorem own:ownKnob Tryz.prog.godebug=none:=by kernel_rfl
theorem qv9:laidOutB Tryz.prog=true:=by kernel_rfl
theorem qsn:Rows.laid_unicode_utf8_acceptRanges=(Lib.acceptData:DataW Unit):=by kernel_rfl
theorem qpu:Rows.laid_unicode_utf8_first=(Lib.firstData:DataW Unit):=Pinned.utf8First_eq
theorem qxz:Rows.laid_internal_strconv_uint64pow10=(Lib.tabData .u64 Lib.pow10Tab:DataW Unit):=by kernel_rfl
theorem qyv:Rows.laid_strings_asciiSpace=(Lib.tabData .u8 Lib.asciiSpaceTab:DataW Unit):=by kernel_rfl
def qlN:DataW Unit→List Value
 |.agg l=>l.filterMap fun
  |.lit (.int k n)=>some (.int k n)
  |_=>none
 |_=>[]
noncomputable def qhP (os:Os):World:=
 let w0:=World.holding Tryz.prog os ⟨#[],#[],[]⟩
 let put (h:Array Obj) (g:Nat) (cs:Array Value):Array Obj:=h.modify g fun
  |.cells _ t frozen=>.cells cs t frozen
  |o=>o
 let h1:=put w0.heap 2 (Lib.firstTab.map fun z=>Value.int .u8 z).toArray
 let h2:=put h1 3 ((List.range 16).flatMap fun i=>[Value.int .u8 (Lib.accLo i),Value.int .u8 (Lib.accHi i)]).toArray
 let h3:=put h2 8 (qlN Rows.laid_math_bits_deBruijn32tab).toArray
 let h4:=put h3 9 (qlN Rows.laid_math_bits_deBruijn64tab).toArray
 let h5:=put h4 5 (qlN Rows.laid_internal_strconv_uint64pow10).toArray
 let h6:=(h5.push (.cells #[.string ⟨#[105,110,118,97,108,105,100,32,115,121,110,116,97,120]⟩] 259)).push (.cells #[.string ⟨#[118,97,108,117,101,32,111,117,116,32,111,102,32,114,97,110,103,101]⟩] 259)
 let h7:=put h6 6 #[.iface 257 (.pointer (some ⟨h5.size,0,none⟩))]
 let h8:=put h7 7 #[.iface 257 (.pointer (some ⟨h5.size+1,0,none⟩))]
 let h9:=(h8.push (.cells (([9,13,1,32,133,101,160,5760,5600,8192,8202,1,8232,8233,1,8239,8287,48,12288,12288,1]:List Int).map fun z=>Value.int .u16 z).toArray 250)).push (.cells #[.slice (some ⟨h8.size,0,none⟩) 7 7,.slice none 0 0,.int .i64 2] 247)
 let h10:=put h9 4 #[.pointer (some ⟨h8.size+1,0,none⟩)]
 let h11:=put h10 1 (qlN Rows.laid_strings_asciiSpace).toArray
 { w0 with heap:=h11 }
theorem qtC (os:Os) (args:Array Value):laidMet Tryz.prog Rows.logsWrittenRow.laid ((qhP os).forCall (fun _ _=>0) ⟨#[],args,[]⟩).memory:=
 laidMet_of_run3 (l:=[("math/bits.deBruijn32tab",Rows.laid_math_bits_deBruijn32tab),("math/bits.deBruijn64tab",Rows.laid_math_bits_deBruijn64tab),("internal/strconv.uint64pow10",Rows.laid_internal_strconv_uint64pow10),("unicode/utf8.acceptRanges",Rows.laid_unicode_utf8_acceptRanges),("strconv.ErrRange",Rows.laid_strconv_ErrRange),("strconv.ErrSyntax",Rows.laid_strconv_ErrSyntax),("unicode.White_Space",Rows.laid_unicode_White_Space),("strings.asciiSpace",Rows.laid_strings_asciiSpace),("unicode/utf8.first",Rows.laid_unicode_utf8_first)]) 8 (by kernel_rfl) (by kernel_rfl) (by kernel_rfl)
theorem qnQ (os:Os) {H:Type} (enc:TypeId×Value→H) :
  (OpenSpec.ofChange Rows.logsWrittenSpec).preRow enc Tryz.prog Tryz.f3 Rows.logsWrittenRow.domain false Rows.logsWrittenRow.laid ((qhP os).forCall (fun _ _=>0) ⟨#[],#[.slice none 0 0],[]⟩).memory #[.slice none 0 0]:=by
 have hw:(DataW.whole enc Tryz.prog ((qhP os).forCall (fun _ _=>0) ⟨#[],#[.slice none 0 0],[]⟩).memory Tryz.f3.params.toList (OpenSpec.ofChange Rows.logsWrittenSpec).vars false (#[.slice none 0 0]:Array Value).toList 8).map (fun x=>(x.1,x.2.1)) =
   some ([.nil],[]):=by kernel_rfl
 obtain ⟨⟨x1,x2,x3⟩,hx,hx1⟩:=Option.map_eq_some_iff.1 hw
 simp only [Prod.mk.injEq] at hx1
 obtain ⟨rfl,rfl⟩:=hx1
 exact OpenSpec.preRow_of_cond 8 hx (by kernel_rfl) (fun k hk=>by cases hk) (by kernel_rfl) (qtC os _)
end Go.Proofs.YtjgdjinhkgjpeabGreatDoor.logsWrittenDone
