import Derived.Test.YtjgdjinhkgjpeabGreatDoorLogsWrittenKb
namespace Go.Proofs.YtjgdjinhkgjpeabGreatDoor.logsWrittenDone
open Go.ChangeShapes Go.WideShapes Go.ChangeAt Go.RowKit Go.Lib
open Go.ChangeMaps (open_string shut_string)
set_option linter.unusedVariables false
set_option linter.unusedSimpArgs false
set_option linter.defProp false
theorem band {a b:Bool} (h1:a=true) (h2:b=true):(a && b)=true:=by rw [h1,h2];rfl
set_option maxHeartbeats 4000000 in
set_option maxRecDepth 100000 in
theorem closed:joinedFacts Tryz.pinned.checked.prog 3 Tryz.f3 (OpenSpec.ofChange Rows.logsWrittenSpec).bare Rows.logsWrittenRow=true:=by
 unfold joinedFacts
 repeat' (with_reducible apply band)
 all_goals (as_aux_lemma=>kernel_rfl)
theorem named:Tryz.pinned.checked.prog.funcNamed Rows.logsWrittenRow.func=some 3:=by kernel_rfl
theorem said:Rows.LogsWrittenSaid:=
 OpenClaim.holds_of_cond 3 Tryz.f3 rfl rfl rfl rfl rfl rfl rfl ⟨rfl,rfl,rfl,rfl,rfl⟩ rfl rfl rfl rfl rfl named Tryz.func3 closed
  (of_decide_eq_true (by as_aux_lemma=>kernel_rfl)) (by unfold Func.isWrapper;first|(rw [if_pos (by decide +kernel)];kernel_rfl)|(rw [if_neg (by decide +kernel)];exact ⟨rfl,rfl⟩))
  (fun os started H enc _ F=>by rw [OpenClaim.pre_eq_preRow];exact qxS os started H enc F)
theorem plain (b:Bool) (hb:b=Tryz.pinned.checked.prog.looks []) (f:FuncId) (fn:Func) (hf:Tryz.pinned.checked.prog.funcNamed "paperchase/chaselaw1.LogsWritten" = some f) (hfn:Tryz.pinned.checked.prog.funcs[f]?=some fn) :
  b=Tryz.pinned.checked.prog.looks []∧∀ (j:Nat) t,fn.params[j]?=some t→Tryz.pinned.checked.prog.wantsStandIn t=false:=by
 obtain rfl:f=3:=Option.some.inj ((show Tryz.prog.funcNamed "paperchase/chaselaw1.LogsWritten" = some 3 by kernel_rfl).symm.trans hf) |>.symm
 obtain rfl:fn=Tryz.f3:=(Option.some.inj (Tryz.func3.symm.trans hfn)).symm
 refine ⟨hb,fun j t ht=>?_⟩
 rw [Tryz.params3] at ht
 have hmem:t=22:=by simpa using Array.mem_of_getElem? ht
 subst hmem
 exact (show Tryz.prog.wantsStandIn 22=false by kernel_rfl)
end Go.Proofs.YtjgdjinhkgjpeabGreatDoor.logsWrittenDone
