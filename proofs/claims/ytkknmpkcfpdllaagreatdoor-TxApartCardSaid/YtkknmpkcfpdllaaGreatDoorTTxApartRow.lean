/- The statement Rows.TxApartCardSaid is proved here, for every input, as its card states it; the package variables that its row lists are as the program's text lays them. -/
import Derived.Test.YtkknmpkcfpdllaaGreatDoorTTxApartRowA
namespace Go.Proofs.YtkknmpkcfpdllaaGreatDoor.B
open Go Go.ChangeShapes Go.WideShapes Go.ChangeAt Go.RowKit Go.Proofs Go.Proofs.YtkknmpkcfpdllaaGreatDoor
set_option linter.unusedVariables false
set_option maxRecDepth 100000
theorem txApart_said:Rows.TxApartSaid:=
 OpenClaim.holds_of_cond 11 Tryz.f11 rfl rfl rfl rfl rfl rfl rfl ⟨rfl,rfl,rfl,rfl,rfl⟩ rfl rfl rfl rfl rfl (by kernel_rfl) Tryz.func11 (by kernel_rfl)
  (of_decide_eq_true (by kernel_rfl)) (by unfold Func.isWrapper;first|(rw [if_pos (by decide+kernel)];kernel_rfl)|(rw [if_neg (by decide+kernel)];exact ⟨rfl,rfl⟩))
  (fun os started H enc _ F=>by rw [OpenClaim.pre_eq_preRow];exact txApart_lifted os started H enc F)
theorem txApart_plain (f:FuncId) (fn:Func) (hf:Tryz.pinned.checked.prog.funcNamed "sextet/sextetlaw24.TxApart" =some f) (hfn:Tryz.pinned.checked.prog.funcs[f]? =some fn) :
  true=Tryz.pinned.checked.prog.looks []/\ ∀(j:Nat) t,fn.params[j]? =some t->Tryz.pinned.checked.prog.wantsStandIn t=false:=by
 obtain rfl:f=11:=Option.some.inj ((show Tryz.prog.funcNamed "sextet/sextetlaw24.TxApart" =some 11 by kernel_rfl).symm.trans hf) |>.symm;obtain rfl:fn=Tryz.f11:=(Option.some.inj (Tryz.func11.symm.trans hfn)).symm;refine ⟨by kernel_rfl,fun j t ht=> ?_⟩;rw [Tryz.params11] at ht;have hm:t∈ [3,4,33]:=by simpa using Array.mem_of_getElem? ht
 have hall:([3,4,33].all fun u=> !Tryz.prog.wantsStandIn u)=true:=by kernel_rfl
 exact (show Tryz.prog.wantsStandIn t=false by simpa using List.all_eq_true.1 hall t hm)
theorem txApart_holds:Rows.TxApartCardSaid:=
 Claim7.holds_tied_plain_at .later [] _ _ _ _ txApart_said (fun _ h=>by cases h) (by kernel_rfl) (fun _ h=>by cases h) txApart_row_tie rfl ⟨rfl,rfl⟩ (by kernel_rfl) rfl txApart_plain (by kernel_rfl)
end Go.Proofs.YtkknmpkcfpdllaaGreatDoor.B
namespace Go.Proofs.YtkknmpkcfpdllaaGreatDoor
/-- The card, under a short name. -/
theorem txApart_holds : Rows.TxApartCardSaid := B.txApart_holds
#print axioms txApart_holds
end Go.Proofs.YtkknmpkcfpdllaaGreatDoor
