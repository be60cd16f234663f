/- A program logic over the model: what is owned, what is written no more, and one lemma for each kind of step. -/
import Derived.Test.YtkknmpkcfpdllaaDoorSSlices
import Derived.Test.YtkknmpkcfpdllaaDoorTPlays
namespace Go.Proofs.YtkknmpkcfpdllaaDoor.B
open Go Go.Deep Go.ChangeShapes Go.WideShapes Go.ChangeAt Go.RowKit
set_option linter.unusedVariables false
instance:Inhabited Dq:=⟨⟨0, [], []⟩⟩
section
variable {H:Type} {enc:TypeId×Value→H} {P:Program} {W:World}
theorem open_dos {b0 base:Nat} {spare:Nat→Bool} {held:Bool} {t e q:TypeId} {v:Value} {d:DataW H} {ps:List MemPlace} {f0 f1 f2:Field} (ht:P.underlying t=some (.slice e)) (he:P.underlying e=some (.struct #[f0,f1,f2])) (hC:P.cellsOf e=3)
    (o0:f0.offset=0) (o1:f1.offset=1) (o2:f2.offset=2) (k0:P.cellsOf f0.type=1) (k1:P.cellsOf f1.type=1) (k2:P.cellsOf f2.type=1) (u0:P.underlying f0.type=some (.int .i64)) (u1:P.underlying f1.type=some (.slice q)) (u2:P.underlying f2.type=some (.slice q)) (hq:P.underlying q=some (.int .u8)) (cq:P.cellsOf q=1)
    (hv:Value.okWide P W .any b0 t v) (h:DataW.Trod enc P W base spare held t v d ps): ∃l:List Dq,DR 3 DoR (fun b=>W.heap[b]?) v l∧l.length≤maxLen:=by
  refine open_slc ht hC (by omega) (fun n cs z hz hl=> ?_) hv h;obtain ⟨y0,y1,y2,m,_,_,t0,t1,t2⟩:=trod_struct3 he hz
  match cs,hl with
  | [c0,c1,c2],_=>
    rw [o0,k0] at t0;rw [o1,k1] at t1;rw [o2,k2] at t2;obtain ⟨tx,e0,_,_⟩:=DataW.trod_int u0 t0;obtain rfl:c0= .int .i64 tx:=by simpa using e0
    obtain ⟨bk,rbk,_⟩:=open_bytesT u1 hq cq t1;obtain ⟨bv,rbv,_⟩:=open_bytesT u2 hq cq t2;exact ⟨⟨tx,bk,bv⟩,c1,c2,rfl,rbk,rbv⟩
end
end Go.Proofs.YtkknmpkcfpdllaaDoor.B
