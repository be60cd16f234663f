/- A program logic over the model: what is owned, what is written no more, and one lemma for each kind of step. -/
import Derived.Test.YtkknmpkcfpdllaaGreatDoorSSlices
import Derived.Test.YtkknmpkcfpdllaaGreatDoorTFinds
namespace Go.Proofs.YtkknmpkcfpdllaaGreatDoor.B
open Go Go.Deep Go.ChangeShapes Go.WideShapes Go.ChangeAt Go.RowKit
set_option linter.unusedVariables false
section
variable {H:Type} {enc:TypeId×Value→H} {P:Program} {W:World}
theorem open_ues {b0 base:Nat} {spare:Nat→Bool} {held:Bool} {t e q:TypeId} {v:Value} {d:DataW H} {ps:List MemPlace} {f0 f1 f2 f3 f4:Field} (ht:P.underlying t=some (.slice e)) (he:P.underlying e=some (.struct #[f0,f1,f2,f3,f4])) (hone:Deep.oneCellFields P #[f0,f1,f2,f3,f4]=true) (hC:P.cellsOf e=5)
    (u0:P.underlying f0.type=some (.int .i64)) (u1:P.underlying f1.type=some (.int .i64)) (u2:P.underlying f2.type=some (.slice q)) (u3:P.underlying f3.type=some .bool) (u4:P.underlying f4.type=some (.slice q)) (hq:P.underlying q=some (.int .u8)) (cq:P.cellsOf q=1)
    (hv:Value.okWide P W .any b0 t v) (h:DataW.Trod enc P W base spare held t v d ps): ∃l:List Ent,DR 5 UeR (fun b=>W.heap[b]?) v l∧l.length≤maxLen:=by
  refine open_slc ht hC (by omega) (fun n cs z hz hl=> ?_) hv h;obtain ⟨xs,m,_,hx,_,hlen,hff⟩:=DataW.trod_struct he hz;obtain ⟨o0,k0⟩:=Deep.hone_of hone 0 f0 rfl;obtain ⟨o1,k1⟩:=Deep.hone_of hone 1 f1 rfl;obtain ⟨o2,k2⟩:=Deep.hone_of hone 2 f2 rfl;obtain ⟨o3,k3⟩:=Deep.hone_of hone 3 f3 rfl;obtain ⟨o4,k4⟩:=Deep.hone_of hone 4 f4 rfl
  match cs,hl,xs,hlen with
  | [c0,c1,c2,c3,c4],_, [y0,y1,y2,y3,y4],_=>
    have t0:DataW.trod enc P W base spare held m f0.type [c0]=some y0:=by simpa [o0,k0] using hff 0 f0 rfl
    have t1:DataW.trod enc P W base spare held m f1.type [c1]=some y1:=by simpa [o1,k1] using hff 1 f1 rfl
    have t2:DataW.trod enc P W base spare held m f2.type [c2]=some y2:=by simpa [o2,k2] using hff 2 f2 rfl
    have t3:DataW.trod enc P W base spare held m f3.type [c3]=some y3:=by simpa [o3,k3] using hff 3 f3 rfl
    have t4:DataW.trod enc P W base spare held m f4.type [c4]=some y4:=by simpa [o4,k4] using hff 4 f4 rfl
    obtain ⟨tx,e0,_,_⟩:=DataW.trod_int u0 t0;obtain rfl:c0= .int .i64 tx:=by simpa using e0
    obtain ⟨en,e1,_,_⟩:=DataW.trod_int u1 t1;obtain rfl:c1= .int .i64 en:=by simpa using e1
    obtain ⟨had,e3,_⟩:=DataW.trod_bool u3 t3;obtain rfl:c3= .bool had:=by simpa using e3
    obtain ⟨bk,rbk,_⟩:=open_bytesT u2 hq cq t2;obtain ⟨bv,rbv,_⟩:=open_bytesT u4 hq cq t4;exact ⟨⟨tx,en,bk,had,bv⟩,c2,c4,rfl,rbk,rbv⟩
end
end Go.Proofs.YtkknmpkcfpdllaaGreatDoor.B
