/- A program logic over the model: what is owned, what is written no more, and one lemma for each kind of step. -/
import Derived.Test.YtefaghnlmmgpcaaGreatDoorTSeg11
import Derived.Test.YtefaghnlmmgpcaaGreatDoorTFacts
import Derived.Test.YtefaghnlmmgpcaaGreatDoorTTreeRel
import Derived.Test.YtefaghnlmmgpcaaGreatDoorSLogB
import Derived.Test.YtefaghnlmmgpcaaGreatDoorSLaid
import Derived.Deep.Slices
namespace Go.Proofs.YtefaghnlmmgpcaaGreatDoor.B
open Go Go.Proofs
set_option linter.unusedVariables false
set_option linter.unusedSimpArgs false
set_option maxRecDepth 20000
set_option maxHeartbeats 8000000
theorem isNaN_int {w0 w:World} {D:Sto} {ss:List Seg} (I:Inv w0 D ss w) (x:Int) :
  Calls Tryz.prog 217 #[.int .i64 x] w (Ret fun r w'=>r= .bool false/\Inv w0 D ss w'):=by
 refine enter (N:=6) Tryz.func217 rfl rfl rfl ?_;intro a Z;refine go 6 Z I ?_;clear Z a;intro a Z;refine zs Z (p_cmp rfl rfl (neq_n (rfl))) ?_;clear Z a;intro a Z;refine go 3 Z I ?_;clear Z a;intro a Z;refine rt1 Z ?_;exact ⟨rfl,I⟩
open Go Go.Deep Go.ChangeShapes Go.WideShapes Go.ChangeAt Go.RowKit
def IntR (D:Sto) (vs:List Value) (x:Int):Prop:=vs= [.int .i64 x]
theorem IntR.keeps:Keeps IntR:=fun _ _ _ _ _ h=>h
section
variable {H:Type} {enc:TypeId×Value->H} {P:Program} {W:World}
end
end Go.Proofs.YtefaghnlmmgpcaaGreatDoor.B
