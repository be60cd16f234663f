/- What functions of the program compute, each function once: steps over the model, and the plain law of it. -/
import Derived.Test.YtefaghnlmmgpcaaGreatDoorTSlog4
import Derived.Test.YtefaghnlmmgpcaaGreatDoorTPage3
import Derived.Test.YtefaghnlmmgpcaaGreatDoorTBatch
namespace Go.Proofs.YtefaghnlmmgpcaaGreatDoor.B
open Go Go.Proofs
set_option linter.unusedVariables false
set_option linter.unusedSimpArgs false
set_option maxRecDepth 20000
set_option maxHeartbeats 8000000
section
variable {α:Type} {size:Nat} {R:Sto->List Value->α->Prop} {D:Sto}
end
section
variable {P:Program} {a:Act} {w:World} {b:Frame} {k:List Item} {cs:List Frame} {Q:Exit->Act->World->Prop}
end
end Go.Proofs.YtefaghnlmmgpcaaGreatDoor.B
