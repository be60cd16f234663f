/- What functions of the program compute, each function once: steps over the model, and the plain law of it. -/
import Derived.Test.YtbogbnkckofpdaaDoorTUndo
namespace Go.Proofs.YtbogbnkckofpdaaDoor.B
open Go Go.Proofs
set_option linter.unusedVariables false
set_option linter.unusedSimpArgs false
set_option maxRecDepth 20000
set_option maxHeartbeats 8000000
namespace FTUndoOrder
theorem ent_19 : enters Tryd.prog 19 = true := by kernel_rfl
end FTUndoOrder
open FTUndoOrder
end Go.Proofs.YtbogbnkckofpdaaDoor.B
