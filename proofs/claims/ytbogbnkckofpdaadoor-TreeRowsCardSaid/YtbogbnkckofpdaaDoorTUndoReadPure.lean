/- What functions of the program compute, each function once: steps over the model, and the plain law of it. -/
import Derived.Test.YtbogbnkckofpdaaDoorTWire2
import Derived.Test.YtbogbnkckofpdaaDoorTUndoOrder
namespace Go.Proofs.YtbogbnkckofpdaaDoor.B
open Go
set_option linter.unusedVariables false
structure Ent where
 tx : Int
 n : Int
 key : List Nat
 had : Bool
 value : List Nat
def hadZ (b : Bool) : Int := if b then 1 else 0
def Ent.enc (e : Ent) : List Nat := putZ (e.key.length : Nat) ++ e.key ++ putZ (hadZ e.had) ++ putZ (e.value.length : Nat) ++ e.value
/-! ### what a reader takes of what was put -/
def Rd.rem (r : Rd) : List Nat := r.bs.drop r.pos
end Go.Proofs.YtbogbnkckofpdaaDoor.B
