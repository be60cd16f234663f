/- What functions of the program compute, each function once: steps over the model, and the plain law of it. -/
import Derived.Test.YtefaghnlmmgpcaaGreatDoorTSegP
namespace Go.Proofs.YtefaghnlmmgpcaaGreatDoor.B
open Go Go.Proofs
set_option linter.unusedVariables false
set_option linter.unusedSimpArgs false
structure Ht where
 group:Int
 l:List Rc:= []
 spans:List Sp:= []
 cuts:Int:=0
 scl:Int:=0
 known:Bool:=false
end Go.Proofs.YtefaghnlmmgpcaaGreatDoor.B
