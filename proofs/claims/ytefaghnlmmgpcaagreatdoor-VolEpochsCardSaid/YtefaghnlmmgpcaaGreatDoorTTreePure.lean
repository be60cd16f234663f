/- What functions of the program compute, each function once: steps over the model, and the plain law of it. -/
import Derived.Test.YtefaghnlmmgpcaaGreatDoorTWirePure
import Derived.Test.YtefaghnlmmgpcaaGreatDoorProg
namespace Go.Proofs.YtefaghnlmmgpcaaGreatDoor.B
open Go Go.Proofs
set_option linter.unusedVariables false
set_option linter.unusedSimpArgs false
set_option maxRecDepth 20000
set_option maxHeartbeats 8000000
open Go
abbrev Bs:=List Nat
abbrev Ens:=List (Bs×Bs)
structure Pg where
 id:Int
 lsn:Int
 level:Int
 next:Int
 ents:Ens
structure Rc where
 lsn:Int:=0
 back:Int:=0
 epoch:Int:=0
 group:Int:=0
 page:Int:=0
 kind:Int:=0
 slot:Int:=0
 key:Bs:= []
 val:Bs:= []
 last:Bool:=false
def validR (r:Rc):Bool:=decide (1<=r.lsn/\r.lsn<=1099511627776/\0<=r.epoch/\r.epoch<1073741825/\0<=r.group/\r.group<4/\0<=r.page/\r.page<256/\0<=r.back/\r.back<r.lsn/\0<=r.slot/\r.slot<32769/\1<=r.kind/\r.kind<=6/\r.key.length<=32/\r.val.length<=64)
end Go.Proofs.YtefaghnlmmgpcaaGreatDoor.B
