/- What functions of the program compute, each function once: steps over the model, and the plain law of it. -/
import Derived.Test.YtefaghnlmmgpcaaGreatDoorTTreePure
import Derived.Test.YtefaghnlmmgpcaaGreatDoorSLogB
import Derived.Test.YtefaghnlmmgpcaaGreatDoorTSee
import Derived.Test.YtefaghnlmmgpcaaGreatDoorTUndoRead
namespace Go.Proofs.YtefaghnlmmgpcaaGreatDoor.B
open Go
set_option linter.unusedVariables false
set_option linter.unusedSimpArgs false
structure ROk (r:Rc):Prop where
 l0: -4611686018427387904<=r.lsn
 l1:r.lsn<=4611686018427387904
 s0:0<=r.slot
 s1:r.slot<=4611686018427387904
 k:r.key.length<=100000
 v:r.val.length<=100000
def pgCells (p:Pg) (e:Value):List Value:= [.int .i64 p.id, .int .i64 p.lsn, .int .i64 p.level, .int .i64 p.next,e]
def rcCells (r:Rc) (k v:Value):List Value:= [.int .i64 r.lsn, .int .i64 r.back, .int .i64 r.epoch, .int .i64 r.group, .int .i64 r.page, .int .i64 r.kind, .int .i64 r.slot,k,v, .bool r.last]
def RcR (D:Sto) (vs:List Value) (r:Rc):Prop:= ∃k v,vs=rcCells r k v/\RB D k r.key/\RB D v r.val/\ROk r
theorem RcR.keeps:Keeps RcR:=fun D D' vs x hD ⟨k,v,h1,h2,h3,h4⟩=>⟨k,v,h1,h2.mono hD,h3.mono hD,h4⟩
def RcV (D:Sto) (v:Value) (r:Rc):Prop:= ∃k u,v= .agg (rcCells r k u).toArray/\RB D k r.key/\RB D u r.val/\ROk r
end Go.Proofs.YtefaghnlmmgpcaaGreatDoor.B
