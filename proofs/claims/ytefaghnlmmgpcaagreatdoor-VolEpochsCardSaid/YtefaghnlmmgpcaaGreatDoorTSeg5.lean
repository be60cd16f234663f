/- What functions of the program compute, each function once: steps over the model, and the plain law of it. -/
import Derived.Test.YtefaghnlmmgpcaaGreatDoorTSlog7
namespace Go.Proofs.YtefaghnlmmgpcaaGreatDoor.B
open Go Go.Proofs
set_option linter.unusedVariables false
set_option linter.unusedSimpArgs false
set_option maxRecDepth 20000
set_option maxHeartbeats 8000000
def zPg0:Pg:=⟨0,0,0,0, []⟩
structure Ms where
 kind:Int:=0
 from_:Int:=0
 to_:Int:=0
 epoch:Int:=0
 inc:Int:=0
 group:Int:=0
 page:Int:=0
 lsn:Int:=0
 at_:Int:=0
 seq:Int:=0
 done:Int:=0
 recs:List Rc:= []
 spans:List Sp:= []
 body:Pg:=zPg0
def msCells (m:Ms) (vr vs ve:Value):List Value:= [.int .i64 m.kind, .int .i64 m.from_, .int .i64 m.to_, .int .i64 m.epoch, .int .i64 m.inc, .int .i64 m.group, .int .i64 m.page, .int .i64 m.lsn, .int .i64 m.at_, .int .i64 m.seq, .int .i64 m.done,vr,vs, .int .i64 m.body.id, .int .i64 m.body.lsn, .int .i64 m.body.level, .int .i64 m.body.next,ve]
def FDC (x:Int×Int×Int):List Value:= [.int .i64 x.1, .int .i64 x.2.1, .int .i64 x.2.2]
theorem spansOk.nil:spansOk []:=⟨Nat.zero_le _,(fun s hs=>by cases hs),List.Pairwise.nil⟩
end Go.Proofs.YtefaghnlmmgpcaaGreatDoor.B
