/- What functions of the program compute, each function once: steps over the model, and the plain law of it. -/
import Derived.Test.YtikllmoofngjnaaGreatDoorTSlog7
namespace Go.Proofs.YtikllmoofngjnaaGreatDoor.B
open Go Go.Proofs
set_option linter.unusedVariables false
set_option linter.unusedSimpArgs false
def zPg0:Pg:=⟨0,0,0,0, []⟩
structure Ms where
 kind:Int:=0
 from_:Int:=0
 to_:Int:=0
 epoch:Int:=0
 inc:Int:=0
 group:Int:=0
 page:Int:=0
 lsn:Int:=0
 at_:Int:=0
 seq:Int:=0
 done:Int:=0
 recs:List Rc:= []
 spans:List Sp:= []
 body:Pg:=zPg0
structure Ms.Ok (m:Ms):Prop where
 kind:1<=m.kind/\m.kind<=15
 from_:0<=m.from_/\m.from_<=63
 to_:0<=m.to_/\m.to_<=63
 epoch:0<=m.epoch/\m.epoch<=1073741824
 inc:0<=m.inc/\m.inc<=1073741824
 group:0<=m.group/\m.group<=3
 page:0<=m.page/\m.page<=255
 lsn:0<=m.lsn/\m.lsn<=1099511627776
 at_:0<=m.at_/\m.at_<=1099511627776
 seq:0<=m.seq/\m.seq<=1073741824
 done:0<=m.done/\m.done<=1073741824
 recs:m.recs.length<=16384/\ ∀r∈m.recs,validR r=true
 spans:spansOk m.spans
 body:m.body=zPg0
def msCells (m:Ms) (vr vs ve:Value):List Value:= [.int .i64 m.kind, .int .i64 m.from_, .int .i64 m.to_, .int .i64 m.epoch, .int .i64 m.inc, .int .i64 m.group, .int .i64 m.page, .int .i64 m.lsn, .int .i64 m.at_, .int .i64 m.seq, .int .i64 m.done,vr,vs, .int .i64 m.body.id, .int .i64 m.body.lsn, .int .i64 m.body.level, .int .i64 m.body.next,ve]
def MsR (D:Sto) (vs:List Value) (m:Ms):Prop:= ∃vr vsp ve,vs=msCells m vr vsp ve/\DR 10 RcR D vr m.recs/\DR 3 SpR D vsp m.spans/\EnD D ve m.body.ents
theorem MsR.keeps:Keeps MsR:=fun D D' vs x hD ⟨a,b,c,h1,h2,h3,h4⟩=>⟨a,b,c,h1,h2.mono RcR.keeps hD,h3.mono SpR.keeps hD,h4.mono EnR.keeps hD⟩
def MsV (D:Sto) (v:Value) (m:Ms):Prop:= ∃vr vsp ve,v= .agg (msCells m vr vsp ve).toArray/\DR 10 RcR D vr m.recs/\DR 3 SpR D vsp m.spans/\EnD D ve m.body.ents
end Go.Proofs.YtikllmoofngjnaaGreatDoor.B
