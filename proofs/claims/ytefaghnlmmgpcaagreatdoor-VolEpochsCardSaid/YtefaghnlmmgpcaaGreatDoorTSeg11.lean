/- What functions of the program compute, each function once: steps over the model, and the plain law of it. -/
import Derived.Test.YtefaghnlmmgpcaaGreatDoorTSeg6
namespace Go.Proofs.YtefaghnlmmgpcaaGreatDoor.B
open Go Go.Proofs
set_option linter.unusedVariables false
set_option linter.unusedSimpArgs false
set_option maxRecDepth 20000
set_option maxHeartbeats 8000000
theorem SegNew1_spec {w0 w:World} {D:Sto} {ss:List Seg} {s:Seg} {vd:Value} {d:Dk} {inc:Int} (I:Inv w0 D (s::ss) w) (hd:DkS D vd (bornD d inc true) s) {ad:Nat->Addr} (hS:YSents D ad) {id gr:Int} (hi0:0<=id) (hi1:id<64) (h0:0<=gr) (h1:gr<4) (hf:d.Fresh) (hc1:1<=inc) (hc2:inc<=1073741824) :
  Calls Tryz.prog 18 #[.int .i64 id, .int .i64 gr,vd, .int .i64 inc] w (Ret fun r w'=> ∃bs vl bt D' sl,r= .tuple #[.pointer (some ⟨bs,0,none⟩), .nilIface]/\Le D D'/\LgS D' vl vd (bornS d gr inc true) sl/\Inv w0 D' ([(bs, .cells #[.int .i64 id, .int .i64 gr,vl, .map (some bt)] 82 (0,0))]::sl:: [(bt, .map #[] 0)]::ss) w'):=
 SegNew_spec I hd hS hi0 hi1 h0 h1 (n:=1) (by decide) (Ls:=fun i=>if i=0 then L0 (bornD d inc true) gr else bornS d gr inc true) (cs:=fun _=>bornC inc true) (plays1 hf (gr:=gr) hc1 hc2)
end Go.Proofs.YtefaghnlmmgpcaaGreatDoor.B
