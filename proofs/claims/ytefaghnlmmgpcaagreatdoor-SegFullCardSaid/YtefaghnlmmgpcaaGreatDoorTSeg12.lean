/- What functions of the program compute, each function once: steps over the model, and the plain law of it. -/
import Derived.Test.YtefaghnlmmgpcaaGreatDoorTSeg7
import Derived.Test.YtefaghnlmmgpcaaGreatDoorTFacts
namespace Go.Proofs.YtefaghnlmmgpcaaGreatDoor.B
open Go Go.Proofs
set_option linter.unusedVariables false
set_option linter.unusedSimpArgs false
set_option maxRecDepth 20000
set_option maxHeartbeats 8000000
theorem SHot_spec {w0 w:World} {D:Sto} {ss:List Seg} {sl:Seg} {bs:Nat} {id gr:Int} {vl vt vd:Value} {L:Lg} (I:Inv w0 D ([(bs, .cells #[.int .i64 id, .int .i64 gr,vl,vt] 82 (0,0))]::sl::ss) w) (hL:LgS D vl vd L sl) (hG:L.Good) :
  Calls Tryz.prog 20 #[.pointer (some ⟨bs,0,none⟩)] w (Ret fun r w'=> ∃D' s2,HtS D' r L.h s2/\Le D D'/\LgS D' vl vd L sl/\Inv w0 D' (s2:: [(bs, .cells #[.int .i64 id, .int .i64 gr,vl,vt] 82 (0,0))]::sl::ss) w'):=by
 refine enter (N:=8) Tryz.func20 rfl rfl rfl ?_;intro a Z;refine go 5 Z I ?_;clear Z a;intro a Z;refine zs Z (p_nilCheck rfl) ?_;clear Z a;intro a Z;refine go 2 Z I ?_;clear Z a;intro a Z;refine l_step rfl (o_call Z rfl rfl rfl rfl ent_51 (Hot_spec (I.bring 1) hL hG) ?_);clear I Z a;rintro r w ⟨D1,s3,hH4,hD2,hL5,I⟩ a Z;replace I:=I.bring 1;replace I:=I.bring 2;replace I:=I.bring 2;(try simp only [bring,List.getElem?_cons_succ,List.getElem?_cons_zero,List.eraseIdx_cons_succ,List.eraseIdx_cons_zero] at I);refine go 3 Z I ?_;clear Z a;intro a Z;refine rt1 Z ?_;exact ⟨D1,_,hH4,hD2,hL5,I⟩
end Go.Proofs.YtefaghnlmmgpcaaGreatDoor.B
