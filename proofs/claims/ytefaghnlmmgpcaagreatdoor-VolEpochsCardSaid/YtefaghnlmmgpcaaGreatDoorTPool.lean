/- What functions of the program compute, each function once: steps over the model, and the plain law of it. -/
import Derived.Test.YtefaghnlmmgpcaaGreatDoorTPage3
import Derived.Test.YtefaghnlmmgpcaaGreatDoorTFacts
namespace Go.Proofs.YtefaghnlmmgpcaaGreatDoor.B
open Go Go.Proofs
set_option linter.unusedVariables false
set_option linter.unusedSimpArgs false
set_option maxRecDepth 20000
set_option maxHeartbeats 8000000
theorem within_spec {w0 w:World} {D:Sto} {ss:List Seg} (I:Inv w0 D ss w) (n m:Int) :
  Calls Tryz.prog 110 #[.int .i64 n, .int .i64 m] w (Ret fun r w'=>r= .bool (decide (0<=n/\n<m))/\Inv w0 D ss w'):=by
 refine enter (N:=12) Tryz.func110 rfl rfl rfl ?_;intro a Z;refine go 5 Z I ?_;clear Z a;intro a Z;refine cmx Z ?_ ?_
 ·intro hc_1_1;replace hc_1_1:=geq_t hc_1_1;clear Z a;intro a Z;refine go 3 Z I ?_;clear Z a;intro a Z;refine cgx Z ?_ ?_
  ·intro hc_1_5;replace hc_1_5:=lss_t hc_1_5;clear Z a;intro a Z;refine go 4 Z I ?_;clear Z a;intro a Z;refine rt1 Z ?_;exact ⟨by congr 1;simp;omega,I⟩
  intro hc_1_5;replace hc_1_5:=lss_f hc_1_5;clear Z a;intro a Z;refine go 4 Z I ?_;clear Z a;intro a Z;refine rt1 Z ?_;exact ⟨by congr 1;simp;omega,I⟩
 intro hc_1_1;replace hc_1_1:=geq_f hc_1_1;clear Z a;intro a Z;refine go 8 Z I ?_;clear Z a;intro a Z;refine rt1 Z ?_;exact ⟨by congr 1;simp;omega,I⟩
end Go.Proofs.YtefaghnlmmgpcaaGreatDoor.B
