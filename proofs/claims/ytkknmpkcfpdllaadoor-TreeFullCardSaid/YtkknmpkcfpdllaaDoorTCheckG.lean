/- What functions of the program compute, each function once: steps over the model, and the plain law of it. -/
import Derived.Test.YtkknmpkcfpdllaaDoorTCheckC
import Derived.Test.YtkknmpkcfpdllaaDoorTWalk
namespace Go.Proofs.YtkknmpkcfpdllaaDoor.B
open Go Go.Proofs
set_option linter.unusedVariables false
set_option linter.unusedSimpArgs false
set_option maxRecDepth 20000
set_option maxHeartbeats 8000000
theorem newBt_range (P:Pl): ∀id x,(newBt P).page id= .ok x→0≤id∧id<256:=fun id x h=>by
 simp only [Bt.page,newBt] at h;split at h
 ·cases h
 omega
theorem chainOk_iff: ∀l:List Pg,chainOk l=true↔ ∀j x,l[j]? =some x→x.next=(match l[j+1]? with|some y=>y.id|none=> -1)
 | []=>by simp [chainOk]
 | [x]=>by
  constructor
  ·intro h j y hy;cases j with
   |zero=>
    obtain rfl:x=y:=by simpa using hy
    simpa [chainOk] using h
   |succ j=>simp at hy
  intro h;have:=h 0 x rfl;simpa [chainOk] using this
 |x::y::r=>by
  rw [chainOk,Bool.and_eq_true,decide_eq_true_eq,chainOk_iff (y::r)];constructor
  ·rintro ⟨h1,h2⟩ j z hz;cases j with
   |zero=>
    obtain rfl:x=z:=by simpa using hz
    simpa using h1
   |succ j=>have:=h2 j z (by simpa using hz);simpa using this
  intro h;exact ⟨by simpa using h 0 x rfl,fun j z hz=>by have:=h (j+1) z (by simpa using hz);simpa using this⟩
theorem chain_no {l:List Pg} {j:Nat} {x:Pg} (hx:l[j]? =some x) (h:x.next≠(match l[j+1]? with|some y=>y.id|none=> -1)):chainOk l=false:=by
 cases hq:chainOk l with
 |false=>rfl
 |true=>exact absurd ((chainOk_iff l).1 hq j x hx) h
theorem CkOk.start:CkOk ⟨[1], [],0⟩:=⟨by simp,by intro i hi;simp only [List.mem_cons,List.not_mem_nil,or_false] at hi;omega,by simp,by simp,by simp⟩
end Go.Proofs.YtkknmpkcfpdllaaDoor.B
