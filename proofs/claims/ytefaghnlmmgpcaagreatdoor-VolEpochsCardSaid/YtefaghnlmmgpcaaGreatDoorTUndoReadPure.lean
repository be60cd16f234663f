/- What functions of the program compute, each function once: steps over the model, and the plain law of it. -/
import Derived.Test.YtefaghnlmmgpcaaGreatDoorTTreePure
import Derived.Test.YtefaghnlmmgpcaaGreatDoorTWire2
namespace Go.Proofs.YtefaghnlmmgpcaaGreatDoor.B
open Go Go.Proofs
set_option linter.unusedVariables false
set_option linter.unusedSimpArgs false
set_option maxRecDepth 20000
set_option maxHeartbeats 8000000
open Go
def hadZ (b:Bool):Int:=if b then 1 else 0
def Rd.rem (r:Rd):List Nat:=r.bs.drop r.pos
theorem rem_len (r:Rd):r.rem.length=r.bs.length - r.pos:=by simp [Rd.rem]
theorem num_put {r:Rd} {m low high:Int} {rest:List Nat} (he:r.err= .none) (hr:r.rem=putZ m++rest) (h0:low<=m) (h1:m<=high) (h2: -9223372036854775808<=m) (h3:m<=9223372036854775807) :
  r.num low high=(m,{r with pos:=r.pos+(putZ m).length}):=by
 unfold Rd.num;rw [if_neg (by rw [he];simp)];have hg:=getN_put (zig m) 0 0 rest (by have:=zig_lt h2 h3;simp;omega) (by omega) (by omega);have hr':r.bs.drop r.pos=putN (zig m)++rest:=hr;rw [hr',hg];simp only [Nat.mul_zero,Nat.pow_zero,Nat.mul_one,Nat.zero_add,unzig_zig];rw [if_neg (by omega)];rfl
theorem rem_step {r:Rd} {xs rest:List Nat} (hr:r.rem=xs++rest):({r with pos:=r.pos+xs.length}:Rd).rem=rest:=by simp only [Rd.rem] at hr ⊢;rw [<-List.drop_drop,hr,List.drop_left]
theorem hadZ_one (b:Bool):decide (hadZ b=1)=b:=by cases b<;>rfl
end Go.Proofs.YtefaghnlmmgpcaaGreatDoor.B
