/- What functions of the program compute, each function once: steps over the model, and the plain law of it. -/
import Derived.Test.YtkknmpkcfpdllaaGreatDoorSLogB
namespace Go.Proofs.YtkknmpkcfpdllaaGreatDoor.B
open Go
set_option linter.unusedVariables false
def putN (z:Nat):List Nat:=if z<128 then [z] else (z % 128+128)::putN (z / 128)
termination_by z
decreasing_by omega
def zig (n:Int):Nat:=if 0<=n then (2*n).toNat else (-2*n - 1).toNat
theorem putN_lt: ∀(z:Nat),∀x∈putN z,x<256:=by
 intro z;induction z using Nat.strongRecOn with
 |_ z ih=>
  intro x hx;unfold putN at hx;split at hx
  ·simp at hx;omega
  rename_i h;rcases List.mem_cons.1 hx with rfl|hx
  ·omega
  exact ih (z / 128) (by omega) x hx
theorem putN_pos (z:Nat):0<(putN z).length:=by unfold putN;split<;>simp
theorem putN_len: ∀(k z:Nat),z<128^(k+1)->(putN z).length<=k+1
 |0,z,h=>by unfold putN;rw [if_pos (by simpa using h)];simp
 |k+1,z,h=>by
  unfold putN;split
  ·simp
  have:z / 128<128^(k+1):=by rw [Nat.pow_succ] at h;exact Nat.div_lt_of_lt_mul (by omega)
  have:=putN_len k (z / 128) this;simp;omega
theorem putN_len64 {z:Nat} (h:z<18446744073709551616):(putN z).length<=10:=putN_len 9 z (by omega)
def putZ (n:Int):List Nat:=putN (zig n)
theorem putZ_lt (n:Int): ∀x∈putZ n,x<256:=putN_lt _
theorem zig_lt {n:Int} (h0: -9223372036854775808<=n) (h1:n<=9223372036854775807):zig n<18446744073709551616:=by unfold zig;split<;>omega
inductive Flt where
 |none
 |bare (c:Nat)
 |at_ (c:Nat) (p:Int)
deriving DecidableEq
def errV (ad:Nat->Addr) (k:Nat):Value:= .iface 316 (.pointer (some (ad k)))
def GlobIs (D:Sto) (g:Nat) (v:Value):Prop:= ∃T fr,D g=some (.cells #[v] T fr)
theorem GlobIs.mono {D D':Sto} {g:Nat} {v:Value} (h:GlobIs D g v) (hD:Le D D'):GlobIs D' g v:=by obtain ⟨T,fr,hg⟩:=h;exact ⟨T,fr,hD _ _ hg⟩
def FltIs (D:Sto) (ad:Nat->Addr) (v:Value):Flt->Prop
 | .none=>v= .nilIface
 | .bare c=>v=errV ad c
 | .at_ c p=> ∃b T fr,v= .iface 211 (.pointer (some ⟨b,0,none⟩))/\D b=some (.cells #[.int .i64 p,errV ad c] T fr)
end Go.Proofs.YtkknmpkcfpdllaaGreatDoor.B
