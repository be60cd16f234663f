/- What functions of the program compute, each function once: steps over the model, and the plain law of it. -/
import Derived.Test.YtefaghnlmmgpcaaGreatDoorSLogB
namespace Go.Proofs.YtefaghnlmmgpcaaGreatDoor.B
open Go
set_option linter.unusedVariables false
def putN (z:Nat):List Nat:=if z<128 then [z] else (z % 128+128)::putN (z / 128)
termination_by z
decreasing_by omega
def zig (n:Int):Nat:=if 0<=n then (2*n).toNat else (-2*n - 1).toNat
def unzig (z:Nat):Int:=if z % 2=0 then (z / 2:Nat) else -(z / 2:Nat) - 1
theorem unzig_zig (n:Int):unzig (zig n)=n:=by
 unfold zig unzig;split
 ·rename_i h;rw [if_pos (by omega)];omega
 rename_i h;rw [if_neg (by omega)];omega
theorem putN_lt: ∀(z:Nat),∀x∈putN z,x<256:=by
 intro z;induction z using Nat.strongRecOn with
 |_ z ih=>
  intro x hx;unfold putN at hx;split at hx
  ·simp at hx;omega
  rename_i h;rcases List.mem_cons.1 hx with rfl|hx
  ·omega
  exact ih (z / 128) (by omega) x hx
theorem putN_pos (z:Nat):0<(putN z).length:=by unfold putN;split<;>simp
theorem putN_len: ∀(k z:Nat),z<128^(k+1)->(putN z).length<=k+1
 |0,z,h=>by unfold putN;rw [if_pos (by simpa using h)];simp
 |k+1,z,h=>by
  unfold putN;split
  ·simp
  have:z / 128<128^(k+1):=by rw [Nat.pow_succ] at h;exact Nat.div_lt_of_lt_mul (by omega)
  have:=putN_len k (z / 128) this;simp;omega
theorem putN_len64 {z:Nat} (h:z<18446744073709551616):(putN z).length<=10:=putN_len 9 z (by omega)
def putZ (n:Int):List Nat:=putN (zig n)
theorem putZ_lt (n:Int): ∀x∈putZ n,x<256:=putN_lt _
theorem zig_lt {n:Int} (h0: -9223372036854775808<=n) (h1:n<=9223372036854775807):zig n<18446744073709551616:=by unfold zig;split<;>omega
def getN:List Nat->Nat->Nat->Nat ⊕ (Nat×Nat)
 | [],_,_=> .inl 101
 |c::r,i,z=>if i=9/\1<c then .inl 103 else
  if 128<=c then getN r (i+1) (z+c % 128*2^(7*i)) else
  if c=0/\0<i then .inl 103 else .inr (z+c % 128*2^(7*i),i+1)
theorem pow7 (i:Nat):2^(7*(i+1))=2^(7*i)*128:=by rw [Nat.mul_add,Nat.pow_add]
theorem getN_put: ∀(z i acc:Nat) (rest:List Nat),z*2^(7*i)<18446744073709551616->i<=9->(0<i->0<z)->
  getN (putN z++rest) i acc= .inr (acc+z*2^(7*i),i+(putN z).length):=by
 intro z;induction z using Nat.strongRecOn with
 |_ z ih=>
  intro i acc rest hz hi hp;by_cases h:z<128
  ·rw [putN,if_pos h];simp only [List.cons_append,List.nil_append,getN,List.length_cons,List.length_nil];have h9: ¬(i=9/\1<z):=by
    rintro ⟨rfl,h1⟩;have:2*2^(7*9)<=z*2^(7*9):=Nat.mul_le_mul_right _ h1;omega
   rw [if_neg h9,if_neg (by omega),if_neg (by rintro ⟨rfl,h1⟩;exact absurd (hp h1) (by omega)),Nat.mod_eq_of_lt h]
  rw [putN,if_neg h];simp only [List.cons_append,getN,List.length_cons];have hi9:i≠9:=by rintro rfl;have:128*2^(7*9)<=z*2^(7*9):=Nat.mul_le_mul_right _ (by omega);omega
  rw [if_neg (by omega),if_pos (by omega)];have e:(z % 128+128) % 128=z % 128:=by omega
  have h7:=pow7 i;have hzz:z / 128*2^(7*(i+1))+z % 128*2^(7*i)=z*2^(7*i):=by rw [h7,Nat.mul_comm (2^(7*i)) 128,<-Nat.mul_assoc,<-Nat.add_mul];congr 1;omega
  rw [e,ih (z / 128) (by omega) (i+1) _ rest (by omega) (by omega) (fun _=>by omega)];rw [Nat.add_assoc acc,Nat.add_comm (z % 128*_),hzz];congr 2;omega
theorem getN_inv: ∀(l:List Nat) (i acc z' k:Nat),(∀x∈l,x<256)->getN l i acc= .inr (z',k)->i<=9->
  ∃z rest,z'=acc+z*2^(7*i)/\l=putN z++rest/\k=i+(putN z).length/\(0<i->0<z)/\z*2^(7*i)<18446744073709551616
 | [],i,acc,z',k,_,h,_=>by simp [getN] at h
 |c::r,i,acc,z',k,hl,h,hi=>by
  simp only [getN] at h;have hc:c<256:=hl c (by simp);split at h
  ·cases h
  rename_i h9;split at h
  ·rename_i h128;have hi9:i≠9:=by rintro rfl;exact h9 ⟨rfl,by omega⟩
   obtain ⟨z,rest,h1,h2,h3,h4,h5⟩:=getN_inv r (i+1) _ z' k (fun x hx=>hl x (by simp [hx])) h (by omega);have h7:=pow7 i;have hz:0<z:=h4 (by omega);have e:z*128+c % 128=128*z+c % 128:=by omega
   have key:(z*128+c % 128)*2^(7*i)=c % 128*2^(7*i)+z*2^(7*(i+1)):=by rw [h7,Nat.add_mul,Nat.mul_assoc,Nat.mul_comm 128,Nat.add_comm]
   refine ⟨z*128+c % 128,rest, ?_, ?_, ?_,fun _=>by omega, ?_⟩
   ·rw [h1,Nat.add_assoc,<-key]
   ·rw [putN,if_neg (by omega),h2];have e1:(z*128+c % 128) % 128=c % 128:=by omega
    have e2:(z*128+c % 128) / 128=z:=by omega
    rw [e1,e2];have e3:c % 128+128=c:=by omega
    rw [e3];rfl
   ·rw [h3];rw [putN.eq_def (z*128+c % 128),if_neg (by omega),List.length_cons];have e2:(z*128+c % 128) / 128=z:=by omega
    rw [e2];omega
   have hle:i<=8:=by omega
   rw [key];have h6:z*2^(7*(i+1)) % 2^(7*(i+1))=0:=Nat.mul_mod_left _ _;have hcm:c % 128*2^(7*i)<2^(7*(i+1)):=by rw [h7,Nat.mul_comm];exact Nat.mul_lt_mul_of_pos_left (by omega) (Nat.pow_pos (by omega))
   have hdiv:18446744073709551616=2^(64 - 7*(i+1))*2^(7*(i+1)):=by
    rw [<-Nat.pow_add];have:64 - 7*(i+1)+7*(i+1)=64:=by omega
    rw [this]
   rw [hdiv] at h5 ⊢;have hlt:z<2^(64 - 7*(i+1)):=Nat.lt_of_mul_lt_mul_right h5;have:(z+1)*2^(7*(i+1))<=2^(64 - 7*(i+1))*2^(7*(i+1)):=Nat.mul_le_mul_right _ hlt;rw [Nat.add_mul,Nat.one_mul] at this;omega
  rename_i h128;split at h
  ·cases h
  rename_i h0;injection h with h
  injection h with h1 h2
  have hc':c % 128=c:=by omega
  rw [hc'] at h1;refine ⟨c,r,h1.symm, ?_, ?_,fun h=>by omega, ?_⟩
  ·rw [putN,if_pos (by omega)];rfl
  ·rw [putN,if_pos (by omega)];simp;omega
  rcases Nat.lt_or_ge i 9 with h|h
  ·have h1:c*2^(7*i)<128*2^(7*i):=Nat.mul_lt_mul_of_pos_right (by omega) (Nat.pow_pos (by omega));have h3:128*2^(7*i)=2^(7*(i+1)):=by rw [pow7];omega
   have h4:2^(7*(i+1))<=2^63:=Nat.pow_le_pow_right (by omega) (by omega);omega
  obtain rfl:i=9:=by omega
  have:c<=1:=by omega
  have:c*2^(7*9)<=1*2^(7*9):=Nat.mul_le_mul_right _ this;omega
theorem getN_end: ∀(l:List Nat) (i acc z k:Nat),getN l i acc= .inr (z,k)->k<=i+l.length/\i<k
 | [],i,acc,z,k,h=>by simp [getN] at h
 |c::r,i,acc,z,k,h=>by
  simp only [getN] at h;split at h
  ·cases h
  split at h
  ·have:=getN_end r (i+1) _ z k h;simp;omega
  split at h
  ·cases h
  injection h with h;injection h with h1 h2;simp;omega
inductive Flt where
 |none
 |bare (c:Nat)
 |at_ (c:Nat) (p:Int)
deriving DecidableEq
def errV (ad:Nat->Addr) (k:Nat):Value:= .iface 312 (.pointer (some (ad k)))
def GlobIs (D:Sto) (g:Nat) (v:Value):Prop:= ∃T fr,D g=some (.cells #[v] T fr)
theorem GlobIs.mono {D D':Sto} {g:Nat} {v:Value} (h:GlobIs D g v) (hD:Le D D'):GlobIs D' g v:=by obtain ⟨T,fr,hg⟩:=h;exact ⟨T,fr,hD _ _ hg⟩
def FltIs (D:Sto) (ad:Nat->Addr) (v:Value):Flt->Prop
 | .none=>v= .nilIface
 | .bare c=>v=errV ad c
 | .at_ c p=> ∃b T fr,v= .iface 137 (.pointer (some ⟨b,0,none⟩))/\D b=some (.cells #[.int .i64 p,errV ad c] T fr)
theorem FltIs.two {D:Sto} {ad:Nat->Addr} {v:Value} {f:Flt} (h:FltIs D ad v f):(v= .nilIface/\f= .none)\/ ∃t u,v= .iface t u/\f≠ .none:=by
 cases f with
 |none=>exact .inl ⟨h,rfl⟩
 |bare c=>exact .inr ⟨_,_,h,by simp⟩
 |at_ c p=>obtain ⟨b,T,fr,h1,_⟩:=h;exact .inr ⟨_,_,h1,by simp⟩
structure Rd where
 bs:List Nat
 pos:Nat
 err:Flt
def Rd.num (r:Rd) (low high:Int):Int×Rd:=
 if r.err≠ .none then (0,r) else
 match getN (r.bs.drop r.pos) 0 0 with
 | .inl e=>(0,{r with err:= .at_ e r.pos})
 | .inr (z,k)=>if unzig z<low\/high<unzig z then (0,{r with err:= .at_ 105 r.pos}) else (unzig z,{r with pos:=r.pos+k})
structure Rd.Ok (r:Rd):Prop where
 le:r.pos<=r.bs.length
 most:r.bs.length<=140737488355328
def RdSeg (D:Sto) (ad:Nat->Addr) (b:Nat) (r:Rd) (s:Seg):Prop:=
 ∃vb ve,s= [(b, .cells #[vb, .int .i64 (r.pos:Nat),ve] 232 (0,0))]/\RB D vb r.bs/\FltIs D ad ve r.err/\r.Ok
end Go.Proofs.YtefaghnlmmgpcaaGreatDoor.B
