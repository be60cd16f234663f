/- What functions of the program compute, each function once: steps over the model, and the plain law of it. -/
import Derived.Test.YtikllmoofngjnaaGreatDoorSLogB
import Derived.Test.YtikllmoofngjnaaGreatDoorProg
namespace Go.Proofs.YtikllmoofngjnaaGreatDoor.B
open Go
set_option linter.unusedVariables false
def putN (z:Nat):List Nat:=if z<128 then [z] else (z % 128+128)::putN (z / 128)
termination_by z
decreasing_by omega
def zig (n:Int):Nat:=if 0<=n then (2*n).toNat else (-2*n - 1).toNat
def unzig (z:Nat):Int:=if z % 2=0 then (z / 2:Nat) else -(z / 2:Nat) - 1
theorem unzig_zig (n:Int):unzig (zig n)=n:=by
 unfold zig unzig;split
 ·rename_i h;rw [if_pos (by omega)];omega
 rename_i h;rw [if_neg (by omega)];omega
theorem putN_lt: ∀(z:Nat),∀x∈putN z,x<256:=by
 intro z;induction z using Nat.strongRecOn with
 |_ z ih=>
  intro x hx;unfold putN at hx;split at hx
  ·simp at hx;omega
  rename_i h;rcases List.mem_cons.1 hx with rfl|hx
  ·omega
  exact ih (z / 128) (by omega) x hx
theorem putN_pos (z:Nat):0<(putN z).length:=by unfold putN;split<;>simp
theorem putN_len: ∀(k z:Nat),z<128^(k+1)->(putN z).length<=k+1
 |0,z,h=>by unfold putN;rw [if_pos (by simpa using h)];simp
 |k+1,z,h=>by
  unfold putN;split
  ·simp
  have:z / 128<128^(k+1):=by rw [Nat.pow_succ] at h;exact Nat.div_lt_of_lt_mul (by omega)
  have:=putN_len k (z / 128) this;simp;omega
theorem putN_len64 {z:Nat} (h:z<18446744073709551616):(putN z).length<=10:=putN_len 9 z (by omega)
def putZ (n:Int):List Nat:=putN (zig n)
theorem putZ_lt (n:Int): ∀x∈putZ n,x<256:=putN_lt _
theorem zig_lt {n:Int} (h0: -9223372036854775808<=n) (h1:n<=9223372036854775807):zig n<18446744073709551616:=by unfold zig;split<;>omega
def getN:List Nat->Nat->Nat->Nat ⊕ (Nat×Nat)
 | [],_,_=> .inl 101
 |c::r,i,z=>if i=9/\1<c then .inl 103 else
  if 128<=c then getN r (i+1) (z+c % 128*2^(7*i)) else
  if c=0/\0<i then .inl 103 else .inr (z+c % 128*2^(7*i),i+1)
theorem pow7 (i:Nat):2^(7*(i+1))=2^(7*i)*128:=by rw [Nat.mul_add,Nat.pow_add]
theorem getN_put: ∀(z i acc:Nat) (rest:List Nat),z*2^(7*i)<18446744073709551616->i<=9->(0<i->0<z)->
  getN (putN z++rest) i acc= .inr (acc+z*2^(7*i),i+(putN z).length):=by
 intro z;induction z using Nat.strongRecOn with
 |_ z ih=>
  intro i acc rest hz hi hp;by_cases h:z<128
  ·rw [putN,if_pos h];simp only [List.cons_append,List.nil_append,getN,List.length_cons,List.length_nil];have h9: ¬(i=9/\1<z):=by
    rintro ⟨rfl,h1⟩;have:2*2^(7*9)<=z*2^(7*9):=Nat.mul_le_mul_right _ h1;omega
   rw [if_neg h9,if_neg (by omega),if_neg (by rintro ⟨rfl,h1⟩;exact absurd (hp h1) (by omega)),Nat.mod_eq_of_lt h]
  rw [putN,if_neg h];simp only [List.cons_append,getN,List.length_cons];have hi9:i≠9:=by rintro rfl;have:128*2^(7*9)<=z*2^(7*9):=Nat.mul_le_mul_right _ (by omega);omega
  rw [if_neg (by omega),if_pos (by omega)];have e:(z % 128+128) % 128=z % 128:=by omega
  have h7:=pow7 i;have hzz:z / 128*2^(7*(i+1))+z % 128*2^(7*i)=z*2^(7*i):=by rw [h7,Nat.mul_comm (2^(7*i)) 128,<-Nat.mul_assoc,<-Nat.add_mul];congr 1;omega
  rw [e,ih (z / 128) (by omega) (i+1) _ rest (by omega) (by omega) (fun _=>by omega)];rw [Nat.add_assoc acc,Nat.add_comm (z % 128*_),hzz];congr 2;omega
theorem getN_inv: ∀(l:List Nat) (i acc z' k:Nat),(∀x∈l,x<256)->getN l i acc= .inr (z',k)->i<=9->
  ∃z rest,z'=acc+z*2^(7*i)/\l=putN z++rest/\k=i+(putN z).length/\(0<i->0<z)/\z*2^(7*i)<18446744073709551616
 | [],i,acc,z',k,_,h,_=>by simp [getN] at h
 |c::r,i,acc,z',k,hl,h,hi=>by
  simp only [getN] at h;have hc:c<256:=hl c (by simp);split at h
  ·cases h
  rename_i h9;split at h
  ·rename_i h128;have hi9:i≠9:=by rintro rfl;exact h9 ⟨rfl,by omega⟩
   obtain ⟨z,rest,h1,h2,h3,h4,h5⟩:=getN_inv r (i+1) _ z' k (fun x hx=>hl x (by simp [hx])) h (by omega);have h7:=pow7 i;have hz:0<z:=h4 (by omega);have e:z*128+c % 128=128*z+c % 128:=by omega
   have key:(z*128+c % 128)*2^(7*i)=c % 128*2^(7*i)+z*2^(7*(i+1)):=by rw [h7,Nat.add_mul,Nat.mul_assoc,Nat.mul_comm 128,Nat.add_comm]
   refine ⟨z*128+c % 128,rest, ?_, ?_, ?_,fun _=>by omega, ?_⟩
   ·rw [h1,Nat.add_assoc,<-key]
   ·rw [putN,if_neg (by omega),h2];have e1:(z*128+c % 128) % 128=c % 128:=by omega
    have e2:(z*128+c % 128) / 128=z:=by omega
    rw [e1,e2];have e3:c % 128+128=c:=by omega
    rw [e3];rfl
   ·rw [h3];rw [putN.eq_def (z*128+c % 128),if_neg (by omega),List.length_cons];have e2:(z*128+c % 128) / 128=z:=by omega
    rw [e2];omega
   have hle:i<=8:=by omega
   rw [key];have h6:z*2^(7*(i+1)) % 2^(7*(i+1))=0:=Nat.mul_mod_left _ _;have hcm:c % 128*2^(7*i)<2^(7*(i+1)):=by rw [h7,Nat.mul_comm];exact Nat.mul_lt_mul_of_pos_left (by omega) (Nat.pow_pos (by omega))
   have hdiv:18446744073709551616=2^(64 - 7*(i+1))*2^(7*(i+1)):=by
    rw [<-Nat.pow_add];have:64 - 7*(i+1)+7*(i+1)=64:=by omega
    rw [this]
   rw [hdiv] at h5 ⊢;have hlt:z<2^(64 - 7*(i+1)):=Nat.lt_of_mul_lt_mul_right h5;have:(z+1)*2^(7*(i+1))<=2^(64 - 7*(i+1))*2^(7*(i+1)):=Nat.mul_le_mul_right _ hlt;rw [Nat.add_mul,Nat.one_mul] at this;omega
  rename_i h128;split at h
  ·cases h
  rename_i h0;injection h with h
  injection h with h1 h2
  have hc':c % 128=c:=by omega
  rw [hc'] at h1;refine ⟨c,r,h1.symm, ?_, ?_,fun h=>by omega, ?_⟩
  ·rw [putN,if_pos (by omega)];rfl
  ·rw [putN,if_pos (by omega)];simp;omega
  rcases Nat.lt_or_ge i 9 with h|h
  ·have h1:c*2^(7*i)<128*2^(7*i):=Nat.mul_lt_mul_of_pos_right (by omega) (Nat.pow_pos (by omega));have h3:128*2^(7*i)=2^(7*(i+1)):=by rw [pow7];omega
   have h4:2^(7*(i+1))<=2^63:=Nat.pow_le_pow_right (by omega) (by omega);omega
  obtain rfl:i=9:=by omega
  have:c<=1:=by omega
  have:c*2^(7*9)<=1*2^(7*9):=Nat.mul_le_mul_right _ this;omega
theorem getN_end: ∀(l:List Nat) (i acc z k:Nat),getN l i acc= .inr (z,k)->k<=i+l.length/\i<k
 | [],i,acc,z,k,h=>by simp [getN] at h
 |c::r,i,acc,z,k,h=>by
  simp only [getN] at h;split at h
  ·cases h
  split at h
  ·have:=getN_end r (i+1) _ z k h;simp;omega
  split at h
  ·cases h
  injection h with h;injection h with h1 h2;simp;omega
inductive Flt where
 |none
 |bare (c:Nat)
 |at_ (c:Nat) (p:Int)
deriving DecidableEq
def errV (ad:Nat->Addr) (k:Nat):Value:= .iface 283 (.pointer (some (ad k)))
def GlobIs (D:Sto) (g:Nat) (v:Value):Prop:= ∃T fr,D g=some (.cells #[v] T fr)
theorem GlobIs.mono {D D':Sto} {g:Nat} {v:Value} (h:GlobIs D g v) (hD:Le D D'):GlobIs D' g v:=by obtain ⟨T,fr,hg⟩:=h;exact ⟨T,fr,hD _ _ hg⟩
def FltIs (D:Sto) (ad:Nat->Addr) (v:Value):Flt->Prop
 | .none=>v= .nilIface
 | .bare c=>v=errV ad c
 | .at_ c p=> ∃b T fr,v= .iface 125 (.pointer (some ⟨b,0,none⟩))/\D b=some (.cells #[.int .i64 p,errV ad c] T fr)
theorem FltIs.two {D:Sto} {ad:Nat->Addr} {v:Value} {f:Flt} (h:FltIs D ad v f):(v= .nilIface/\f= .none)\/ ∃t u,v= .iface t u/\f≠ .none:=by
 cases f with
 |none=>exact .inl ⟨h,rfl⟩
 |bare c=>exact .inr ⟨_,_,h,by simp⟩
 |at_ c p=>obtain ⟨b,T,fr,h1,_⟩:=h;exact .inr ⟨_,_,h1,by simp⟩
structure Rd where
 bs:List Nat
 pos:Nat
 err:Flt
def Rd.num (r:Rd) (low high:Int):Int×Rd:=
 if r.err≠ .none then (0,r) else
 match getN (r.bs.drop r.pos) 0 0 with
 | .inl e=>(0,{r with err:= .at_ e r.pos})
 | .inr (z,k)=>if unzig z<low\/high<unzig z then (0,{r with err:= .at_ 105 r.pos}) else (unzig z,{r with pos:=r.pos+k})
structure Rd.Ok (r:Rd):Prop where
 le:r.pos<=r.bs.length
 most:r.bs.length<=140737488355328
def RdSeg (D:Sto) (ad:Nat->Addr) (b:Nat) (r:Rd) (s:Seg):Prop:=
 ∃vb ve,s= [(b, .cells #[vb, .int .i64 (r.pos:Nat),ve] 252 (0,0))]/\RB D vb r.bs/\FltIs D ad ve r.err/\r.Ok
open Go Go.Proofs
set_option linter.unusedSimpArgs false
set_option maxRecDepth 20000
set_option maxHeartbeats 8000000
abbrev Bs:=List Nat
abbrev Ens:=List (Bs×Bs)
structure Pg where
 id:Int
 lsn:Int
 level:Int
 next:Int
 ents:Ens
structure Rc where
 lsn:Int:=0
 back:Int:=0
 epoch:Int:=0
 group:Int:=0
 page:Int:=0
 kind:Int:=0
 slot:Int:=0
 key:Bs:= []
 val:Bs:= []
 last:Bool:=false
structure Pl where
 f:Int->Option Pg
 n:Nat
 wants:List Int
def validR (r:Rc):Bool:=decide (1<=r.lsn/\r.lsn<=1099511627776/\0<=r.epoch/\r.epoch<1073741825/\0<=r.group/\r.group<4/\0<=r.page/\r.page<256/\0<=r.back/\r.back<r.lsn/\0<=r.slot/\r.slot<32769/\1<=r.kind/\r.kind<=6/\r.key.length<=32/\r.val.length<=64)
def OB (r:Value) (bs:List Nat) (s:Seg):Prop:=Row 5 1 r bs.length (bytesV bs) s
theorem RB.none_nil {D:Sto} {n c:Nat} {bs:List Nat} (h:RB D (.slice none n c) bs):bs= []:=by
 cases bs with
 |nil=>rfl
 |cons x r=>obtain ⟨b,o,cs,T,fr,h1,_⟩:=h.at_ (by simp);cases h1
theorem Inv.nilseg {w0 w:World} {D:Sto} {ss:List Seg} (h:Inv w0 D ss w):Inv w0 D ([]::ss) w:=h.perm (List.Perm.refl _)
theorem u64_wrap (n:Int):IntKind.u64.wrap n=n % 18446744073709551616:=by simp [IntKind.wrap,IntKind.bits,IntKind.signed]
theorem or8 {a b:Nat} (ha:a<256) (hb:b<256):arithZ .or .u8 ((a:Nat):Int) ((b:Nat):Int)=some (((a |||b) % 256:Nat):Int):=by
 show some (IntKind.u8.wrap ((BitVec.ofInt 8 (a:Int) |||BitVec.ofInt 8 (b:Int)).toNat:Int))=_;rw [BitVec.toNat_or,BitVec.toNat_ofInt,BitVec.toNat_ofInt,IntKind.wrap_u8];have e1:((a:Int) % ((2^8:Nat):Int)).toNat=a:=by omega
 have e2:((b:Int) % ((2^8:Nat):Int)).toNat=b:=by omega
 rw [e1,e2];congr 1
theorem andNot8 {a:Nat} (ha:a<256):arithZ .andNot .u8 ((a:Nat):Int) 128=some (((a &&& 127) % 256:Nat):Int):=by
 show some (IntKind.u8.wrap ((BitVec.ofInt 8 (a:Int) &&& ~~~(BitVec.ofInt 8 128)).toNat:Int))=_;have e3: ~~~(BitVec.ofInt 8 128)=BitVec.ofInt 8 127:=by decide
 rw [e3,BitVec.toNat_and,BitVec.toNat_ofInt,BitVec.toNat_ofInt,IntKind.wrap_u8];have e1:((a:Int) % ((2^8:Nat):Int)).toNat=a:=by omega
 have e2:((127:Int) % ((2^8:Nat):Int)).toNat=127:=by decide
 rw [e1,e2];congr 1
theorem zig_z {m:Int} (h0: -9223372036854775808<=m) (h1:m<=9223372036854775807) :
  arithZ .xor .u64 (IntKind.u64.wrap (IntKind.u64.wrap m*2^min (Int.toNat 1) IntKind.u64.bits)) (IntKind.u64.wrap (m.fdiv (2^min (Int.toNat 63) IntKind.i64.bits)))=some ((zig m:Nat):Int):=by
 have e1:(2:Int)^min (Int.toNat 1) IntKind.u64.bits=2:=by decide
 have e2:(2:Int)^min (Int.toNat 63) IntKind.i64.bits=9223372036854775808:=by decide
 rw [e1,e2];simp only [arithZ,Option.some.injEq];rw [u64_wrap,u64_wrap,u64_wrap,u64_wrap];by_cases hm:0<=m
 ·have e3:m.fdiv 9223372036854775808=0:=by
   rw [Int.fdiv_eq_ediv_of_nonneg _ (by omega)];omega
  rw [e3];have e4:m % 18446744073709551616*2 % 18446744073709551616=((zig m:Nat):Int):=by unfold zig;rw [if_pos hm];omega
  have e5:(0:Int) % 18446744073709551616=0:=by omega
  have hz:zig m<18446744073709551616:=zig_lt h0 h1;rw [e4,e5];have e6:(BitVec.ofInt IntKind.u64.bits ((zig m:Nat):Int)^^^BitVec.ofInt IntKind.u64.bits 0).toNat=zig m:=by
   rw [BitVec.toNat_xor];have:(BitVec.ofInt IntKind.u64.bits 0).toNat=0:=by rfl
   rw [this,Nat.xor_zero];simp only [BitVec.toNat_ofInt];show (((zig m:Nat):Int) % (2^64:Nat)).toNat=zig m;omega
  rw [e6];omega
 have e3:m.fdiv 9223372036854775808= -1:=by rw [Int.fdiv_eq_ediv_of_nonneg _ (by omega)];omega
 rw [e3];have hz:zig m<18446744073709551616:=zig_lt h0 h1;have e4:m % 18446744073709551616*2 % 18446744073709551616=((18446744073709551615 - zig m:Nat):Int):=by unfold zig at hz ⊢;rw [if_neg hm] at hz ⊢;omega
 have e5:(-1:Int) % 18446744073709551616=18446744073709551615:=by omega
 rw [e4,e5];have e6:(BitVec.ofInt IntKind.u64.bits ((18446744073709551615 - zig m:Nat):Int)^^^BitVec.ofInt IntKind.u64.bits 18446744073709551615).toNat=zig m:=by
  have h2:(BitVec.ofInt IntKind.u64.bits 18446744073709551615)=BitVec.allOnes 64:=by rfl
  rw [h2];show (BitVec.ofInt 64 _^^^BitVec.allOnes 64).toNat=_;rw [BitVec.xor_allOnes,BitVec.toNat_not];simp only [BitVec.toNat_ofInt];omega
 rw [e6];omega
theorem or128_all: ∀x:Fin 256,(x.val |||128) % 256=x.val % 128+128:=by decide+kernel
theorem and127_all: ∀x:Fin 256,(x.val &&& 127) % 256=x.val % 128:=by decide+kernel
theorem or128 {z:Nat}:arithZ .or .u8 (IntKind.u8.wrap (z:Int)) 128=some ((z % 128+128:Nat):Int):=by
 have e:IntKind.u8.wrap (z:Int)=((z % 256:Nat):Int):=by rw [IntKind.wrap_u8];omega
 rw [e];have h:=or8 (a:=z % 256) (b:=128) (by omega) (by omega);have h2:=or128_all ⟨z % 256,by omega⟩;simp only at h2;rw [h2] at h;have h3:z % 256 % 128=z % 128:=by omega
 rw [h3] at h;exact h
theorem andNot128 {c:Nat} (hc:c<256):arithZ .andNot .u8 (c:Int) 128=some ((c % 128:Nat):Int):=by have h:=andNot8 hc;have h2:=and127_all ⟨c,hc⟩;simp only at h2;rw [h2] at h;exact h
theorem shr7 {z:Nat}:((z:Nat):Int).fdiv (2^min (Int.toNat 7) IntKind.u64.bits)=((z / 128:Nat):Int):=by
 have e1:(2:Int)^min (Int.toNat 7) IntKind.u64.bits=128:=by decide
 rw [e1,Int.fdiv_eq_ediv_of_nonneg _ (by omega)];omega
theorem put_step {xs:List Value} {out:List Nat} (z:Nat):(xs++bytesV out)++(#[Value.int .u8 ((z:Nat):Int)]:Array Value).toList=xs++bytesV (out++ [z]):=by simp [bytesV]
theorem u64_small {c:Nat} (h:c<256):IntKind.u64.wrap ((c:Nat):Int)=((c:Nat):Int):=by rw [u64_wrap];omega
theorem shl_num {c i:Nat} (h:c*2^(7*i)<18446744073709551616) (hi:i<=9):IntKind.u64.wrap ((c:Int)*2^min ((7:Int)*(i:Int)).toNat IntKind.u64.bits)=((c*2^(7*i):Nat):Int):=by
 have e:min ((7:Int)*(i:Int)).toNat IntKind.u64.bits=7*i:=by have:IntKind.u64.bits=64:=rfl;rw [this];omega
 rw [e,u64_wrap];have:((c:Int)*2^(7*i))=((c*2^(7*i):Nat):Int):=by push_cast;rfl
 rw [this];omega
theorem or_num {z c i:Nat} (hz:z<2^(7*i)) (h:z+c*2^(7*i)<18446744073709551616):arithZ .or .u64 ((z:Nat):Int) ((c*2^(7*i):Nat):Int)=some ((z+c*2^(7*i):Nat):Int):=by
 simp only [arithZ,Option.some.injEq];have e1:(BitVec.ofInt IntKind.u64.bits ((z:Nat):Int) |||BitVec.ofInt IntKind.u64.bits ((c*2^(7*i):Nat):Int)).toNat=z+c*2^(7*i):=by
  rw [BitVec.toNat_or];simp only [BitVec.toNat_ofInt];have a1:(((z:Nat):Int) % ((2^IntKind.u64.bits:Nat):Int)).toNat=z:=by show (((z:Nat):Int) % ((2^64:Nat):Int)).toNat=z;omega
  have a2:(((c*2^(7*i):Nat):Int) % ((2^IntKind.u64.bits:Nat):Int)).toNat=c*2^(7*i):=by show (((c*2^(7*i):Nat):Int) % ((2^64:Nat):Int)).toNat=_;omega
  rw [a1,a2,Nat.or_comm,Nat.mul_comm c,<-Nat.two_pow_add_eq_or_of_lt hz];omega
 rw [e1,u64_wrap];omega
theorem and1_z {z:Nat} (h:z<18446744073709551616):arithZ .and .u64 ((z:Nat):Int) 1=some ((z % 2:Nat):Int):=by
 simp only [arithZ,Option.some.injEq];have e1:(BitVec.ofInt IntKind.u64.bits ((z:Nat):Int) &&& BitVec.ofInt IntKind.u64.bits 1).toNat=z % 2:=by
  rw [BitVec.toNat_and];simp only [BitVec.toNat_ofInt];have a1:(((z:Nat):Int) % ((2^IntKind.u64.bits:Nat):Int)).toNat=z:=by show (((z:Nat):Int) % ((2^64:Nat):Int)).toNat=z;omega
  have a2:((1:Int) % ((2^IntKind.u64.bits:Nat):Int)).toNat=1:=by decide
  rw [a1,a2,Nat.and_one_is_mod]
 rw [e1,u64_wrap];omega
theorem shr1_z {z:Nat}:((z:Nat):Int).fdiv (2^min (Int.toNat 1) IntKind.u64.bits)=((z / 2:Nat):Int):=by
 have e1:(2:Int)^min (Int.toNat 1) IntKind.u64.bits=2:=by decide
 rw [e1,Int.fdiv_eq_ediv_of_nonneg _ (by omega)];omega
theorem i64_nat {z:Nat} (h:z<9223372036854775808):IntKind.i64.wrap ((z:Nat):Int)=((z:Nat):Int):=IntWalk.i64_in _ ⟨by omega,by omega⟩
theorem neg_z {z:Nat} (h:z<2):arithZ .sub .i64 0 ((z:Nat):Int)=some (-((z:Nat):Int)):=sub_z (by omega) (by omega) (by omega)
theorem unzig_z {z:Nat} (h:z<18446744073709551616):arithZ .xor .i64 ((z / 2:Nat):Int) (-((z % 2:Nat):Int))=some (unzig z):=by
 simp only [arithZ,Option.some.injEq];have hz:z / 2<9223372036854775808:=by omega
 unfold unzig;split
 ·rename_i h2;rw [h2];have e6:(BitVec.ofInt IntKind.i64.bits ((z / 2:Nat):Int)^^^BitVec.ofInt IntKind.i64.bits (-((0:Nat):Int))).toNat=z / 2:=by
   rw [BitVec.toNat_xor];have:(BitVec.ofInt IntKind.i64.bits (-((0:Nat):Int))).toNat=0:=by rfl
   rw [this,Nat.xor_zero];simp only [BitVec.toNat_ofInt];show (((z / 2:Nat):Int) % (2^64:Nat)).toNat=_;omega
  rw [e6,i64_nat hz]
 rename_i h2;have h3:z % 2=1:=by omega
 rw [h3];have e6:(BitVec.ofInt IntKind.i64.bits ((z / 2:Nat):Int)^^^BitVec.ofInt IntKind.i64.bits (-((1:Nat):Int))).toNat=18446744073709551615 - z / 2:=by
  have h2:(BitVec.ofInt IntKind.i64.bits (-((1:Nat):Int)))=BitVec.allOnes 64:=by rfl
  rw [h2];show (BitVec.ofInt 64 _^^^BitVec.allOnes 64).toNat=_;rw [BitVec.xor_allOnes,BitVec.toNat_not];simp only [BitVec.toNat_ofInt];omega
 rw [e6];have e7:(((18446744073709551615 - z / 2:Nat):Nat):Int)= -((z / 2:Nat):Int) - 1+18446744073709551616:=by omega
 rw [e7,IntKind.wrap_i64];omega
theorem drop_at {bs:List Nat} {k:Nat} (h:k<bs.length):bs.drop k=bs.getD k 0::bs.drop (k+1):=by rw [List.getD_eq_getElem?_getD,List.getElem?_eq_getElem h,Option.getD_some,List.drop_eq_getElem_cons h]
theorem getD_lt {bs:List Nat} (h: ∀x∈bs,x<256) (k:Nat):bs.getD k 0<256:=by
 rw [List.getD_eq_getElem?_getD];cases hk:bs[k]? with
 |none=>simp
 |some x=>exact h x (List.mem_of_getElem? hk)
end Go.Proofs.YtikllmoofngjnaaGreatDoor.B
