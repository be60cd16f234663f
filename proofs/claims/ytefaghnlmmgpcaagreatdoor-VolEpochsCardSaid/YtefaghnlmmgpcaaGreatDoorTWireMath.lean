/- What functions of the program compute, each function once: steps over the model, and the plain law of it. -/
import Derived.Test.YtefaghnlmmgpcaaGreatDoorTWirePure
namespace Go.Proofs.YtefaghnlmmgpcaaGreatDoor.B
open Go
def OB (r:Value) (bs:List Nat) (s:Seg):Prop:=Row 5 1 r bs.length (bytesV bs) s
theorem RB.none_nil {D:Sto} {n c:Nat} {bs:List Nat} (h:RB D (.slice none n c) bs):bs= []:=by
 cases bs with
 |nil=>rfl
 |cons x r=>obtain ⟨b,o,cs,T,fr,h1,_⟩:=h.at_ (by simp);cases h1
theorem Inv.nilseg {w0 w:World} {D:Sto} {ss:List Seg} (h:Inv w0 D ss w):Inv w0 D ([]::ss) w:=h.perm (List.Perm.refl _)
theorem u64_wrap (n:Int):IntKind.u64.wrap n=n % 18446744073709551616:=by simp [IntKind.wrap,IntKind.bits,IntKind.signed]
theorem or8 {a b:Nat} (ha:a<256) (hb:b<256):arithZ .or .u8 ((a:Nat):Int) ((b:Nat):Int)=some (((a |||b) % 256:Nat):Int):=by
 show some (IntKind.u8.wrap ((BitVec.ofInt 8 (a:Int) |||BitVec.ofInt 8 (b:Int)).toNat:Int))=_;rw [BitVec.toNat_or,BitVec.toNat_ofInt,BitVec.toNat_ofInt,IntKind.wrap_u8];have e1:((a:Int) % ((2^8:Nat):Int)).toNat=a:=by omega
 have e2:((b:Int) % ((2^8:Nat):Int)).toNat=b:=by omega
 rw [e1,e2];congr 1
theorem andNot8 {a:Nat} (ha:a<256):arithZ .andNot .u8 ((a:Nat):Int) 128=some (((a &&& 127) % 256:Nat):Int):=by
 show some (IntKind.u8.wrap ((BitVec.ofInt 8 (a:Int) &&& ~~~(BitVec.ofInt 8 128)).toNat:Int))=_;have e3: ~~~(BitVec.ofInt 8 128)=BitVec.ofInt 8 127:=by decide
 rw [e3,BitVec.toNat_and,BitVec.toNat_ofInt,BitVec.toNat_ofInt,IntKind.wrap_u8];have e1:((a:Int) % ((2^8:Nat):Int)).toNat=a:=by omega
 have e2:((127:Int) % ((2^8:Nat):Int)).toNat=127:=by decide
 rw [e1,e2];congr 1
theorem zig_z {m:Int} (h0: -9223372036854775808<=m) (h1:m<=9223372036854775807) :
  arithZ .xor .u64 (IntKind.u64.wrap (IntKind.u64.wrap m*2^min (Int.toNat 1) IntKind.u64.bits)) (IntKind.u64.wrap (m.fdiv (2^min (Int.toNat 63) IntKind.i64.bits)))=some ((zig m:Nat):Int):=by
 have e1:(2:Int)^min (Int.toNat 1) IntKind.u64.bits=2:=by decide
 have e2:(2:Int)^min (Int.toNat 63) IntKind.i64.bits=9223372036854775808:=by decide
 rw [e1,e2];simp only [arithZ,Option.some.injEq];rw [u64_wrap,u64_wrap,u64_wrap,u64_wrap];by_cases hm:0<=m
 ·have e3:m.fdiv 9223372036854775808=0:=by
   rw [Int.fdiv_eq_ediv_of_nonneg _ (by omega)];omega
  rw [e3];have e4:m % 18446744073709551616*2 % 18446744073709551616=((zig m:Nat):Int):=by unfold zig;rw [if_pos hm];omega
  have e5:(0:Int) % 18446744073709551616=0:=by omega
  have hz:zig m<18446744073709551616:=zig_lt h0 h1;rw [e4,e5];have e6:(BitVec.ofInt IntKind.u64.bits ((zig m:Nat):Int)^^^BitVec.ofInt IntKind.u64.bits 0).toNat=zig m:=by
   rw [BitVec.toNat_xor];have:(BitVec.ofInt IntKind.u64.bits 0).toNat=0:=by rfl
   rw [this,Nat.xor_zero];simp only [BitVec.toNat_ofInt];show (((zig m:Nat):Int) % (2^64:Nat)).toNat=zig m;omega
  rw [e6];omega
 have e3:m.fdiv 9223372036854775808= -1:=by rw [Int.fdiv_eq_ediv_of_nonneg _ (by omega)];omega
 rw [e3];have hz:zig m<18446744073709551616:=zig_lt h0 h1;have e4:m % 18446744073709551616*2 % 18446744073709551616=((18446744073709551615 - zig m:Nat):Int):=by unfold zig at hz ⊢;rw [if_neg hm] at hz ⊢;omega
 have e5:(-1:Int) % 18446744073709551616=18446744073709551615:=by omega
 rw [e4,e5];have e6:(BitVec.ofInt IntKind.u64.bits ((18446744073709551615 - zig m:Nat):Int)^^^BitVec.ofInt IntKind.u64.bits 18446744073709551615).toNat=zig m:=by
  have h2:(BitVec.ofInt IntKind.u64.bits 18446744073709551615)=BitVec.allOnes 64:=by rfl
  rw [h2];show (BitVec.ofInt 64 _^^^BitVec.allOnes 64).toNat=_;rw [BitVec.xor_allOnes,BitVec.toNat_not];simp only [BitVec.toNat_ofInt];omega
 rw [e6];omega
theorem or128_all: ∀x:Fin 256,(x.val |||128) % 256=x.val % 128+128:=by decide+kernel
theorem and127_all: ∀x:Fin 256,(x.val &&& 127) % 256=x.val % 128:=by decide+kernel
theorem or128 {z:Nat}:arithZ .or .u8 (IntKind.u8.wrap (z:Int)) 128=some ((z % 128+128:Nat):Int):=by
 have e:IntKind.u8.wrap (z:Int)=((z % 256:Nat):Int):=by rw [IntKind.wrap_u8];omega
 rw [e];have h:=or8 (a:=z % 256) (b:=128) (by omega) (by omega);have h2:=or128_all ⟨z % 256,by omega⟩;simp only at h2;rw [h2] at h;have h3:z % 256 % 128=z % 128:=by omega
 rw [h3] at h;exact h
theorem andNot128 {c:Nat} (hc:c<256):arithZ .andNot .u8 (c:Int) 128=some ((c % 128:Nat):Int):=by have h:=andNot8 hc;have h2:=and127_all ⟨c,hc⟩;simp only at h2;rw [h2] at h;exact h
theorem shr7 {z:Nat}:((z:Nat):Int).fdiv (2^min (Int.toNat 7) IntKind.u64.bits)=((z / 128:Nat):Int):=by
 have e1:(2:Int)^min (Int.toNat 7) IntKind.u64.bits=128:=by decide
 rw [e1,Int.fdiv_eq_ediv_of_nonneg _ (by omega)];omega
theorem put_step {xs:List Value} {out:List Nat} (z:Nat):(xs++bytesV out)++(#[Value.int .u8 ((z:Nat):Int)]:Array Value).toList=xs++bytesV (out++ [z]):=by simp [bytesV]
theorem u64_small {c:Nat} (h:c<256):IntKind.u64.wrap ((c:Nat):Int)=((c:Nat):Int):=by rw [u64_wrap];omega
theorem shl_num {c i:Nat} (h:c*2^(7*i)<18446744073709551616) (hi:i<=9):IntKind.u64.wrap ((c:Int)*2^min ((7:Int)*(i:Int)).toNat IntKind.u64.bits)=((c*2^(7*i):Nat):Int):=by
 have e:min ((7:Int)*(i:Int)).toNat IntKind.u64.bits=7*i:=by have:IntKind.u64.bits=64:=rfl;rw [this];omega
 rw [e,u64_wrap];have:((c:Int)*2^(7*i))=((c*2^(7*i):Nat):Int):=by push_cast;rfl
 rw [this];omega
theorem or_num {z c i:Nat} (hz:z<2^(7*i)) (h:z+c*2^(7*i)<18446744073709551616):arithZ .or .u64 ((z:Nat):Int) ((c*2^(7*i):Nat):Int)=some ((z+c*2^(7*i):Nat):Int):=by
 simp only [arithZ,Option.some.injEq];have e1:(BitVec.ofInt IntKind.u64.bits ((z:Nat):Int) |||BitVec.ofInt IntKind.u64.bits ((c*2^(7*i):Nat):Int)).toNat=z+c*2^(7*i):=by
  rw [BitVec.toNat_or];simp only [BitVec.toNat_ofInt];have a1:(((z:Nat):Int) % ((2^IntKind.u64.bits:Nat):Int)).toNat=z:=by show (((z:Nat):Int) % ((2^64:Nat):Int)).toNat=z;omega
  have a2:(((c*2^(7*i):Nat):Int) % ((2^IntKind.u64.bits:Nat):Int)).toNat=c*2^(7*i):=by show (((c*2^(7*i):Nat):Int) % ((2^64:Nat):Int)).toNat=_;omega
  rw [a1,a2,Nat.or_comm,Nat.mul_comm c,<-Nat.two_pow_add_eq_or_of_lt hz];omega
 rw [e1,u64_wrap];omega
theorem and1_z {z:Nat} (h:z<18446744073709551616):arithZ .and .u64 ((z:Nat):Int) 1=some ((z % 2:Nat):Int):=by
 simp only [arithZ,Option.some.injEq];have e1:(BitVec.ofInt IntKind.u64.bits ((z:Nat):Int) &&& BitVec.ofInt IntKind.u64.bits 1).toNat=z % 2:=by
  rw [BitVec.toNat_and];simp only [BitVec.toNat_ofInt];have a1:(((z:Nat):Int) % ((2^IntKind.u64.bits:Nat):Int)).toNat=z:=by show (((z:Nat):Int) % ((2^64:Nat):Int)).toNat=z;omega
  have a2:((1:Int) % ((2^IntKind.u64.bits:Nat):Int)).toNat=1:=by decide
  rw [a1,a2,Nat.and_one_is_mod]
 rw [e1,u64_wrap];omega
theorem shr1_z {z:Nat}:((z:Nat):Int).fdiv (2^min (Int.toNat 1) IntKind.u64.bits)=((z / 2:Nat):Int):=by
 have e1:(2:Int)^min (Int.toNat 1) IntKind.u64.bits=2:=by decide
 rw [e1,Int.fdiv_eq_ediv_of_nonneg _ (by omega)];omega
theorem i64_nat {z:Nat} (h:z<9223372036854775808):IntKind.i64.wrap ((z:Nat):Int)=((z:Nat):Int):=IntWalk.i64_in _ ⟨by omega,by omega⟩
theorem neg_z {z:Nat} (h:z<2):arithZ .sub .i64 0 ((z:Nat):Int)=some (-((z:Nat):Int)):=sub_z (by omega) (by omega) (by omega)
theorem unzig_z {z:Nat} (h:z<18446744073709551616):arithZ .xor .i64 ((z / 2:Nat):Int) (-((z % 2:Nat):Int))=some (unzig z):=by
 simp only [arithZ,Option.some.injEq];have hz:z / 2<9223372036854775808:=by omega
 unfold unzig;split
 ·rename_i h2;rw [h2];have e6:(BitVec.ofInt IntKind.i64.bits ((z / 2:Nat):Int)^^^BitVec.ofInt IntKind.i64.bits (-((0:Nat):Int))).toNat=z / 2:=by
   rw [BitVec.toNat_xor];have:(BitVec.ofInt IntKind.i64.bits (-((0:Nat):Int))).toNat=0:=by rfl
   rw [this,Nat.xor_zero];simp only [BitVec.toNat_ofInt];show (((z / 2:Nat):Int) % (2^64:Nat)).toNat=_;omega
  rw [e6,i64_nat hz]
 rename_i h2;have h3:z % 2=1:=by omega
 rw [h3];have e6:(BitVec.ofInt IntKind.i64.bits ((z / 2:Nat):Int)^^^BitVec.ofInt IntKind.i64.bits (-((1:Nat):Int))).toNat=18446744073709551615 - z / 2:=by
  have h2:(BitVec.ofInt IntKind.i64.bits (-((1:Nat):Int)))=BitVec.allOnes 64:=by rfl
  rw [h2];show (BitVec.ofInt 64 _^^^BitVec.allOnes 64).toNat=_;rw [BitVec.xor_allOnes,BitVec.toNat_not];simp only [BitVec.toNat_ofInt];omega
 rw [e6];have e7:(((18446744073709551615 - z / 2:Nat):Nat):Int)= -((z / 2:Nat):Int) - 1+18446744073709551616:=by omega
 rw [e7,IntKind.wrap_i64];omega
theorem drop_at {bs:List Nat} {k:Nat} (h:k<bs.length):bs.drop k=bs.getD k 0::bs.drop (k+1):=by rw [List.getD_eq_getElem?_getD,List.getElem?_eq_getElem h,Option.getD_some,List.drop_eq_getElem_cons h]
theorem getD_lt {bs:List Nat} (h: ∀x∈bs,x<256) (k:Nat):bs.getD k 0<256:=by
 rw [List.getD_eq_getElem?_getD];cases hk:bs[k]? with
 |none=>simp
 |some x=>exact h x (List.mem_of_getElem? hk)
end Go.Proofs.YtefaghnlmmgpcaaGreatDoor.B
