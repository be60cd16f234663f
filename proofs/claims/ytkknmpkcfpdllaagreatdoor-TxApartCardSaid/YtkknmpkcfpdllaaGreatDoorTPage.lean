/- What functions of the program compute, each function once: steps over the model, and the plain law of it. -/
import Derived.Test.YtkknmpkcfpdllaaGreatDoorTWireMath
import Derived.Test.YtkknmpkcfpdllaaGreatDoorProg
import Derived.Test.YtkknmpkcfpdllaaGreatDoorTFacts
import Derived.Test.YtkknmpkcfpdllaaGreatDoorTSee
import Derived.Test.YtkknmpkcfpdllaaGreatDoorSLogB
namespace Go.Proofs.YtkknmpkcfpdllaaGreatDoor.B
open Go Go.Proofs
set_option linter.unusedVariables false
set_option linter.unusedSimpArgs false
set_option maxRecDepth 20000
set_option maxHeartbeats 8000000
theorem Clone_spec {w0 w:World} {D:Sto} {ss:List Seg} (I:Inv w0 D ss w) {vb:Value} {bs:List Nat} (hb:RB D vb bs) (hm:bs.length<=140737488355328) :
  Calls Tryz.prog 73 #[vb] w (Ret fun r w'=> ∃s,OB r bs s/\Inv w0 D (s::ss) w'):=by
 obtain ⟨A1,c2,rfl,_⟩:=hb.slice;refine enter (N:=8) Tryz.func73 rfl rfl rfl ?_;intro a Z;refine go 6 Z I ?_;clear Z a;intro a Z;rcases A1 with _|A1
 ·refine zs Z (p_eq rfl rfl (g_none rfl) (e_sliceNil Tryz.underlying33 (rfl)) rfl rfl) ?_;clear Z a;intro a Z;refine go 7 Z I ?_;clear Z a;intro a Z;refine rt1 Z ?_;obtain rfl:=hb.none_nil;exact ⟨[],Row.nil 5 1,I.nilseg⟩
 refine zs Z (p_eq rfl rfl (g_none rfl) (e_sliceNil Tryz.underlying33 (rfl)) rfl rfl) ?_;clear Z a;intro a Z;refine gc 5 Z ?_;refine l_step rfl (f_lit (vs:= []) (l:= []) Z I rfl rfl rfl rfl Tryz.underlying33 zs_5 rfl rfl rfl ?_);clear I Z a w;intro a b3 w Z I;refine zm Z ?_;clear Z a;intro a Z;refine l_step rfl (o_appendRB 0 Z I rfl rfl rfl rfl rfl Tryz.underlying33 zsb_5 rfl (Row.lit (T:=5) (size:=1) (n:=0) rfl (by omega)) hb (by omega) ?_);clear I Z a w;intro v4 s5 w hR6 I a Z;obtain ⟨A7,c8,rfl,_⟩:=hR6.slice;(try simp only [nrm,Value.cells] at I);refine go 3 Z I ?_;clear Z a;intro a Z;refine rt1 Z ?_;exact ⟨_,hR6.cast (by simp [bytesV]) (by omega),I⟩
theorem put_spec {w0 w:World} {D:Sto} {ss:List Seg} {s:Seg} {v:Value} {n:Nat} {xs:List Value} {m:Int} (I:Inv w0 D (s::ss) w) (hR:Row 5 1 v n xs s) (h0: -9223372036854775808<=m) (h1:m<=9223372036854775807) (hn:n<=140737488355000) :
  Calls Tryz.prog 118 #[v, .int .i64 m] w (Ret fun r w'=> ∃s,Row 5 1 r (n+(putZ m).length) (xs++bytesV (putZ m)) s/\Inv w0 D (s::ss) w'):=by
 obtain ⟨A0,c0,rfl,_⟩:=hR.slice;have hlen:(putZ m).length<=10:=putN_len64 (zig_lt h0 h1);refine enter (N:=28) Tryz.func118 rfl rfl rfl ?_;intro a Z;refine go 5 Z I ?_;clear Z a;intro a Z;refine zs Z (p_int (z:=_) Tryz.underlying2 Tryz.underlying232 rfl (rfl)) ?_;clear Z a;intro a Z;refine zs Z (p_shl (z:=_) rfl rfl (by omega) (rfl)) ?_;clear Z a;intro a Z;refine zm Z ?_;clear Z a;intro a Z;refine zs Z (p_shr (z:=_) rfl rfl (by omega) (rfl)) ?_;clear Z a;intro a Z;refine zs Z (p_int (z:=_) Tryz.underlying2 Tryz.underlying232 rfl (rfl)) ?_;clear Z a;intro a Z;refine zs Z (p_arith (z:=((zig m:Nat):Int)) rfl rfl (zig_z h0 h1)) ?_;clear Z a;intro a Z;refine go 4 Z I ?_;clear Z a;intro a Z;refine c_loop (X:=Value×Seg×List Nat×Nat) (fun x=> [(0,x.1),(5, .int .u64 (x.2.2.2:Nat))]) (fun x w=>Row 5 1 x.1 (n+x.2.2.1.length) (xs++bytesV x.2.2.1) x.2.1/\Inv w0 D (x.2.1::ss) w/\putZ m=x.2.2.1++putN x.2.2.2/\x.2.2.2<18446744073709551616) (fun x=>x.2.2.2) (_,_, [],zig m) (Z.pick [0,5]) ⟨hR.cast (by simp [bytesV]) rfl,I,rfl,zig_lt h0 h1⟩ ?_;clear Z I a w;rintro ⟨v,s,out,z⟩ a w Z ⟨hR,I,hp,hz⟩;(try dsimp only at Z);(try dsimp only at hR);(try dsimp only at I);(try dsimp only at hp);(try dsimp only at hz);obtain ⟨A1,c1,rfl,_⟩:=hR.slice;refine go 3 Z I ?_;clear Z a;intro a Z;refine cmx Z ?_ ?_
 ·intro hz128;replace hz128:=geq_t hz128;clear Z a;intro a Z;refine go 8 Z I ?_;clear Z a;intro a Z;refine zs Z (p_int (z:=_) Tryz.underlying232 Tryz.underlying5 rfl (rfl)) ?_;clear Z a;intro a Z;refine zs Z (p_arith (z:=((z % 128+128:Nat):Int)) rfl rfl (or128)) ?_;clear Z a;intro a Z;refine l_step rfl (f_lit (vs:= [(0,_)]) (l:= [_]) Z I rfl rfl rfl rfl Tryz.underlying33 zs_5 rfl rfl rfl ?_);clear I Z a w;intro a b1 w Z I;refine l_step rfl (o_append 1 Z I rfl rfl rfl rfl rfl Tryz.underlying33 zsb_5 rfl rfl rfl hR (by rfl) (lit_news (I.seg 0 rfl)) (by simp [Value.oneCell']) (by have h2:=congrArg List.length hp;have:=putN_pos z;simp at h2;omega) (by have h2:=congrArg List.length hp;have:=putN_pos z;simp at h2;omega) ?_);clear I Z a w;intro v2 s3 w hR4 I a Z;obtain ⟨A5,c6,rfl,_⟩:=hR4.slice;replace I:=I.erase 0;(try simp only [nrm,Value.cells] at I);refine go 4 Z I ?_;clear Z a;intro a Z;refine zs Z (p_shr (z:=((z / 128:Nat):Int)) rfl rfl (by omega) (shr7)) ?_;clear Z a;intro a Z;refine za Z ?_;clear Z a;intro a Z;refine wpList_nil ?_;refine gc 2 Z ?_;exact ⟨(_,_,out++ [z % 128+128],z / 128),Z.pick [0,5],⟨Row.cast hR4 (put_step _) (by simp;omega),I,by rw [hp,putN,if_neg (by omega)];simp,by show z / 128<_;omega⟩,by show z / 128<z;omega⟩
 intro hz128;replace hz128:=geq_f hz128;clear Z a;intro a Z;refine go 10 Z I ?_;clear Z a;intro a Z;refine zs Z (p_int (z:=((z:Nat):Int)) Tryz.underlying232 Tryz.underlying5 rfl (by rw [IntKind.wrap_u8];omega)) ?_;clear Z a;intro a Z;refine l_step rfl (f_lit (vs:= [(0,_)]) (l:= [_]) Z I rfl rfl rfl rfl Tryz.underlying33 zs_5 rfl rfl rfl ?_);clear I Z a w;intro a b7 w Z I;refine l_step rfl (o_append 1 Z I rfl rfl rfl rfl rfl Tryz.underlying33 zsb_5 rfl rfl rfl hR (by rfl) (lit_news (I.seg 0 rfl)) (by simp [Value.oneCell']) (by have h2:=congrArg List.length hp;have:=putN_pos z;simp at h2;omega) (by have h2:=congrArg List.length hp;have:=putN_pos z;simp at h2;omega) ?_);clear I Z a w;intro v8 s9 w hR10 I a Z;obtain ⟨A11,c12,rfl,_⟩:=hR10.slice;replace I:=I.erase 0;(try simp only [nrm,Value.cells] at I);refine go 3 Z I ?_;clear Z a;intro a Z;refine rt1 Z ?_;have e:putZ m=out++ [z]:=by rw [hp,putN,if_pos (by omega)]
 refine ⟨_,Row.cast hR10 (by rw [e];exact put_step z) (by rw [e];simp;omega),I⟩
theorem Put_spec {w0 w:World} {D:Sto} {ss:List Seg} (I:Inv w0 D ss w) {vb:Value} {bs:List Nat} {m:Int} (hb:RB D vb bs) (hm:bs.length<=140737488355000) (h0: -9223372036854775808<=m) (h1:m<=9223372036854775807) :
  Calls Tryz.prog 68 #[vb, .int .i64 m] w (Ret fun r w'=> ∃s,OB r (bs++putZ m) s/\Inv w0 D (s::ss) w'):=by
 obtain ⟨A1,c2,rfl,_⟩:=hb.slice;refine enter (N:=9) Tryz.func68 rfl rfl rfl ?_;intro a Z;refine go 5 Z I ?_;clear Z a;intro a Z;refine l_step rfl (o_call Z rfl rfl rfl rfl ent_73 (Clone_spec I hb (by first|omega|(simp only [List.length_nil];omega))) ?_);clear I Z a;rintro r w ⟨s6,hR3,I⟩ a Z;obtain ⟨A4,c5,rfl,_⟩:=Row.slice hR3;refine zm Z ?_;clear Z a;intro a Z;refine l_step rfl (o_call Z rfl rfl rfl rfl ent_118 (put_spec I hR3 (by omega) (by omega) (by omega)) ?_);clear I Z a;rintro r w ⟨s10,hR7,I⟩ a Z;obtain ⟨A8,c9,rfl,_⟩:=Row.slice hR7;refine go 3 Z I ?_;clear Z a;intro a Z;refine rt1 Z ?_;exact ⟨_,Row.cast hR7 (by simp [bytesV]) (by simp),I⟩
theorem PutBytes_spec {w0 w:World} {D:Sto} {ss:List Seg} (I:Inv w0 D ss w) {vb vx:Value} {bs xs:List Nat} (hb:RB D vb bs) (hx:RB D vx xs) (hm:bs.length+xs.length<=140737488355000) :
  Calls Tryz.prog 67 #[vb,vx] w (Ret fun r w'=> ∃s,OB r (bs++putZ (xs.length:Nat)++xs) s/\Inv w0 D (s::ss) w'):=by
 obtain ⟨A1,c2,rfl,_⟩:=hb.slice;obtain ⟨A3,c4,rfl,_⟩:=hx.slice;have hlen:(putZ (xs.length:Nat)).length<=10:=putN_len64 (zig_lt (by omega) (by omega));refine enter (N:=12) Tryz.func67 rfl rfl rfl ?_;intro a Z;refine go 5 Z I ?_;clear Z a;intro a Z;refine l_step rfl (o_call Z rfl rfl rfl rfl ent_73 (Clone_spec I hb (by first|omega|(simp only [List.length_nil];omega))) ?_);clear I Z a;rintro r w ⟨s8,hR5,I⟩ a Z;obtain ⟨A6,c7,rfl,_⟩:=Row.slice hR5;refine zm Z ?_;clear Z a;intro a Z;refine zs Z (p_len rfl rfl Tryz.underlying33) ?_;clear Z a;intro a Z;refine l_step rfl (o_call Z rfl rfl rfl rfl ent_118 (put_spec I hR5 (by omega) (by omega) (by omega)) ?_);clear I Z a;rintro r w ⟨s12,hR9,I⟩ a Z;obtain ⟨A10,c11,rfl,_⟩:=Row.slice hR9;refine zm Z ?_;clear Z a;intro a Z;refine l_step rfl (o_appendRB 0 Z I rfl rfl rfl rfl rfl Tryz.underlying33 zsb_5 rfl hR9 hx (by omega) ?_);clear I Z a w;intro v13 s14 w hR15 I a Z;obtain ⟨A16,c17,rfl,_⟩:=hR15.slice;(try simp only [nrm,Value.cells] at I);refine go 3 Z I ?_;clear Z a;intro a Z;refine rt1 Z ?_;exact ⟨_,Row.cast hR15 (by simp [bytesV]) (by simp;omega),I⟩
def valL (l:List Nat):Nat:=l.foldl (fun s x=>s*256+x) 0
theorem valL_acc: ∀(l:List Nat) (s:Nat),l.foldl (fun s x=>s*256+x) s=s*256^l.length+valL l
 | [],s=>by simp [valL]
 |x::l,s=>by
  simp only [List.foldl_cons,valL,List.length_cons];rw [valL_acc l (s*256+x),valL_acc l (0*256+x)];have h:s*256^(l.length+1)=s*256*256^l.length:=by rw [Nat.pow_succ,Nat.mul_assoc,Nat.mul_comm 256]
  rw [h,Nat.add_mul,Nat.zero_mul,Nat.zero_add];omega
theorem valL_cons (x:Nat) (l:List Nat):valL (x::l)=x*256^l.length+valL l:=by have:=valL_acc l (0*256+x);simpa [valL] using this
theorem valL_lt: ∀(l:List Nat),(∀x∈l,x<256)->valL l<256^l.length
 | [],_=>by simp [valL]
 |x::l,h=>by
  rw [valL_cons,List.length_cons,Nat.pow_succ];have h1:=valL_lt l (fun y hy=>h y (by simp [hy]));have h2:=h x (by simp);have h3:x*256^l.length<=255*256^l.length:=Nat.mul_le_mul_right _ (by omega);omega
theorem ltB_val: ∀(a b:List Nat),a.length=b.length->(∀x∈a,x<256)->(∀x∈b,x<256)->(ltB a b=true↔valL a<valL b)
 | [], [],_,_,_=>by simp [ltB,valL]
 | [],_::_,h,_,_=>by simp at h
 |_::_, [],h,_,_=>by simp at h
 |x::a,y::b,h,ha,hb=>by
  have hl:a.length=b.length:=by simpa using h
  have ih:=ltB_val a b hl (fun z hz=>ha z (by simp [hz])) (fun z hz=>hb z (by simp [hz]));have h1:=valL_lt a (fun z hz=>ha z (by simp [hz]));have h2:=valL_lt b (fun z hz=>hb z (by simp [hz]));rw [valL_cons,valL_cons,<-hl];rw [<-hl] at h2;simp only [ltB];generalize 256^a.length=q at*;by_cases e:x=y
  ·subst e;rw [if_pos rfl,ih];omega
  rw [if_neg e,decide_eq_true_eq];constructor
  ·intro hxy;have h3:(x+1)*q<=y*q:=Nat.mul_le_mul_right _ (by omega);rw [Nat.add_mul] at h3;omega
  intro hlt;rcases Nat.lt_or_ge x y with h|h
  ·exact h
  exfalso;have h3:(y+1)*q<=x*q:=Nat.mul_le_mul_right _ (by omega);rw [Nat.add_mul] at h3;omega
theorem byteAt_nat (t i:Nat) (hi:i<8):byteAt (t:Int) i=t / 256^(7 - i) % 256:=by
 unfold byteAt;have h1:min (8*((7 - i:Nat):Int)).toNat 64=8*(7 - i):=by omega
 rw [h1,Int.fdiv_eq_ediv_of_nonneg _ (Int.pow_nonneg (by omega))];have h2:(2:Int)^(8*(7 - i))=((256^(7 - i):Nat):Int):=by rw [Int.pow_mul,Int.natCast_pow];rfl
 rw [h2];rw [<-Int.natCast_ediv,show (256:Int)=((256:Nat):Int) from rfl,<-Int.natCast_emod,Int.toNat_natCast]
theorem valL_key (t n:Nat) (ht:t<256^8) (hn:n<256):valL (keyL t n)=(117*256^8+t)*256+n:=by
 have hb:be8 (t:Int)= [t / 256^7 % 256,t / 256^6 % 256,t / 256^5 % 256,t / 256^4 % 256,t / 256^3 % 256,t / 256^2 % 256,t / 256^1 % 256,t / 256^0 % 256]:=by simp only [be8,show List.range 8= [0,1,2,3,4,5,6,7] from rfl,List.map_cons,List.map_nil];rw [byteAt_nat t 0 (by omega),byteAt_nat t 1 (by omega),byteAt_nat t 2 (by omega),byteAt_nat t 3 (by omega),byteAt_nat t 4 (by omega),byteAt_nat t 5 (by omega),byteAt_nat t 6 (by omega),byteAt_nat t 7 (by omega)]
 have hn':((n:Int) % 256).toNat=n:=by omega
 simp only [keyL,hb,hn',List.cons_append,List.nil_append];simp only [valL,List.foldl_cons,List.foldl_nil];omega
theorem keyL_len (t n:Int):(keyL t n).length=10:=by simp [keyL,be8]
theorem ltB_key {t s n m:Int} (h1:1<=t/\t<=2251799813685248/\0<=n/\n<12) (h2:1<=s/\s<=2251799813685248/\0<=m/\m<12):(ltB (keyL t n) (keyL s m)=true)=(t<s\/t=s/\n<m):=by obtain ⟨t,rfl⟩:=Int.eq_ofNat_of_zero_le (show 0<=t by omega);obtain ⟨s,rfl⟩:=Int.eq_ofNat_of_zero_le (show 0<=s by omega);obtain ⟨n,rfl⟩:=Int.eq_ofNat_of_zero_le (show 0<=n by omega);obtain ⟨m,rfl⟩:=Int.eq_ofNat_of_zero_le (show 0<=m by omega);rw [eq_iff_iff,ltB_val _ _ (by rw [keyL_len,keyL_len]) (keyL_lt _ _) (keyL_lt _ _),valL_key t n (by omega) (by omega),valL_key s m (by omega) (by omega)];omega
theorem key_eq {t s n m:Int} (h1:1<=t/\t<=2251799813685248/\0<=n/\n<12) (h2:1<=s/\s<=2251799813685248/\0<=m/\m<12):(keyL t n=keyL s m)=(t=s/\n=m):=by
 obtain ⟨t,rfl⟩:=Int.eq_ofNat_of_zero_le (show 0<=t by omega);obtain ⟨s,rfl⟩:=Int.eq_ofNat_of_zero_le (show 0<=s by omega);obtain ⟨n,rfl⟩:=Int.eq_ofNat_of_zero_le (show 0<=n by omega);obtain ⟨m,rfl⟩:=Int.eq_ofNat_of_zero_le (show 0<=m by omega);rw [eq_iff_iff];constructor
 ·intro h;have:=congrArg valL h;rw [valL_key t n (by omega) (by omega),valL_key s m (by omega) (by omega)] at this;omega
 rintro ⟨h3,h4⟩;rw [h3,h4]
theorem ltB_user (key:List Nat) (t n:Int):ltB (107::key) (keyL t n)=true:=by simp [keyL,ltB]
open Go
structure Ent where
 tx:Int
 n:Int
 key:List Nat
 had:Bool
 value:List Nat
def Ent.Ok (e:Ent):Prop:=(1<=e.tx/\e.tx<=2251799813685248/\0<=e.n/\e.n<12)/\(1<=e.key.length/\e.key.length<=20)/\e.value.length<=24/\(e.had=true\/e.value.length=0)
def hadZ (b:Bool):Int:=if b then 1 else 0
def Ent.enc (e:Ent):List Nat:=putZ (e.key.length:Nat)++e.key++putZ (hadZ e.had)++putZ (e.value.length:Nat)++e.value
theorem enc_lt {e:Ent} (hk: ∀x∈e.key,x<256) (hv: ∀x∈e.value,x<256): ∀x∈e.enc,x<256:=by
 intro x hx;simp only [Ent.enc,List.mem_append] at hx;rcases hx with (((h|h)|h)|h)|h
 ·exact putZ_lt _ x h
 ·exact hk x h
 ·exact putZ_lt _ x h
 ·exact putZ_lt _ x h
 exact hv x h
theorem putZ_small {n:Int} (h0:0<=n) (h1:n<64):putZ n= [(2*n).toNat]:=by unfold putZ zig;rw [if_pos h0,putN,if_pos (by omega)]
theorem enc_len {e:Ent} (h:e.Ok):e.enc.length<=60:=by
 obtain ⟨_,⟨h1,h2⟩,h3,_⟩:=h;have e1:(putZ (e.key.length:Nat)).length=1:=by rw [putZ_small (by omega) (by omega)];rfl
 have e2:(putZ (hadZ e.had)).length=1:=by rw [putZ_small (by unfold hadZ;split<;>omega) (by unfold hadZ;split<;>omega)];rfl
 have e3:(putZ (e.value.length:Nat)).length=1:=by rw [putZ_small (by omega) (by omega)];rfl
 simp only [Ent.enc,List.length_append,e1,e2,e3];omega
theorem OB.data {w0 w:World} {D:Sto} {ss:List Seg} {r:Value} {bs:List Nat} (h: ∃s,OB r bs s/\Inv w0 D (s::ss) w) (hb: ∀x∈bs,x<256): ∃D',Le D D'/\Inv w0 D' ss w/\RB D' r bs:=by obtain ⟨s,h1,I⟩:=h;exact ⟨_,I.le_shut,I.shut,Row.shut_bytes h1 hb⟩
theorem Ret.imp {R R':Value->World->Prop} {e:Ending} {w:World} (h:Ret R e w) (hi: ∀r w,R r w->R' r w):Ret R' e w:=by obtain ⟨r,he,hr⟩:=h;exact ⟨r,he,hi _ _ hr⟩
theorem Clone_data {w0 w:World} {D:Sto} {ss:List Seg} (I:Inv w0 D ss w) {vb:Value} {bs:List Nat} (hb:RB D vb bs) (hm:bs.length<=140737488355328) :
  Calls Tryz.prog 73 #[vb] w (Ret fun r w'=> ∃D',Le D D'/\Inv w0 D' ss w'/\RB D' r bs):=
 (Clone_spec I hb hm).mono fun _ _ h=>h.imp fun _ _ h=>OB.data h hb.lt
theorem Put_data {w0 w:World} {D:Sto} {ss:List Seg} (I:Inv w0 D ss w) {vb:Value} {bs:List Nat} {m:Int} (hb:RB D vb bs) (hm:bs.length<=140737488355000) (h0: -9223372036854775808<=m) (h1:m<=9223372036854775807) :
  Calls Tryz.prog 68 #[vb, .int .i64 m] w (Ret fun r w'=> ∃D',Le D D'/\Inv w0 D' ss w'/\RB D' r (bs++putZ m)):=
 (Put_spec I hb hm h0 h1).mono fun _ _ h=>h.imp fun _ _ h=>OB.data h (fun x hx=>by rcases List.mem_append.1 hx with h|h;exact hb.lt x h;exact putZ_lt _ x h)
theorem PutBytes_data {w0 w:World} {D:Sto} {ss:List Seg} (I:Inv w0 D ss w) {vb vx:Value} {bs xs:List Nat} (hb:RB D vb bs) (hx:RB D vx xs) (hm:bs.length+xs.length<=140737488355000) :
  Calls Tryz.prog 67 #[vb,vx] w (Ret fun r w'=> ∃D',Le D D'/\Inv w0 D' ss w'/\RB D' r (bs++putZ (xs.length:Nat)++xs)):=
 (PutBytes_spec I hb hx hm).mono fun _ _ h=>h.imp fun _ _ h=>OB.data h (fun x hx'=>by
  simp only [List.mem_append] at hx';rcases hx' with (h|h)|h
  ·exact hb.lt x h
  ·exact putZ_lt _ x h
  exact hx.lt x h)
theorem bytes_step {bs:List Nat} {i:Nat} (h:i<bs.length):bytesV (bs.take i)++(#[Value.int .u8 ((bs.getD ((i:Nat):Int).toNat 0:Nat):Int)]:Array Value).toList=bytesV (bs.take (i+1)):=by
 have e:bs.getD ((i:Nat):Int).toNat 0=bs[i]:=by rw [List.getD_eq_getElem?_getD];simp [List.getElem?_eq_getElem h]
 rw [List.take_add_one,List.getElem?_eq_getElem h,e,Option.toList_some];simp only [bytesV,List.map_append,List.map_cons,List.map_nil]
theorem Number_spec {w0 w:World} {D:Sto} {ss:List Seg} (I:Inv w0 D ss w) (n:Int) {m:Int} (hb:0<m) (hm:m<=4611686018427387904) :
  Calls Tryz.prog 45 #[.int .i64 n, .int .i64 m] w (Ret fun r w'=>(∃z,r= .int .i64 z/\0<=z/\z<m)/\Inv w0 D ss w'):=by
 refine enter (N:=15) Tryz.func45 rfl rfl rfl ?_;intro a Z;refine go 6 Z I ?_;clear Z a;intro a Z;refine zs Z (p_arith (z:=_) rfl rfl (rem_z rfl (by omega))) ?_;clear Z a;intro a Z;refine go 2 Z I ?_;clear Z a;intro a Z;refine wp_seq ?_;refine wp_seq ?_;have hr1:=Int.tmod_lt_of_pos n hb;have hr2:=Int.lt_tmod_of_pos n hb;generalize n.tmod m=r at Z hr1 hr2;refine go 2 Z I ?_;clear Z a;intro a Z;refine cmx Z ?_ ?_
 ·intro hneg;replace hneg:=lss_t hneg;clear Z a;intro a Z;refine go 5 Z I ?_;clear Z a;intro a Z;refine zs Z (p_arith (z:=_) rfl rfl (add_z rfl (by omega) (by omega))) ?_;clear Z a;intro a Z;refine go 7 Z I ?_;clear Z a;intro a Z;refine rt1 Z ?_;exact ⟨⟨_,rfl,by omega,by omega⟩,I⟩
 intro hneg;replace hneg:=lss_f hneg;clear Z a;intro a Z;refine go 9 Z I ?_;clear Z a;intro a Z;refine rt1 Z ?_;exact ⟨⟨_,rfl,by omega,by omega⟩,I⟩
theorem refBytes_spec {w0 w:World} {D:Sto} {ss:List Seg} (I:Inv w0 D ss w) {vb:Value} {bs:List Nat} (hb:RB D vb bs) (hm:bs.length<=140737488355000) :
  Calls Tryz.prog 114 #[vb] w (Ret fun r w'=> ∃s,OB r bs s/\Inv w0 D (s::ss) w'):=by
 obtain ⟨A1,c2,rfl,_⟩:=hb.slice;refine enter (N:=22) Tryz.func114 rfl rfl rfl ?_;intro a Z;refine go 5 Z I ?_;clear Z a;intro a Z;refine zs Z (p_len rfl rfl Tryz.underlying33) ?_;clear Z a;intro a Z;refine l_step rfl (f_make Z I rfl rfl rfl rfl rfl Tryz.underlying33 zsb_5 (by omega) (by omega) (by omega) (by omega) ?_);clear I Z a w;intro a b3 w Z I;refine go 7 Z I ?_;clear Z a;intro a Z;refine c_loop (X:=Nat×Value×Seg) (fun x=> [(0,_),(3,x.2.1),(4, .int .i64 (x.1:Nat))]) (fun x w=>x.1<=bs.length/\Row 5 1 x.2.1 x.1 (bytesV (bs.take x.1)) x.2.2/\Inv w0 D (x.2.2::ss) w) (fun x=>bs.length - x.1) (0,_,_) (Z.pick [0,3,4]) ⟨Nat.zero_le _,Row.cast (Row.made (l:=0) (c:=bs.length) rfl (Nat.zero_le _) (by omega)) rfl rfl,I⟩ ?_;clear Z I a w;rintro ⟨i,v,s⟩ a w Z ⟨hi,hR,I⟩;(try dsimp only at Z);(try dsimp only at hi);(try dsimp only at hR);(try dsimp only at I);obtain ⟨A1,c1,rfl,_⟩:=hR.slice;refine go 4 Z I ?_;clear Z a;intro a Z;refine zs Z (p_len rfl rfl Tryz.underlying33) ?_;clear Z a;intro a Z;refine cmx Z ?_ ?_
 ·intro hlt;replace hlt:=lss_t hlt;clear Z a;intro a Z;refine go 10 Z I ?_;clear Z a;intro a Z;obtain ⟨b_4,o_4,cs_4,T_4,fr_4,rfl,hb_4,hc_4⟩:=hb.at_ (List.ne_nil_of_length_pos (by omega));refine zs Z (p_indexAddr rfl rfl Tryz.underlying33 sz_5 (by omega) (by omega) rfl) ?_;clear Z a;intro a Z;refine zl Z (r_load rfl scal_5 (I.data _ _ (hb_4)) (RB.cell hc_4 (by omega) (by omega))) ?_;clear Z a;intro a Z;refine l_step rfl (f_lit (vs:= [(0,_)]) (l:= [_]) Z I rfl rfl rfl rfl Tryz.underlying33 zs_5 rfl rfl rfl ?_);clear I Z a w;intro a b5 w Z I;refine l_step rfl (o_append 1 Z I rfl rfl rfl rfl rfl Tryz.underlying33 zsb_5 rfl rfl rfl hR (by rfl) (lit_news (I.seg 0 rfl)) (by simp [Value.oneCell']) (by omega) (by omega) ?_);clear I Z a w;intro v6 s7 w hR8 I a Z;obtain ⟨A9,c10,rfl,_⟩:=hR8.slice;replace I:=I.erase 0;(try simp only [nrm,Value.cells] at I);refine za Z ?_;clear Z a;intro a Z;refine wpList_nil ?_;refine go 4 Z I ?_;clear Z a;intro a Z;refine zs Z (p_arith (z:=((i+1:Nat):Int)) rfl rfl (add_z (by omega) (by omega) (by omega))) ?_;clear Z a;intro a Z;refine go 2 Z I ?_;clear Z a;intro a Z;exact ⟨(i+1,_,_),Z.pick [0,3,4],⟨by show i+1<=bs.length;omega,Row.cast hR8 (bytes_step (by omega)) rfl,I⟩,by show bs.length - (i+1)<bs.length - i;omega⟩
 intro hlt;replace hlt:=lss_f hlt;clear Z a;intro a Z;refine go 12 Z I ?_;clear Z a;intro a Z;refine rt1 Z ?_;obtain rfl:i=bs.length:=by omega
 exact ⟨_,Row.cast hR (by rw [List.take_length]) rfl,I⟩
def EOk (e:Bs×Bs):Prop:=e.1.length<=100000/\e.2.length<=100000
structure POk (p:Pg):Prop where
 l0: -4611686018427387904<=p.lsn
 l1:p.lsn<=4611686018427387904
 v0:0<=p.level
 v1:p.level<=16
 n0: -1<=p.next
 n1:p.next<=4611686018427387904
 len:p.ents.length<=8
 ents: ∀e∈p.ents,EOk e
structure ROk (r:Rc):Prop where
 l0: -4611686018427387904<=r.lsn
 l1:r.lsn<=4611686018427387904
 s0:0<=r.slot
 s1:r.slot<=4611686018427387904
 k:r.key.length<=100000
 v:r.val.length<=100000
def EnR (D:Sto) (vs:List Value) (e:Bs×Bs):Prop:= ∃k v,vs= [k,v]/\RB D k e.1/\RB D v e.2/\EOk e
theorem EnR.keeps:Keeps EnR:=fun D D' vs x hD ⟨k,v,h1,h2,h3,h4⟩=>⟨k,v,h1,h2.mono hD,h3.mono hD,h4⟩
abbrev EnD (D:Sto) (v:Value) (es:Ens):Prop:=DR 2 EnR D v es
def pgCells (p:Pg) (e:Value):List Value:= [.int .i64 p.id, .int .i64 p.lsn, .int .i64 p.level, .int .i64 p.next,e]
def PgR (D:Sto) (vs:List Value) (p:Pg):Prop:= ∃e,vs=pgCells p e/\EnD D e p.ents/\POk p
theorem PgR.keeps:Keeps PgR:=fun D D' vs x hD ⟨e,h1,h2,h3⟩=>⟨e,h1,h2.mono EnR.keeps hD,h3⟩
def PgV (D:Sto) (v:Value) (p:Pg):Prop:= ∃e,v= .agg (pgCells p e).toArray/\EnD D e p.ents/\POk p
theorem PgV.mono {D D':Sto} {v:Value} {p:Pg} (h:PgV D v p) (hD:Le D D'):PgV D' v p:=by obtain ⟨e,h1,h2,h3⟩:=h;exact ⟨e,h1,h2.mono EnR.keeps hD,h3⟩
def rcCells (r:Rc) (k v:Value):List Value:= [.int .i64 r.lsn, .int .i64 r.back, .int .i64 r.epoch, .int .i64 r.group, .int .i64 r.page, .int .i64 r.kind, .int .i64 r.slot,k,v, .bool r.last]
def RcR (D:Sto) (vs:List Value) (r:Rc):Prop:= ∃k v,vs=rcCells r k v/\RB D k r.key/\RB D v r.val/\ROk r
theorem RcR.keeps:Keeps RcR:=fun D D' vs x hD ⟨k,v,h1,h2,h3,h4⟩=>⟨k,v,h1,h2.mono hD,h3.mono hD,h4⟩
def MapD (D:Sto) (m:List (Int×Value)) (f:Int->Option Pg):Prop:= ∀k,match f k with
 |none=>getM m k=none
 |some p=> ∃v,getM m k=some v/\PgV D v p
theorem MapD.mono {D D':Sto} {m:List (Int×Value)} {f:Int->Option Pg} (h:MapD D m f) (hD:Le D D'):MapD D' m f:=fun k=>by
 have:=h k;cases hf:f k with
 |none=>rw [hf] at this;exact this
 |some p=>rw [hf] at this;obtain ⟨v,h1,h2⟩:=this;exact ⟨v,h1,h2.mono hD⟩
theorem MapD.none {D:Sto} {m:List (Int×Value)} {f:Int->Option Pg} (h:MapD D m f) {k:Int} (hf:f k= .none):getM m k= .none:=by have:=h k;rw [hf] at this;exact this
theorem MapD.some {D:Sto} {m:List (Int×Value)} {f:Int->Option Pg} (h:MapD D m f) {k:Int} {p:Pg} (hf:f k= .some p): ∃e,getM m k= .some (.agg (pgCells p e).toArray)/\EnD D e p.ents/\POk p:=by have:=h k;rw [hf] at this;obtain ⟨v,h1,e,rfl,h2,h3⟩:=this;exact ⟨e,h1,h2,h3⟩
theorem MapD.empty (D:Sto):MapD D [] (fun _=> .none):=fun k=>rfl
theorem MapD.put {D:Sto} {m:List (Int×Value)} {f:Int->Option Pg} (h:MapD D m f) {k:Int} {v:Value} {p:Pg} (hp:PgV D v p):MapD D (putM m k v) (fun j=>if j=k then .some p else f j):=fun j=>by
 simp only [getM_put];by_cases hj:j=k
 ·subst hj;simp only [if_true];exact ⟨v,rfl,hp⟩
 rw [if_neg hj,if_neg (fun e=>hj e.symm)];exact h j
def PoolS (D:Sto) (vp:Value) (P:Pl) (s:Seg):Prop:= ∃bp bl bw es clk m es' clk' mw,vp= .pointer (some ⟨bp,0,none⟩)/\s= [(bp, .cells #[.map (some bl), .map (some bw)] 122 (0,0)),(bl, .map es clk),(bw, .map es' clk')]/\
 IntMap es clk m/\MapD D m P.f/\m.length=P.n/\IntMap es' clk' mw/\mw.map (·.1)=P.wants
theorem PoolS.mono {D D':Sto} {vp:Value} {P:Pl} {s:Seg} (h:PoolS D vp P s) (hD:Le D D'):PoolS D' vp P s:=by obtain ⟨bp,bl,bw,es,clk,m,es',clk',mw,h1,h2,h3,h4,h5,h6,h7⟩:=h;exact ⟨bp,bl,bw,es,clk,m,es',clk',mw,h1,h2,h3,h4.mono hD,h5,h6,h7⟩
def BatchS (D:Sto) (vb vp:Value) (b:Bt) (s:Seg):Prop:= ∃bb bo es clk m vr sr,vb= .pointer (some ⟨bb,0,none⟩)/\s=(bb, .cells #[vp, .map (some bo),vr] 130 (0,0))::(bo, .map es clk)::sr/\
 IntMap es clk m/\MapD D m b.own/\OR 10 RcR D 124 vr b.recs sr
theorem BatchS.mono {D D':Sto} {vb vp:Value} {b:Bt} {s:Seg} (h:BatchS D vb vp b s) (hD:Le D D'):BatchS D' vb vp b s:=by obtain ⟨bb,bo,es,clk,m,vr,sr,h1,h2,h3,h4,h5⟩:=h;exact ⟨bb,bo,es,clk,m,vr,sr,h1,h2,h3,h4.mono hD,h5.mono RcR.keeps hD⟩
def TreeS (D:Sto) (vb vp:Value) (b:Bt) (P:Pl) (s:Seg):Prop:= ∃sb sp,s=sb++sp/\BatchS D vb vp b sb/\PoolS D vp P sp/\b.pool=P.f
theorem TreeS.mono {D D':Sto} {vb vp:Value} {b:Bt} {P:Pl} {s:Seg} (h:TreeS D vb vp b P s) (hD:Le D D'):TreeS D' vb vp b P s:=by obtain ⟨sb,sp,h1,h2,h3,h4⟩:=h;exact ⟨sb,sp,h1,h2.mono hD,h3.mono hD,h4⟩
def Ext (b b':Bt):Prop:=b'.pool=b.pool/\ ∃l,b'.recs=b.recs++l
theorem Ext.refl (b:Bt):Ext b b:=⟨rfl, [],by simp⟩
theorem Ext.trans {a b c:Bt} (h:Ext a b) (k:Ext b c):Ext a c:=by obtain ⟨h1,l,h2⟩:=h;obtain ⟨k1,m,k2⟩:=k;exact ⟨k1.trans h1,l++m,by rw [k2,h2,List.append_assoc]⟩
theorem cmpL_lt: ∀a b:List Nat,cmpL a b<0↔ltB a b=true
 | [], []=>by simp [cmpL,ltB]
 | [],_::_=>by simp [cmpL,ltB]
 |_::_, []=>by simp [cmpL,ltB]
 |x::xs,y::ys=>by
  simp only [cmpL,ltB];by_cases h:x=y
  ·rw [if_pos h,if_pos h];exact cmpL_lt xs ys
  rw [if_neg h,if_neg h];by_cases h2:x<y
  ·simp [h2]
  simp [h2]
theorem cmpL_eq: ∀a b:List Nat,cmpL a b=0↔a=b
 | [], []=>by simp [cmpL]
 | [],_::_=>by simp [cmpL]
 |_::_, []=>by simp [cmpL]
 |x::xs,y::ys=>by
  simp only [cmpL];by_cases h:x=y
  ·rw [if_pos h,cmpL_eq xs ys,h];simp
  rw [if_neg h];by_cases h2:x<y
  ·simp [h2,h]
  simp [h2,h]
def RcV (D:Sto) (v:Value) (r:Rc):Prop:= ∃k u,v= .agg (rcCells r k u).toArray/\RB D k r.key/\RB D u r.val/\ROk r
structure TSents (D:Sto) (ad:Nat->Addr):Prop where
 g103:GlobIs D 4 (errV ad 103)
 g104:GlobIs D 5 (errV ad 104)
 g105:GlobIs D 0 (errV ad 105)
 g106:GlobIs D 7 (errV ad 106)
 g109:GlobIs D 1 (errV ad 109)
 g113:GlobIs D 8 (errV ad 113)
theorem TSents.mono {D D':Sto} {ad:Nat->Addr} (h:TSents D ad) (hD:Le D D'):TSents D' ad:=⟨h.g103.mono hD,h.g104.mono hD,h.g105.mono hD,h.g106.mono hD,h.g109.mono hD,h.g113.mono hD⟩
theorem Sents.t {D:Sto} {ad:Nat->Addr} (h:Sents D ad):TSents D ad:=⟨h.g103,h.g104,h.g105,h.g106,h.g109,h.g113⟩
theorem Compare_spec {w0 w:World} {D:Sto} {ss:List Seg} (I:Inv w0 D ss w) {va vb:Value} {ka kb:List Nat} (ha:RB D va ka) (hb:RB D vb kb) :
  Calls Tryz.prog 113 #[va,vb] w (Ret fun r w'=>r= .int .i64 (cmpL ka kb)/\Inv w0 D ss w'):=by
 obtain ⟨A1,c2,rfl,_⟩:=ha.slice;obtain ⟨A3,c4,rfl,_⟩:=hb.slice;refine enter (N:=8) Tryz.func113 rfl rfl rfl ?_;intro a Z;refine go 6 Z I ?_;clear Z a;intro a Z;refine zl Z (r_extern (fn:=Tryz.f167) (e:=Extern.BytealgCompare.compare) rfl Tryz.func167 rfl rfl (by kernel_rfl) (by kernel_rfl) (compare_run I ha hb)) ?_;clear Z a;intro a Z;refine go 3 Z I ?_;clear Z a;intro a Z;refine rt1 Z ?_;exact ⟨rfl,I⟩
theorem right_spec {w0 w:World} {D:Sto} {ss:List Seg} (I:Inv w0 D ss w) {vk:Value} {key:List Nat} (hk:RB D vk key) :
  Calls Tryz.prog 69 #[vk] w (Ret fun r w'=>r= .bool (rightK key)/\Inv w0 D ss w'):=by
 obtain ⟨A1,c2,rfl,_⟩:=hk.slice;refine enter (N:=11) Tryz.func69 rfl rfl rfl ?_;intro a Z;refine go 5 Z I ?_;clear Z a;intro a Z;refine zs Z (p_len rfl rfl Tryz.underlying33) ?_;clear Z a;intro a Z;refine cmx Z ?_ ?_
 ·intro hc_1_2;replace hc_1_2:=geq_t hc_1_2;clear Z a;intro a Z;refine go 2 Z I ?_;clear Z a;intro a Z;refine gs Z (p_len rfl rfl Tryz.underlying33) ?_;clear Z a;intro a Z;refine cgx Z ?_ ?_
  ·intro hc_1_6;replace hc_1_6:=leq_t hc_1_6;clear Z a;intro a Z;refine go 4 Z I ?_;clear Z a;intro a Z;refine rt1 Z ?_;exact ⟨by simp [rightK];omega,I⟩
  intro hc_1_6;replace hc_1_6:=leq_f hc_1_6;clear Z a;intro a Z;refine go 4 Z I ?_;clear Z a;intro a Z;refine rt1 Z ?_;exact ⟨by simp [rightK];omega,I⟩
 intro hc_1_2;replace hc_1_2:=geq_f hc_1_2;clear Z a;intro a Z;refine go 8 Z I ?_;clear Z a;intro a Z;refine rt1 Z ?_;exact ⟨by simp [rightK];omega,I⟩
theorem full_spec {w0 w:World} {D:Sto} {ss:List Seg} (I:Inv w0 D ss w) {vp:Value} {p:Pg} (hp:PgV D vp p) :
  Calls Tryz.prog 123 #[vp] w (Ret fun r w'=>r= .bool (decide (8<=p.ents.length))/\Inv w0 D ss w'):=by
 obtain ⟨e1,rfl,he2,ho3⟩:=hp;have hlen_p:=ho3.len;obtain ⟨A4,c5,rfl,_⟩:=he2.slice;refine enter (N:=7) Tryz.func123 rfl rfl rfl ?_;intro a Z;refine wsr ?_;refine l_step rfl (f_box (cs:= #[_,_,_,_,_]) Z I rfl rfl rfl rfl rfl ?_);clear I Z a w;intro a b6 w Z I;refine go 5 Z I ?_;clear Z a;intro a Z;refine zs Z (p_len rfl rfl Tryz.underlying57) ?_;clear Z a;intro a Z;refine cmx Z ?_ ?_
 ·intro hc_1_3;replace hc_1_3:=geq_t hc_1_3;clear Z a;intro a Z;refine go 3 Z I ?_;clear Z a;intro a Z;refine rt1 Z ?_;exact ⟨by simp;omega,I.drop⟩
 intro hc_1_3;replace hc_1_3:=geq_f hc_1_3;clear Z a;intro a Z;refine go 3 Z I ?_;clear Z a;intro a Z;refine rt1 Z ?_;exact ⟨by simp;omega,I.drop⟩
theorem newPg_ok (id:Int):POk (newPg id):=⟨by simp [newPg],by simp [newPg],by simp [newPg],by simp [newPg],by simp [newPg],by simp [newPg],by simp [newPg],by simp [newPg]⟩
theorem PNew_spec {w0 w:World} {D:Sto} {ss:List Seg} (I:Inv w0 D ss w) (id:Int) :
  Calls Tryz.prog 115 #[.int .i64 id] w (Ret fun r w'=>PgV D r (newPg id)/\Inv w0 D ss w'):=by
 refine enter (N:=5) Tryz.func115 rfl rfl rfl ?_;intro a Z;refine wsr ?_;refine l_step rfl (f_alloc (cs:= #[.int .i64 0, .int .i64 0, .int .i64 0, .int .i64 0, .slice none 0 0]) Z I rfl rfl rfl zer_65 rfl ?_);clear I Z a w;intro a b1 w Z I;refine go 3 Z I ?_;clear Z a;intro a Z;refine zs Z (f_build (vs:= [(0,_),(3,_)]) (l:= [_,_,_,_,_]) rfl built_65 rfl) ?_;clear Z a;intro a Z;refine l_step rfl (f_store (l:= [_,_,_,_,_]) (ss':=_::_) 0 Z I rfl rfl rfl rfl rfl sz_65 (by simp [Value.cells,Value.oneCell',pgCells,rcCells]) rfl rfl rfl ?_);clear I w;intro w I;refine gc 2 Z ?_;refine retc1 rfl Z rfl agg_65 (I.seg 0 rfl) rfl ?_;exact ⟨⟨_,rfl,DR.nil _ _ _,newPg_ok id⟩,I.drop⟩
theorem findP_none: ∀(es:Ens) (key:Bs),(∀e∈es,ltB e.1 key=true)->findP es key=(es.length,false)
 | [],key,_=>rfl
 |e::r,key,h=>by
  have h1:=h e (by simp);have ih:=findP_none r key (fun x hx=>h x (by simp [hx]));simp [findP,h1,ih]
theorem findP_some: ∀(es:Ens) (key:Bs) (i:Nat) (e:Bs×Bs),(∀x∈es.take i,ltB x.1 key=true)->es[i]? =some e->ltB e.1 key=false->findP es key=(i,decide (e.1=key))
 | [],key,i,e,_,he,_=>by simp at he
 |x::r,key,0,e,_,he,hl=>by
  have:x=e:=by simpa using he
  subst this;simp [findP,hl]
 |x::r,key,i+1,e,h,he,hl=>by
  have h1:=h x (by simp);have ih:=findP_some r key i e (fun y hy=>h y (by simp [hy])) (by simpa using he) hl;simp [findP,h1,ih]
theorem take_all {es:Ens} {i:Nat} (h:es.length<=i) {p:(Bs×Bs)->Prop} (ha: ∀x∈es.take i,p x): ∀x∈es,p x:=by rw [List.take_of_length_le h] at ha;exact ha
theorem take_next {es:Ens} {i:Nat} {e:Bs×Bs} (he:es[i]? =some e) {p:(Bs×Bs)->Prop} (ha: ∀x∈es.take i,p x) (hp:p e): ∀x∈es.take (i+1),p x:=by
 have hi:=(List.getElem?_eq_some_iff.1 he);obtain ⟨h1,h2⟩:=hi;rw [List.take_succ_eq_append_getElem h1];intro x hx;rcases List.mem_append.1 hx with h|h
 ·exact ha x h
 have:x=e:=by rw [<-h2];simpa using h
 subst this;exact hp
theorem Find_spec {w0 w:World} {D:Sto} {ss:List Seg} (I:Inv w0 D ss w) {vp vk:Value} {p:Pg} {key:List Nat} (hp:PgV D vp p) (hk:RB D vk key) :
  Calls Tryz.prog 71 #[vp,vk] w (Ret fun r w'=>r= .tuple #[.int .i64 ((findP p.ents key).1:Nat), .bool (findP p.ents key).2]/\Inv w0 D ss w'):=by
 obtain ⟨e1,rfl,he2,ho3⟩:=hp;have hlen_p:=ho3.len;obtain ⟨A4,c5,rfl,_⟩:=he2.slice;obtain ⟨A6,c7,rfl,_⟩:=hk.slice;refine enter (N:=30) Tryz.func71 rfl rfl rfl ?_;intro a Z;refine wsr ?_;refine l_step rfl (f_box (cs:= #[_,_,_,_,_]) Z I rfl rfl rfl rfl rfl ?_);clear I Z a w;intro a b8 w Z I;refine go 7 Z I ?_;clear Z a;intro a Z;refine zs Z (p_len rfl rfl Tryz.underlying57) ?_;clear Z a;intro a Z;refine go 3 Z I ?_;clear Z a;intro a Z;refine c_loop (X:=Nat) (fun x=> [(1,_),(2,_),(10,_),(11,_),(12, .int .i64 (x:Nat))]) (fun x w=>x<=p.ents.length/\(∀y∈p.ents.take x,ltB y.1 key=true)/\Inv w0 D ([(b8, .cells (pgCells p (.slice A4 p.ents.length c5)).toArray 65 (0,0))]::ss) w) (fun x=>p.ents.length - x) 0 (Z.pick [1,2,10,11,12]) ⟨Nat.zero_le _,by simp,I⟩ ?_;clear Z I a w;rintro i a w Z ⟨hi,hall,I⟩;(try dsimp only at Z);(try dsimp only at hi);(try dsimp only at hall);(try dsimp only at I);refine wsr ?_;refine cmx Z ?_ ?_
 ·intro hlt;replace hlt:=lss_t hlt;clear Z a;intro a Z;refine go 9 Z I ?_;clear Z a;intro a Z;obtain ⟨x_9,hx_9⟩: ∃y,(p.ents)[i]? =some y:=⟨_,List.getElem?_eq_getElem (by omega)⟩;obtain ⟨b_9,o_9,cs_9,T_9,fr_9,rfl,hb_9,hat_9⟩:=he2.at_ (by intro h0;rw [h0] at hx_9;simp at hx_9);obtain ⟨vs_9,hl_9,⟨k_9,v_9,rfl,hk_9,hv_9,hok_9⟩,hex_9,hsz_9,hce_9⟩:=hat_9.extract hx_9 (by omega);obtain ⟨A10,c11,rfl,_⟩:=hk_9.slice;obtain ⟨A12,c13,rfl,_⟩:=hv_9.slice;refine zs Z (p_indexAddr (m:=o_9+i*2) rfl rfl Tryz.underlying57 sz_115 (by omega) (by omega) (by simp)) ?_;clear Z a;intro a Z;refine zl Z (r_loadA rfl agg_115 (I.data _ _ (hb_9)) hsz_9 hex_9) ?_;clear Z a;intro a Z;refine l_step rfl (f_alloc (cs:= #[.slice none 0 0, .slice none 0 0]) Z I rfl rfl rfl zer_115 rfl ?_);clear I Z a w;intro a b14 w Z I;refine za Z ?_;clear Z a;intro a Z;refine l_step rfl (f_store (l:= [_,_]) (ss':=_::_) 0 Z I rfl rfl rfl rfl rfl sz_115 (by simp [Value.cells,Value.oneCell',pgCells,rcCells]) rfl rfl rfl ?_);clear I w;intro w I;refine go 5 Z I ?_;clear Z a;intro a Z;refine l_step rfl (o_call Z rfl rfl rfl rfl ent_113 (Compare_spec I hk_9 hk) ?_);clear I Z a;rintro r w ⟨rfl,I⟩ a Z;refine go 4 Z I ?_;clear Z a;intro a Z;refine cmx Z ?_ ?_
  ·intro hge;replace hge:=geq_t hge;clear Z a;intro a Z;refine go 5 Z I ?_;clear Z a;intro a Z;refine cmx Z ?_ ?_
   ·intro heq;replace heq:=eql_t heq;clear Z a;intro a Z;refine go 9 Z I ?_;clear Z a;intro a Z;refine ret2 rfl Z rfl rfl ?_;refine ⟨?_,I.drop.drop⟩;rw [findP_some p.ents key i x_9 hall hx_9 (by cases hq:ltB x_9.1 key with|false=>rfl|true=>exact absurd ((cmpL_lt _ _).2 hq) (by omega))];simp [show x_9.1=key from (cmpL_eq _ _).1 heq]
   intro heq;replace heq:=eql_f heq;clear Z a;intro a Z;refine go 9 Z I ?_;clear Z a;intro a Z;refine ret2 rfl Z rfl rfl ?_;refine ⟨?_,I.drop.drop⟩;rw [findP_some p.ents key i x_9 hall hx_9 (by cases hq:ltB x_9.1 key with|false=>rfl|true=>exact absurd ((cmpL_lt _ _).2 hq) (by omega))];simp [show¬x_9.1=key from fun h=>heq ((cmpL_eq _ _).2 h)]
  intro hge;replace hge:=geq_f hge;clear Z a;intro a Z;refine gc 6 Z ?_;refine zs Z (p_arith (z:=((i+1:Nat):Int)) rfl rfl (add_z (by omega) (by omega) (by omega))) ?_;clear Z a;intro a Z;refine go 2 Z I ?_;clear Z a;intro a Z;exact ⟨i+1,Z.pick [1,2,10,11,12],⟨by show i+1<=_;omega,take_next hx_9 hall ((cmpL_lt _ _).1 (by omega)),I.drop⟩,by show p.ents.length - (i+1)<p.ents.length - i;omega⟩
 intro hlt;replace hlt:=lss_f hlt;clear Z a;intro a Z;refine go 11 Z I ?_;clear Z a;intro a Z;refine zs Z (p_len rfl rfl Tryz.underlying57) ?_;clear Z a;intro a Z;refine go 4 Z I ?_;clear Z a;intro a Z;refine ret2 rfl Z rfl rfl ?_;refine ⟨?_,I.drop⟩;rw [findP_none p.ents key (take_all (by omega) hall)]
end Go.Proofs.YtkknmpkcfpdllaaGreatDoor.B
