/- What functions of the program compute, each function once: steps over the model, and the plain law of it. -/
import Derived.Test.YtkknmpkcfpdllaaGreatDoorTUndo
import Derived.Test.YtkknmpkcfpdllaaGreatDoorTFacts
import Derived.Test.YtkknmpkcfpdllaaGreatDoorTWire2
namespace Go.Proofs.YtkknmpkcfpdllaaGreatDoor.B
open Go Go.Proofs
set_option linter.unusedVariables false
set_option linter.unusedSimpArgs false
set_option maxRecDepth 20000
set_option maxHeartbeats 8000000
def valL (l:List Nat):Nat:=l.foldl (fun s x=>s*256+x) 0
theorem valL_acc: ∀(l:List Nat) (s:Nat),l.foldl (fun s x=>s*256+x) s=s*256^l.length+valL l
 | [],s=>by simp [valL]
 |x::l,s=>by
  simp only [List.foldl_cons,valL,List.length_cons];rw [valL_acc l (s*256+x),valL_acc l (0*256+x)];have h:s*256^(l.length+1)=s*256*256^l.length:=by rw [Nat.pow_succ,Nat.mul_assoc,Nat.mul_comm 256]
  rw [h,Nat.add_mul,Nat.zero_mul,Nat.zero_add];omega
theorem valL_cons (x:Nat) (l:List Nat):valL (x::l)=x*256^l.length+valL l:=by have:=valL_acc l (0*256+x);simpa [valL] using this
theorem valL_lt: ∀(l:List Nat),(∀x∈l,x<256)→valL l<256^l.length
 | [],_=>by simp [valL]
 |x::l,h=>by
  rw [valL_cons,List.length_cons,Nat.pow_succ];have h1:=valL_lt l (fun y hy=>h y (by simp [hy]));have h2:=h x (by simp);have h3:x*256^l.length≤255*256^l.length:=Nat.mul_le_mul_right _ (by omega);omega
theorem ltB_val: ∀(a b:List Nat),a.length=b.length→(∀x∈a,x<256)→(∀x∈b,x<256)→(ltB a b=true↔valL a<valL b)
 | [], [],_,_,_=>by simp [ltB,valL]
 | [],_::_,h,_,_=>by simp at h
 |_::_, [],h,_,_=>by simp at h
 |x::a,y::b,h,ha,hb=>by
  have hl:a.length=b.length:=by simpa using h
  have ih:=ltB_val a b hl (fun z hz=>ha z (by simp [hz])) (fun z hz=>hb z (by simp [hz]));have h1:=valL_lt a (fun z hz=>ha z (by simp [hz]));have h2:=valL_lt b (fun z hz=>hb z (by simp [hz]));rw [valL_cons,valL_cons,←hl];rw [←hl] at h2;simp only [ltB];generalize 256^a.length=q at*;by_cases e:x=y
  ·subst e;rw [if_pos rfl,ih];omega
  rw [if_neg e,decide_eq_true_eq];constructor
  ·intro hxy;have h3:(x+1)*q≤y*q:=Nat.mul_le_mul_right _ (by omega);rw [Nat.add_mul] at h3;omega
  intro hlt;rcases Nat.lt_or_ge x y with h|h
  ·exact h
  exfalso;have h3:(y+1)*q≤x*q:=Nat.mul_le_mul_right _ (by omega);rw [Nat.add_mul] at h3;omega
theorem byteAt_nat (t i:Nat) (hi:i<8):byteAt (t:Int) i=t / 256^(7 - i) % 256:=by
 unfold byteAt;have h1:min (8*((7 - i:Nat):Int)).toNat 64=8*(7 - i):=by omega
 rw [h1,Int.fdiv_eq_ediv_of_nonneg _ (Int.pow_nonneg (by omega))];have h2:(2:Int)^(8*(7 - i))=((256^(7 - i):Nat):Int):=by rw [Int.pow_mul,Int.natCast_pow];rfl
 rw [h2];rw [←Int.natCast_ediv,show (256:Int)=((256:Nat):Int) from rfl,←Int.natCast_emod,Int.toNat_natCast]
theorem valL_key (t n:Nat) (ht:t<256^8) (hn:n<256):valL (keyL t n)=(117*256^8+t)*256+n:=by
 have hb:be8 (t:Int)= [t / 256^7 % 256,t / 256^6 % 256,t / 256^5 % 256,t / 256^4 % 256,t / 256^3 % 256,t / 256^2 % 256,t / 256^1 % 256,t / 256^0 % 256]:=by simp only [be8,show List.range 8= [0,1,2,3,4,5,6,7] from rfl,List.map_cons,List.map_nil];rw [byteAt_nat t 0 (by omega),byteAt_nat t 1 (by omega),byteAt_nat t 2 (by omega),byteAt_nat t 3 (by omega),byteAt_nat t 4 (by omega),byteAt_nat t 5 (by omega),byteAt_nat t 6 (by omega),byteAt_nat t 7 (by omega)]
 have hn':((n:Int) % 256).toNat=n:=by omega
 simp only [keyL,hb,hn',List.cons_append,List.nil_append];simp only [valL,List.foldl_cons,List.foldl_nil];omega
theorem keyL_len (t n:Int):(keyL t n).length=10:=by simp [keyL,be8]
theorem ltB_key {t s n m:Int} (h1:1≤t∧t≤2251799813685248∧0≤n∧n<12) (h2:1≤s∧s≤2251799813685248∧0≤m∧m<12):(ltB (keyL t n) (keyL s m)=true)=(t<s∨t=s∧n<m):=by obtain ⟨t,rfl⟩:=Int.eq_ofNat_of_zero_le (show 0≤t by omega);obtain ⟨s,rfl⟩:=Int.eq_ofNat_of_zero_le (show 0≤s by omega);obtain ⟨n,rfl⟩:=Int.eq_ofNat_of_zero_le (show 0≤n by omega);obtain ⟨m,rfl⟩:=Int.eq_ofNat_of_zero_le (show 0≤m by omega);rw [eq_iff_iff,ltB_val _ _ (by rw [keyL_len,keyL_len]) (keyL_lt _ _) (keyL_lt _ _),valL_key t n (by omega) (by omega),valL_key s m (by omega) (by omega)];omega
theorem key_eq {t s n m:Int} (h1:1≤t∧t≤2251799813685248∧0≤n∧n<12) (h2:1≤s∧s≤2251799813685248∧0≤m∧m<12):(keyL t n=keyL s m)=(t=s∧n=m):=by
 obtain ⟨t,rfl⟩:=Int.eq_ofNat_of_zero_le (show 0≤t by omega);obtain ⟨s,rfl⟩:=Int.eq_ofNat_of_zero_le (show 0≤s by omega);obtain ⟨n,rfl⟩:=Int.eq_ofNat_of_zero_le (show 0≤n by omega);obtain ⟨m,rfl⟩:=Int.eq_ofNat_of_zero_le (show 0≤m by omega);rw [eq_iff_iff];constructor
 ·intro h;have:=congrArg valL h;rw [valL_key t n (by omega) (by omega),valL_key s m (by omega) (by omega)] at this;omega
 rintro ⟨h3,h4⟩;rw [h3,h4]
theorem ltB_user (key:List Nat) (t n:Int):ltB (107::key) (keyL t n)=true:=by simp [keyL,ltB]
theorem first23_spec {w0 w:World} {D:Sto} {ss:List Seg} (hI:Inv w0 D ss w) {ad:Nat→Addr} (g105:GlobIs D 0 (errV ad 105)) :
  Calls Tryz.prog 12 #[] w (Ret fun r w'=>r= .bool true∧ ∃D',Le D D'∧Inv w0 D' ss w'):=by
 refine enter (N:=14) Tryz.func12 rfl rfl rfl ?_;intro a hE;refine go 4 hE hI ?_;clear hE a;intro a hE;refine l_step rfl (o_call hE rfl rfl rfl rfl ent_19 (Key_spec hI g105 1 0) ?_);clear hI hE a;rintro r w h a hE;rcases h with ⟨v3,D1,hk5,rfl,hD2,hI,hv4⟩|⟨hk5,rfl,hI⟩
 ·obtain ⟨A6,c7,rfl,_⟩:=hv4.slice;refine go 11 hE hI ?_;clear hE a;intro a hE;refine gs hE (p_len rfl rfl Tryz.underlying33) ?_;clear hE a;intro a hE;refine gs hE (p_cmp rfl rfl (eql_y (by rw [keyL_len];rfl))) ?_;clear hE a;intro a hE;refine go 4 hE hI ?_;clear hE a;intro a hE;refine ret1 rfl hE rfl ?_;exact ⟨rfl,_,hD2,hI⟩
 refine go 17 hE hI ?_;clear hE a;intro a hE;refine ret1 rfl hE rfl ?_;omega
open Go
structure Ent where
 tx:Int
 n:Int
 key:List Nat
 had:Bool
 value:List Nat
def Ent.Ok (e:Ent):Prop:=(1≤e.tx∧e.tx≤2251799813685248∧0≤e.n∧e.n<12)∧(1≤e.key.length∧e.key.length≤20)∧e.value.length≤24∧(e.had=true∨e.value.length=0)
def hadZ (b:Bool):Int:=if b then 1 else 0
def Ent.enc (e:Ent):List Nat:=putZ (e.key.length:Nat)++e.key++putZ (hadZ e.had)++putZ (e.value.length:Nat)++e.value
theorem enc_lt {e:Ent} (hk: ∀x∈e.key,x<256) (hv: ∀x∈e.value,x<256): ∀x∈e.enc,x<256:=by
 intro x hx;simp only [Ent.enc,List.mem_append] at hx;rcases hx with (((h|h)|h)|h)|h
 ·exact putZ_lt _ x h
 ·exact hk x h
 ·exact putZ_lt _ x h
 ·exact putZ_lt _ x h
 exact hv x h
theorem putZ_small {n:Int} (h0:0≤n) (h1:n<64):putZ n= [(2*n).toNat]:=by unfold putZ zig;rw [if_pos h0,putN,if_pos (by omega)]
theorem enc_len {e:Ent} (h:e.Ok):e.enc.length≤60:=by
 obtain ⟨_,⟨h1,h2⟩,h3,_⟩:=h;have e1:(putZ (e.key.length:Nat)).length=1:=by rw [putZ_small (by omega) (by omega)];rfl
 have e2:(putZ (hadZ e.had)).length=1:=by rw [putZ_small (by unfold hadZ;split<;>omega) (by unfold hadZ;split<;>omega)];rfl
 have e3:(putZ (e.value.length:Nat)).length=1:=by rw [putZ_small (by omega) (by omega)];rfl
 simp only [Ent.enc,List.length_append,e1,e2,e3];omega
def saidL (k:List Nat):Option (Int×Int):=
 if k.length=10∧k.getD 0 0=117 then
  if 1≤valL ((k.drop 1).take 8)∧valL ((k.drop 1).take 8)≤2251799813685248∧k.getD 9 0<12 then some ((valL ((k.drop 1).take 8):Nat),(k.getD 9 0:Nat)) else none
 else none
theorem be8_len (t:Int):(be8 t).length=8:=by simp [be8]
theorem valL_snoc (l:List Nat) (x:Nat):valL (l++ [x])=valL l*256+x:=by simp [valL]
theorem said_key {t n:Int} (h:1≤t∧t≤2251799813685248∧0≤n∧n<12):saidL (keyL t n)=some (t,n):=by
 obtain ⟨h1,h2,h3,h4⟩:=h;obtain ⟨t',rfl⟩: ∃t':Nat,t=t':=⟨t.toNat,by omega⟩;obtain ⟨n',rfl⟩: ∃n':Nat,n=n':=⟨n.toNat,by omega⟩;have hk:=valL_key t' n' (by omega) (by omega);have e1:keyL t' n'=117::(be8 t'++ [n']):=by simp only [keyL,List.cons_append];congr 3;omega
 have e2:((keyL t' n').drop 1).take 8=be8 t':=by rw [e1];simp only [List.drop_succ_cons,List.drop_zero];rw [List.take_left' (be8_len _)]
 have e3:(keyL t' n').getD 9 0=n':=by rw [e1,List.getD_eq_getElem?_getD,List.getElem?_cons_succ,List.getElem?_append_right (by rw [be8_len];omega),be8_len];rfl
 have e4:valL (be8 t')=t':=by rw [e1,valL_cons,valL_snoc] at hk;simp only [List.length_append,be8_len,List.length_cons,List.length_nil] at hk;omega
 unfold saidL;rw [if_pos ⟨keyL_len _ _,by rw [e1];rfl⟩,e2,e3,e4,if_pos (by omega)]
theorem said_ok {k:List Nat} {t n:Int} (h:saidL k=some (t,n)):1≤t∧t≤2251799813685248∧0≤n∧n<12:=by
 unfold saidL at h;split at h
 ·split at h
  ·injection h with h;injection h with h1 h2;omega
  cases h
 cases h
def Rd.rem (r:Rd):List Nat:=r.bs.drop r.pos
theorem rem_len (r:Rd):r.rem.length=r.bs.length - r.pos:=by simp [Rd.rem]
theorem num_put {r:Rd} {m low high:Int} {rest:List Nat} (he:r.err= .none) (hr:r.rem=putZ m++rest) (h0:low≤m) (h1:m≤high) (h2: -9223372036854775808≤m) (h3:m≤9223372036854775807) :
  r.num low high=(m,{r with pos:=r.pos+(putZ m).length}):=by
 unfold Rd.num;rw [if_neg (by rw [he];simp)];have hg:=getN_put (zig m) 0 0 rest (by have:=zig_lt h2 h3;simp;omega) (by omega) (by omega);have hr':r.bs.drop r.pos=putN (zig m)++rest:=hr;rw [hr',hg];simp only [Nat.mul_zero,Nat.pow_zero,Nat.mul_one,Nat.zero_add,unzig_zig];rw [if_neg (by omega)];rfl
theorem rem_step {r:Rd} {xs rest:List Nat} (hr:r.rem=xs++rest):({r with pos:=r.pos+xs.length}:Rd).rem=rest:=by simp only [Rd.rem] at hr ⊢;rw [←List.drop_drop,hr,List.drop_left]
theorem bytes_put {r:Rd} {most:Int} {xs rest:List Nat} (he:r.err= .none) (hr:r.rem=putZ (xs.length:Nat)++(xs++rest)) (h1:(xs.length:Int)≤most) (h3:xs.length≤1000) :
  r.bytes most=(xs,{r with pos:=r.pos+(putZ (xs.length:Nat)++xs).length}):=by
 have hn:=num_put (low:=0) (high:=most) he hr (by omega) h1 (by omega) (by omega);have hrem:=rem_step hr;unfold Rd.bytes;simp only [hn];rw [if_neg (by rw [he];simp)];have hl:({r with pos:=r.pos+(putZ (xs.length:Nat)).length}:Rd).rem.length=(xs++rest).length:=by rw [hrem]
 rw [rem_len] at hl;simp only [List.length_append] at hl;rw [if_neg (by omega)];simp only [Rd.rem] at hrem;simp only [Int.toNat_natCast,hrem,List.take_left,List.length_append,Nat.add_assoc]
def readP (k v:List Nat):Flt ⊕ Ent:=match saidL k with
 |none=> .inl (.bare 103)
 |some (t,n)=>
  let x1:=(⟨v,0, .none⟩:Rd).bytes 20;let x2:=x1.2.num 0 1;let x3:=x2.2.bytes 24
  if x3.2.err≠ .none then .inl x3.2.err else
  if 0<x3.2.bs.length - x3.2.pos then .inl (.at_ 103 x3.2.pos) else
  if 1≤x1.1.length∧(x2.1=1∨x3.1.length=0) then .inr ⟨t,n,x1.1,decide (x2.1=1),x3.1⟩ else .inl (.bare 105)
theorem hadZ_one (b:Bool):decide (hadZ b=1)=b:=by cases b<;>rfl
theorem read_enc {e:Ent} (h:e.Ok) (rest:List Nat):readP (keyL e.tx e.n) (e.enc++rest)=if 0<rest.length then .inl (.at_ 103 e.enc.length) else .inr e:=by
 obtain ⟨h1,⟨h2,h3⟩,h4,h5⟩:=h;unfold readP;rw [said_key h1];simp only;have r0:(⟨e.enc++rest,0, .none⟩:Rd).rem=putZ (e.key.length:Nat)++(e.key++(putZ (hadZ e.had)++(putZ (e.value.length:Nat)++(e.value++rest)))):=by simp [Rd.rem,Ent.enc]
 have b1:=bytes_put (most:=20) rfl r0 (by omega) (by omega);rw [b1];have r1:=rem_step (xs:=putZ (e.key.length:Nat)++e.key) (rest:=putZ (hadZ e.had)++(putZ (e.value.length:Nat)++(e.value++rest))) (by rw [r0];simp);dsimp only at r1 ⊢;have hz:0≤hadZ e.had∧hadZ e.had≤1:=by unfold hadZ;split<;>omega
 have b2:=num_put (low:=0) (high:=1) rfl r1 hz.1 hz.2 (by omega) (by omega);dsimp only at b2 ⊢;rw [b2];have r2:=rem_step r1;dsimp only at r2 ⊢;have b3:=bytes_put (most:=24) rfl r2 (by omega) (by omega);dsimp only at b3 ⊢;rw [b3];dsimp only;have hlen:0+(putZ (e.key.length:Nat)++e.key).length+(putZ (hadZ e.had)).length+(putZ (e.value.length:Nat)++e.value).length=e.enc.length:=by simp only [Ent.enc,List.length_append];omega
 simp only [ne_eq,not_true_eq_false,if_false,hlen];have hc:(e.enc++rest).length - e.enc.length=rest.length:=by simp
 rw [hc];split
 ·rfl
 rw [if_pos ⟨h2,by rcases h5 with h|h;left;rw [h];rfl;right;exact h⟩,hadZ_one]
end Go.Proofs.YtkknmpkcfpdllaaGreatDoor.B
