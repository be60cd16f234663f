/- What functions of the program compute, each function once: steps over the model, and the plain law of it. -/
import Derived.Test.YtikllmoofngjnaaGreatDoorTRow
import Derived.Test.YtikllmoofngjnaaGreatDoorTDisk
import Derived.Test.YtikllmoofngjnaaGreatDoorTFacts
namespace Go.Proofs.YtikllmoofngjnaaGreatDoor.B
open Go
set_option linter.unusedVariables false
set_option linter.unusedSimpArgs false
section
variable {α:Type} {size:Nat} {R:Sto->List Value->α->Prop} {P:Program} {ops:Array Oper} {Q:Exit->Act->World->Prop} {a:Act} {w0 w w':World} {D:Sto} {ss:List Seg} {rest:List Oper} {o:Oper} {N:Nat} {env:Env} {K:Act->World->Prop}
theorem At.cells {cs:Array Value} {off:Nat} {xs:List α} (h:At size R D cs off xs) (h1: ∀vs x,R D vs x-> ∀u∈vs,u.oneCell'=true) (hz:0<size) :
    ∃news:List Value,news.length=xs.length*size/\(∀j,j<xs.length*size->news[j]? =cs[off+j]?)/\ ∀u∈news,u.oneCell'=true:=by
  have hone: ∀p,p<xs.length*size-> ∃u,cs[off+p]? =some u/\u.oneCell'=true:=fun p hp=>by
    have hq:p / size<xs.length:=Nat.div_lt_of_lt_mul (by rw [Nat.mul_comm];exact hp);obtain ⟨vs,hl,hr,hc⟩:=h (p / size) xs[p / size] (List.getElem?_eq_getElem hq);have hm:p % size<vs.length:=by rw [hl];exact Nat.mod_lt _ hz
    have h2:=hc (p % size) vs[p % size] (List.getElem?_eq_getElem hm);have h3:p / size*size+p % size=p:=by rw [Nat.mul_comm];exact Nat.div_add_mod p size
    exact ⟨_,by rw [Nat.add_assoc,h3] at h2;exact h2,h1 _ _ hr _ (List.getElem_mem hm)⟩
  have hget: ∀j,j<xs.length*size->((cs.toList.drop off).take (xs.length*size))[j]? =cs[off+j]? :=fun j hj=>by
    rw [List.getElem?_take_of_lt hj,List.getElem?_drop,Array.getElem?_toList]
  have hlen:((cs.toList.drop off).take (xs.length*size)).length=xs.length*size:=by
    rcases Nat.eq_zero_or_pos (xs.length*size) with h0|h0
    ·rw [h0];simp
    ·obtain ⟨u,hu,_⟩:=hone (xs.length*size - 1) (by omega);have h1:=(Array.getElem?_eq_some_iff.1 hu).1;have h2:cs.toList.length=cs.size:=Array.length_toList;simp;omega
  refine ⟨_,hlen,hget,fun u hu=> ?_⟩;obtain ⟨j,hj,rfl⟩:=List.getElem_of_mem hu;have h1:((cs.toList.drop off).take (xs.length*size))[j]? =some _:=List.getElem?_eq_getElem hj;rw [hget j (by omega)] at h1;obtain ⟨u,hu,h2⟩:=hone j (by omega);rw [hu] at h1;injection h1 with h1
  rw [<-h1];exact h2
theorem At.append {cs:Array Value} {off:Nat} {xs ys':List α} {ys news:List Value} (hx: ∀cs:List Value,At size R D (ys++cs).toArray 0 xs) (hl:ys.length=xs.length*size)
    (hy:At size R D cs off ys') (hn: ∀j,j<ys'.length*size->news[j]? =cs[off+j]?) (hnl:news.length=ys'.length*size) (tail:List Value):At size R D ((ys++news)++tail).toArray 0 (xs++ys'):=fun i x hix=>by
  by_cases hi:i<xs.length
  ·rw [List.getElem?_append_left hi] at hix;have h2:=hx (news++tail) i x hix;rw [<-List.append_assoc] at h2;exact h2
  ·rw [List.getElem?_append_right (by omega)] at hix;obtain ⟨vs,h1,h2,h3⟩:=hy _ x hix;refine ⟨vs,h1,h2,fun j u hj=> ?_⟩;have hj':=(List.getElem?_eq_some_iff.1 hj).1;have hi':=(List.getElem?_eq_some_iff.1 hix).1;have hm:=mul_le_of_lt (size:=size) hi';have hs:(i - xs.length)*size=i*size - xs.length*size:=Nat.sub_mul _ _ _;have hle:xs.length*size<=i*size:=Nat.mul_le_mul_right _ (by omega);have h4:=h3 j u hj;rw [Nat.add_assoc,<-hn _ (by omega)] at h4;show ((ys++news)++tail).toArray[0+i*size+j]? =some u;rw [List.getElem?_toArray,List.append_assoc,List.getElem?_append_right (by omega),List.getElem?_append_left (by omega)];rw [<-h4];congr 1;omega
theorem o_appendDR {x y:Operand} {t e bytes d:Nat} {z v vy:Value} {xs ys:List α} {s:Seg} (i:Nat) (Z:EnvOk N env a) (I:Inv w0 D ss w) (hd:o.dst=some d) (hN:Nat.blt d N=true)
    (ho:o.op= .call {callee:= .builtin .append,args:= #[x,y],argTypes:= #[t,t]}) (hx:ev env x=some v) (hy:ev env y=some vy) (ht:P.underlying t=some (.slice e))
    (hinfo:(P.info? e).map (fun i=>(i.zero,i.size,i.bytes))=some (some z,size,bytes)) (hz:z.cells.size=size) (hsz:Nat.blt 0 size=true) (hi:ss[i]? =some s) (hO:OR size R D e v xs s) (hY:DR size R D vy ys)
    (h1: ∀vs x,R D vs x-> ∀u∈vs,u.oneCell'=true) (hb:(xs.length+ys.length)*bytes<=140737488355328) (hm:xs.length+ys.length<=9223372036854775807)
    (k: ∀v' s' w',OR size R D e v' (xs++ys) s'->Inv w0 D (ss.set i s') w'-> ∀a',EnvOk N ((d,v')::env) a'->K a' w'):o.wp P a w K Q:=by
  obtain ⟨zs,hrow,hat⟩:=hO.row;have hsz':=Nat.le_of_ble_eq_true hsz;obtain ⟨A,c,rfl,hc1,hc2,hc3⟩:=hY;cases A with
  |none=>
    have h0:=hc2 rfl;have hys:ys= []:=List.length_eq_zero_iff.1 (by omega);subst hys;subst h0;refine o_appendNil Z I hd hN ho hx hy ht (by obtain ⟨inf,hi0,hzz⟩:=Option.map_eq_some_iff.1 hinfo;simp only [Prod.mk.injEq] at hzz;rw [hi0,Option.map_some,hzz.2.1]) hrow (I.segs i hi) ?_;intro a' hE';have hset:ss.set i s=ss:=List.ext_getElem? fun j=>by
      rw [List.getElem?_set];split
      ·rename_i h;subst h;have:=(List.getElem?_eq_some_iff.1 hi).1;rw [if_pos this,hi]
      ·rfl
    exact k v s w (by rw [List.append_nil];exact hO) (by rw [hset];exact I) a' hE'
  |some ad=>
    have key: ∃news:List Value,news.length=ys.length*size/\(∀j u,news[j]? =some u->w.cell? (ad.add j)=some u)/\(∀u∈news,u.oneCell'=true)/\ ∀tail:List Value,At size R D ((zs++news)++tail).toArray 0 (xs++ys):=by
      by_cases hys:ys= []
      ·subst hys;exact ⟨[],by simp,by simp,by simp,fun tail=>by simpa using hat tail⟩
      ·obtain ⟨b,off,cs,T,fr,h2,h3,h4⟩:=hc3 hys;injection h2 with h2;subst h2
       obtain ⟨news,hn1,hn2,hn3⟩:=h4.cells h1 hsz';refine ⟨news,hn1,fun j u hj=> ?_,hn3,fun tail=>At.append hat hrow.len h4 hn2 hn1 tail⟩;have hj':=(List.getElem?_eq_some_iff.1 hj).1;rw [hn2 j (by omega)] at hj;have h5:=I.data _ _ h3;show w.cell? ((⟨b,off,none⟩:Addr).add j)=some u;rw [addr_add,cell_of h5];exact hj
    obtain ⟨news,hn1,hn2,hn3,hn4⟩:=key;refine o_append (n:=xs.length) (news:=news) i Z I hd hN ho hx hy ht hinfo hz hsz hi hrow hn1 hn2 hn3 hb hm ?_;intro v' s' w' hR' hI' a' hE';exact k v' s' w' (OR.ofRow hR' (by simp) hn4) hI' a' hE'
theorem OR.make {T b c:Nat} {z:Value} (hc:c<=maxLen):OR size R D T (.slice (Option.some ⟨b,0,Option.none⟩) 0 c) ([]:List α) [(b, .cells (madeCells z.cells (c*size)) T (0,0))]:=
  OR.ofAt (n:=0) rfl (Nat.zero_le _) hc (size_madeCells' _ _) (fun i x (hx:([]:List α)[i]? =Option.some x)=>by simp at hx)
theorem Inv.shutOR {T:Nat} {v:Value} {xs:List α} {s:Seg} (i:Nat) (I:Inv w0 D ss w) (hi:ss[i]? =some s) (hR:Keeps R) (hO:OR size R D T v xs s): ∃D',Le D D'/\Inv w0 D' (ss.eraseIdx i) w/\DR size R D' v xs:=
  ⟨_,(I.shut_at i hi).2,(I.shut_at i hi).1,hO.shut hR (I.shut_at i hi).2⟩
end
open Go Go.Proofs
set_option maxRecDepth 20000
set_option maxHeartbeats 8000000
def le4 (n:Nat):List Nat:= [n % 256,n / 256 % 256,n / 65536 % 256,n / 16777216 % 256]
theorem le4_lt (n:Nat): ∀x∈le4 n,x<256:=by intro x hx;simp only [le4,List.mem_cons,List.not_mem_nil,or_false] at hx;omega
theorem shr_n {n k:Nat} (hk:k<64):((n:Nat):Int).fdiv (2^min ((k:Nat):Int).toNat IntKind.i64.bits)=((n / 2^k:Nat):Int):=by
 have h:min ((k:Nat):Int).toNat IntKind.i64.bits=k:=by show min (((k:Nat):Int).toNat) 64=k;rw [Int.toNat_natCast];omega
 rw [h];have:((2:Int)^k)=((2^k:Nat):Int):=by push_cast;rfl
 rw [this,Int.fdiv_eq_ediv_of_nonneg _ (Int.natCast_nonneg _)];exact (Int.natCast_ediv n (2^k)).symm
theorem u8_mod {n:Nat}:IntKind.u8.wrap ((n:Nat):Int)=((n % 256:Nat):Int):=by rw [IntKind.wrap_u8];omega
def SpR (D:Sto) (vs:List Value) (s:Sp):Prop:=vs= [.int .i64 s.epoch, .int .i64 s.from_, .int .i64 s.to_]
theorem SpR.keeps:Keeps SpR:=fun _ _ _ _ _ h=>h
theorem SpR.one {D:Sto} {vs:List Value} {x:Sp} (h:SpR D vs x): ∀u∈vs,u.oneCell'=true:=by unfold SpR at h;subst h;intro u hu;simp only [List.mem_cons,List.not_mem_nil,or_false] at hu;rcases hu with rfl|rfl|rfl<;>rfl
theorem lnumber_spec {w0 w:World} {D:Sto} {ss:List Seg} {s:Seg} {v:Value} {bs:List Nat} {m:Nat} (I:Inv w0 D (s::ss) w) (hR:Row 5 1 v bs.length (bytesV bs) s) (hn:bs.length<=1000) (hm:m<4294967296) :
  Calls Tryz.prog 116 #[v, .int .i64 (m:Nat)] w (Ret fun r w'=> ∃s,Row 5 1 r (bs++le4 m).length (bytesV (bs++le4 m)) s/\Inv w0 D (s::ss) w'):=by
 obtain ⟨A0,c0,rfl,_⟩:=Row.slice hR;refine enter (N:=19) Tryz.func116 rfl rfl rfl ?_;intro a Z;refine go 6 Z I ?_;clear Z a;intro a Z;refine zs Z (p_int (z:=((m % 256:Nat):Int)) Tryz.underlying3 Tryz.underlying5 rfl (u8_mod)) ?_;clear Z a;intro a Z;refine zm Z ?_;clear Z a;intro a Z;refine zs Z (p_shr (z:=((m / 2^8:Nat):Int)) rfl rfl (by omega) (shr_n (k:=8) (by omega))) ?_;clear Z a;intro a Z;refine zs Z (p_int (z:=((m / 2^8 % 256:Nat):Int)) Tryz.underlying3 Tryz.underlying5 rfl (u8_mod)) ?_;clear Z a;intro a Z;refine zm Z ?_;clear Z a;intro a Z;refine zs Z (p_shr (z:=((m / 2^16:Nat):Int)) rfl rfl (by omega) (shr_n (k:=16) (by omega))) ?_;clear Z a;intro a Z;refine zs Z (p_int (z:=((m / 2^16 % 256:Nat):Int)) Tryz.underlying3 Tryz.underlying5 rfl (u8_mod)) ?_;clear Z a;intro a Z;refine zm Z ?_;clear Z a;intro a Z;refine zs Z (p_shr (z:=((m / 2^24:Nat):Int)) rfl rfl (by omega) (shr_n (k:=24) (by omega))) ?_;clear Z a;intro a Z;refine zs Z (p_int (z:=((m / 2^24 % 256:Nat):Int)) Tryz.underlying3 Tryz.underlying5 rfl (u8_mod)) ?_;clear Z a;intro a Z;refine l_step rfl (f_lit (vs:= [(0,_),(1,_),(2,_),(3,_)]) (l:= [_,_,_,_]) Z I rfl rfl rfl rfl Tryz.underlying40 zs_5 rfl rfl rfl ?_);clear I Z a w;intro a b1 w Z I;refine l_step rfl (o_append 1 Z I rfl rfl rfl rfl rfl Tryz.underlying40 zsb_5 rfl rfl rfl hR (by rfl) (lit_news (I.seg 0 rfl)) (by simp [Value.oneCell']) (by omega) (by omega) ?_);clear I Z a w;intro v2 s3 w hR4 I a Z;obtain ⟨A5,c6,rfl,_⟩:=hR4.slice;replace I:=I.erase 0;(try simp only [nrm,Value.cells] at I);refine go 3 Z I ?_;clear Z a;intro a Z;refine rt1 Z ?_;exact ⟨_,Row.cast hR4 (by simp [bytesV,le4]) (by simp [le4]),I⟩
theorem epoch_spec {w0 w:World} {D:Sto} {ss:List Seg} (I:Inv w0 D ss w) {n:Int} (h0:0<=n) (h1:n<=1073741824) :
  Calls Tryz.prog 120 #[.int .i64 n] w (Ret fun r w'=>r= .bool true/\Inv w0 D ss w'):=by
 refine enter (N:=9) Tryz.func120 rfl rfl rfl ?_;intro a Z;refine go 5 Z I ?_;clear Z a;intro a Z;refine zs Z (p_cmp rfl rfl (geq_y (by omega))) ?_;clear Z a;intro a Z;refine go 2 Z I ?_;clear Z a;intro a Z;refine gs Z (p_cmp rfl rfl (leq_y (by omega))) ?_;clear Z a;intro a Z;refine go 4 Z I ?_;clear Z a;intro a Z;refine rt1 Z ?_;exact ⟨rfl,I⟩
theorem HNew_spec {w0 w:World} {D:Sto} {ss:List Seg} (I:Inv w0 D ss w) (gr:Int) :
  Calls Tryz.prog 56 #[.int .i64 gr] w (Ret fun r w'=> ∃b,r= .pointer (some ⟨b,0,none⟩)/\Inv w0 D ([(b, .cells #[.int .i64 gr, .slice none 0 0, .slice none 0 0, .int .i64 0, .int .i64 0, .bool false] 82 (0,0))]::ss) w'):=by
 refine enter (N:=6) Tryz.func56 rfl rfl rfl ?_;intro a Z;refine go 5 Z I ?_;clear Z a;intro a Z;refine zs Z (f_build (vs:= [(0,_)]) (l:= [_,_,_,_,_,_]) rfl built_82 rfl) ?_;clear Z a;intro a Z;refine l_step rfl (f_box (cs:= #[_,_,_,_,_,_]) Z I rfl rfl rfl rfl rfl ?_);clear I Z a w;intro a b1 w Z I;refine go 3 Z I ?_;clear Z a;intro a Z;refine rt1 Z ?_;exact ⟨_,rfl,I⟩
theorem shl_i64 {c k:Nat} (hc:c*2^k<9223372036854775808) (hk:k<64):IntKind.i64.wrap (((c:Nat):Int)*2^min ((k:Nat):Int).toNat IntKind.i64.bits)=((c*2^k:Nat):Int):=by
 have h:min ((k:Nat):Int).toNat IntKind.i64.bits=k:=by show min (((k:Nat):Int).toNat) 64=k;rw [Int.toNat_natCast];omega
 rw [h];have:(((c:Nat):Int)*2^k)=((c*2^k:Nat):Int):=by push_cast;rfl
 rw [this];exact i64_nat hc
theorem or_i64 {z c k:Nat} (hz:z<2^k) (h:z+c*2^k<9223372036854775808):arithZ .or .i64 ((z:Nat):Int) ((c*2^k:Nat):Int)=some ((z+c*2^k:Nat):Int):=by
 simp only [arithZ,Option.some.injEq];have e1:(BitVec.ofInt IntKind.i64.bits ((z:Nat):Int) |||BitVec.ofInt IntKind.i64.bits ((c*2^k:Nat):Int)).toNat=z+c*2^k:=by
  rw [BitVec.toNat_or];simp only [BitVec.toNat_ofInt];have a1:(((z:Nat):Int) % ((2^IntKind.i64.bits:Nat):Int)).toNat=z:=by show (((z:Nat):Int) % ((2^64:Nat):Int)).toNat=z;omega
  have a2:(((c*2^k:Nat):Int) % ((2^IntKind.i64.bits:Nat):Int)).toNat=c*2^k:=by show (((c*2^k:Nat):Int) % ((2^64:Nat):Int)).toNat=_;omega
  rw [a1,a2,Nat.or_comm,Nat.mul_comm c,<-Nat.two_pow_add_eq_or_of_lt hz];omega
 rw [e1];exact i64_nat h
theorem le4_says {m:Nat} (h:m<4294967296):m % 256+m / 256 % 256*2^8+m / 65536 % 256*2^16+m / 16777216 % 256*2^24=m:=by omega
theorem says_spec {w0 w:World} {D:Sto} {ss:List Seg} (I:Inv w0 D ss w) {v:Value} {b0 b1 b2 b3:Nat} {rest:List Nat} (hb:RB D v (b0::b1::b2::b3::rest)) :
  Calls Tryz.prog 148 #[v] w (Ret fun r w'=>r= .int .i64 ((b0+b1*2^8+b2*2^16+b3*2^24:Nat):Int)/\Inv w0 D ss w'):=by
 obtain ⟨A1,c2,rfl,_⟩:=hb.slice;have hll:(b0::b1::b2::b3::rest).length=rest.length+4:=rfl;have h0:b0<256:=hb.lt _ (by simp);have h1:b1<256:=hb.lt _ (by simp);have h2:b2<256:=hb.lt _ (by simp);have h3:b3<256:=hb.lt _ (by simp);refine enter (N:=25) Tryz.func148 rfl rfl rfl ?_;intro a Z;refine go 3 Z I ?_;clear Z a;intro a Z;refine wp_seq ?_;refine d_start [] [] (by kernel_rfl) I rfl rfl ?_;clear I w;intro w I;refine dp 0 Z rfl (p_move rfl) (fun _=>I) (listed':= #[true,false,false,false,false,false,false,false,false,false,false,false,false,false,false,false,false,false,false,false,false,false,false]) ?_;clear Z a;intro a Z;obtain ⟨b_3,o_3,cs_3,T_3,fr_3,rfl,hb_3,hc_3⟩:=hb.at_ (by simp);refine dp 1 Z rfl (p_indexAddr rfl rfl Tryz.underlying40 sz_5 (by omega) (by omega) rfl) (fun _=>I) ?_;clear Z a;intro a Z;refine dl 2 Z rfl (fun w hS=>r_load rfl scal_5 (Inv.data hS _ _ (hb_3)) (RB.cell hc_3 (by omega) (by omega))) (I) ?_;clear Z a;intro a Z;refine dp 3 Z rfl (p_int (z:=((b0:Nat):Int)) Tryz.underlying5 Tryz.underlying3 rfl (IntWalk.i64_in ((b0:Nat):Int) ⟨by omega,by omega⟩)) (fun _=>I) ?_;clear Z a;intro a Z;refine dp 4 Z rfl (p_move rfl) (fun _=>I) ?_;clear Z a;intro a Z;refine dp 5 Z rfl (p_indexAddr rfl rfl Tryz.underlying40 sz_5 (by omega) (by omega) rfl) (fun _=>I) ?_;clear Z a;intro a Z;refine dl 6 Z rfl (fun w hS=>r_load rfl scal_5 (Inv.data hS _ _ (hb_3)) (RB.cell hc_3 (by omega) (by omega))) (I) ?_;clear Z a;intro a Z;refine dp 7 Z rfl (p_int (z:=((b1:Nat):Int)) Tryz.underlying5 Tryz.underlying3 rfl (IntWalk.i64_in ((b1:Nat):Int) ⟨by omega,by omega⟩)) (fun _=>I) ?_;clear Z a;intro a Z;refine dp 8 Z rfl (p_shl (z:=((b1*2^8:Nat):Int)) rfl rfl (by omega) (shl_i64 (k:=8) (by omega) (by omega))) (fun _=>I) ?_;clear Z a;intro a Z;refine dp 9 Z rfl (p_arith (z:=((b0+b1*2^8:Nat):Int)) rfl rfl (or_i64 (by omega) (by omega))) (fun _=>I) ?_;clear Z a;intro a Z;refine dp 10 Z rfl (p_move rfl) (fun _=>I) ?_;clear Z a;intro a Z;refine dp 11 Z rfl (p_indexAddr rfl rfl Tryz.underlying40 sz_5 (by omega) (by omega) rfl) (fun _=>I) ?_;clear Z a;intro a Z;refine dl 12 Z rfl (fun w hS=>r_load rfl scal_5 (Inv.data hS _ _ (hb_3)) (RB.cell hc_3 (by omega) (by omega))) (I) ?_;clear Z a;intro a Z;refine dp 13 Z rfl (p_int (z:=((b2:Nat):Int)) Tryz.underlying5 Tryz.underlying3 rfl (IntWalk.i64_in ((b2:Nat):Int) ⟨by omega,by omega⟩)) (fun _=>I) ?_;clear Z a;intro a Z;refine dp 14 Z rfl (p_shl (z:=((b2*2^16:Nat):Int)) rfl rfl (by omega) (shl_i64 (k:=16) (by omega) (by omega))) (fun _=>I) ?_;clear Z a;intro a Z;refine dp 15 Z rfl (p_arith (z:=((b0+b1*2^8+b2*2^16:Nat):Int)) rfl rfl (or_i64 (by omega) (by omega))) (fun _=>I) ?_;clear Z a;intro a Z;refine dp 16 Z rfl (p_move rfl) (fun _=>I) ?_;clear Z a;intro a Z;refine dp 17 Z rfl (p_indexAddr rfl rfl Tryz.underlying40 sz_5 (by omega) (by omega) rfl) (fun _=>I) ?_;clear Z a;intro a Z;refine dl 18 Z rfl (fun w hS=>r_load rfl scal_5 (Inv.data hS _ _ (hb_3)) (RB.cell hc_3 (by omega) (by omega))) (I) ?_;clear Z a;intro a Z;refine dp 19 Z rfl (p_int (z:=((b3:Nat):Int)) Tryz.underlying5 Tryz.underlying3 rfl (IntWalk.i64_in ((b3:Nat):Int) ⟨by omega,by omega⟩)) (fun _=>I) ?_;clear Z a;intro a Z;refine dp 20 Z rfl (p_shl (z:=((b3*2^24:Nat):Int)) rfl rfl (by omega) (shl_i64 (k:=24) (by omega) (by omega))) (fun _=>I) ?_;clear Z a;intro a Z;refine dp 21 Z rfl (p_arith (z:=((b0+b1*2^8+b2*2^16+b3*2^24:Nat):Int)) rfl rfl (or_i64 (by omega) (by omega))) (fun _=>I) ?_;clear Z a;intro a Z;refine dp 22 Z rfl (p_assign rfl) (fun _=>I) ?_;clear Z a;intro a Z;refine dnx ?_;refine gc 2 Z ?_;refine rt1 Z ?_;exact ⟨rfl,I⟩
theorem DR.none_nil {α:Type} {size:Nat} {R:Sto->List Value->α->Prop} {D:Sto} {n c:Nat} {l:List α} (h:DR size R D (.slice none n c) l):l= []:=by
 obtain ⟨A,c',h1,h2,h3,_⟩:=h;injection h1 with e1 e2 e3
 have:=h3 e1.symm;exact List.eq_nil_of_length_eq_zero (by omega)
theorem SpClone_spec {w0 w:World} {D:Sto} {ss:List Seg} (I:Inv w0 D ss w) {v:Value} {l:List Sp} (hl:DR 3 SpR D v l) (hm:l.length<=1000000) :
  Calls Tryz.prog 68 #[v] w (Ret fun r w'=> ∃D',Le D D'/\DR 3 SpR D' r l/\Inv w0 D' ss w'):=by
 obtain ⟨A1,c2,rfl,_⟩:=hl.slice;refine enter (N:=8) Tryz.func68 rfl rfl rfl ?_;intro a Z;refine go 6 Z I ?_;clear Z a;intro a Z;rcases A1 with _|A1
 ·refine zs Z (p_eq rfl rfl (g_none rfl) (e_sliceNil Tryz.underlying31 (rfl)) rfl rfl) ?_;clear Z a;intro a Z;refine go 7 Z I ?_;clear Z a;intro a Z;refine rt1 Z ?_;obtain rfl:=DR.none_nil hl;exact ⟨D,Le.refl _,DR.nil _ _ _,I⟩
 refine zs Z (p_eq rfl rfl (g_none rfl) (e_sliceNil Tryz.underlying31 (rfl)) rfl rfl) ?_;clear Z a;intro a Z;refine gc 5 Z ?_;refine l_step rfl (f_lit (vs:= []) (l:= []) Z I rfl rfl rfl rfl Tryz.underlying31 zs_131 rfl rfl rfl ?_);clear I Z a w;intro a b3 w Z I;refine zm Z ?_;clear Z a;intro a Z;refine l_step rfl (o_appendDR (R:=SpR) (xs:= []) (ys:=l) 0 Z I rfl rfl rfl rfl rfl Tryz.underlying31 zsb_131 rfl rfl rfl (OR.ofAt (size:=3) (T:=131) rfl (Nat.le_refl _) (by simp [maxLen]) rfl (fun i x hx=>by simp at hx)) hl (fun vs x h=>h.one) (by simp only [List.length_nil];omega) (by simp only [List.length_nil];omega) ?_);clear I Z a w;intro v4 s5 w hO6 I a Z;rw [List.nil_append] at hO6;obtain ⟨A7,c8,rfl,_⟩:=hO6.slice;(try simp only [nrm,Value.cells] at I);refine go 3 Z I ?_;clear Z a;intro a Z;refine rt1 Z ?_;obtain ⟨D9,hD9,hI9,hDR9⟩:=Inv.shutOR 0 I rfl SpR.keeps hO6;exact ⟨D9,(Le.refl _).trans hD9,hDR9,hI9⟩
end Go.Proofs.YtikllmoofngjnaaGreatDoor.B
