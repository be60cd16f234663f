/- What functions of the program compute, each function once: steps over the model, and the plain law of it. -/
import Derived.Test.YtikllmoofngjnaaGreatDoorTWire
import Derived.Test.YtikllmoofngjnaaGreatDoorTFacts
import Derived.Test.YtikllmoofngjnaaGreatDoorTWireMath
namespace Go.Proofs.YtikllmoofngjnaaGreatDoor.B
open Go Go.Proofs
set_option linter.unusedVariables false
set_option linter.unusedSimpArgs false
set_option maxRecDepth 20000
set_option maxHeartbeats 8000000
theorem getN_64 {l:List Nat} {z k:Nat} (hl: ∀x∈l,x<256) {p:Nat} (h:getN (l.drop p) 0 0= .inr (z,k)):z<18446744073709551616:=by obtain ⟨z1,rest,h1,_,_,_,h5⟩:=getN_inv _ 0 0 z k (fun x hx=>hl x (List.mem_of_mem_drop hx)) h (by omega);simp at h1 h5;omega
theorem Num_spec {w0 w:World} {D:Sto} {ss:List Seg} {s:Seg} {ad:Nat->Addr} {b:Nat} {rd:Rd} (I:Inv w0 D (s::ss) w) (hR:RdSeg D ad b rd s) (g101:GlobIs D 9 (errV ad 101)) (g103:GlobIs D 4 (errV ad 103)) (g105:GlobIs D 0 (errV ad 105)) (low high:Int) :
  Calls Tryz.prog 150 #[.pointer (some ⟨b,0,none⟩), .int .i64 low, .int .i64 high] w (Ret fun r w'=> ∃D' s',Le D D'/\Inv w0 D' (s'::ss) w'/\r= .int .i64 (rd.num low high).1/\RdSeg D' ad b (rd.num low high).2 s'):=by
 obtain ⟨vb,ve,rfl,hb,he,hok⟩:=hR;obtain ⟨Ab,cb,rfl,_⟩:=hb.slice;have hle:=hok.le;have hmost:=hok.most;refine enter (N:=48) Tryz.func150 rfl rfl rfl ?_;intro a Z;refine go 6 Z I ?_;clear Z a;intro a Z;refine zs Z (p_nilCheck rfl) ?_;clear Z a;intro a Z;refine go 2 Z I ?_;clear Z a;intro a Z;rcases (he).two with ⟨rfl,hx1⟩|⟨t_2,u_3,rfl,hx1⟩
 ·refine go 7 Z I ?_;clear Z a;intro a Z;refine l_step rfl (o_call Z rfl rfl rfl rfl ent_192 (number_spec I ⟨_,_,rfl,hb,he,hok⟩ g101 g103) ?_);clear I Z a;rintro r w h a Z;rcases h with ⟨e,hn,rfl,I⟩|⟨z,k,hn,rfl,I⟩
  ·refine go 35 Z I ?_;clear Z a;intro a Z;refine l_step rfl (o_call Z rfl rfl rfl rfl ent_193 (fail_spec I ⟨_,_,rfl,hb,he,hok⟩ e) ?_);clear I Z a;rintro r w ⟨rfl,D4,s1,hD5,I,hR1⟩ a Z;refine go 6 Z I ?_;clear Z a;intro a Z;refine rt1 Z ?_;refine ⟨_,s1,hD5,I, ?_, ?_⟩
   ·simp only [Rd.num,if_neg (show¬rd.err≠ .none by rw [hx1];simp),hn]
    try (first|rfl|(rw [if_pos (by omega)];try rfl))
   simp only [Rd.num,if_neg (show¬rd.err≠ .none by rw [hx1];simp),hn]
   first|exact hR1|(rw [if_pos (by omega)];exact hR1)
  have hk:=getN_end _ _ _ _ _ hn;simp at hk;have hz:=getN_64 hb.lt hn;refine go 15 Z I ?_;clear Z a;intro a Z;refine cgx Z ?_ ?_
  ·intro h1;replace h1:=lss_t h1;clear Z a;intro a Z;refine go 9 Z I ?_;clear Z a;intro a Z;obtain ⟨T_6,fr_6,hg_6⟩:=g105;refine zl Z (f_load rfl scal_45 (I.data _ _ (hg_6)) rfl) ?_;clear Z a;intro a Z;refine go 11 Z I ?_;clear Z a;intro a Z;refine l_step rfl (o_call Z rfl rfl rfl rfl ent_193 (fail_spec I ⟨_,_,rfl,hb,he,hok⟩ 105) ?_);clear I Z a;rintro r w ⟨rfl,D7,s1,hD8,I,hR1⟩ a Z;refine go 6 Z I ?_;clear Z a;intro a Z;refine rt1 Z ?_;refine ⟨_,s1,hD8,I, ?_, ?_⟩
   ·simp only [Rd.num,if_neg (show¬rd.err≠ .none by rw [hx1];simp),hn]
    try (first|rfl|(rw [if_pos (by omega)];try rfl))
   simp only [Rd.num,if_neg (show¬rd.err≠ .none by rw [hx1];simp),hn]
   first|exact hR1|(rw [if_pos (by omega)];exact hR1)
  intro h1;replace h1:=lss_f h1;clear Z a;intro a Z;refine go 3 Z I ?_;clear Z a;intro a Z;refine cgx Z ?_ ?_
  ·intro h2;replace h2:=gtr_t h2;clear Z a;intro a Z;refine go 5 Z I ?_;clear Z a;intro a Z;obtain ⟨T_9,fr_9,hg_9⟩:=g105;refine zl Z (f_load rfl scal_45 (I.data _ _ (hg_9)) rfl) ?_;clear Z a;intro a Z;refine go 11 Z I ?_;clear Z a;intro a Z;refine l_step rfl (o_call Z rfl rfl rfl rfl ent_193 (fail_spec I ⟨_,_,rfl,hb,he,hok⟩ 105) ?_);clear I Z a;rintro r w ⟨rfl,D10,s1,hD11,I,hR1⟩ a Z;refine go 6 Z I ?_;clear Z a;intro a Z;refine rt1 Z ?_;refine ⟨_,s1,hD11,I, ?_, ?_⟩
   ·simp only [Rd.num,if_neg (show¬rd.err≠ .none by rw [hx1];simp),hn]
    try (first|rfl|(rw [if_pos (by omega)];try rfl))
   simp only [Rd.num,if_neg (show¬rd.err≠ .none by rw [hx1];simp),hn]
   first|exact hR1|(rw [if_pos (by omega)];exact hR1)
  intro h2;replace h2:=gtr_f h2;clear Z a;intro a Z;refine go 16 Z I ?_;clear Z a;intro a Z;refine zs Z (p_nilCheck rfl) ?_;clear Z a;intro a Z;refine go 3 Z I ?_;clear Z a;intro a Z;refine zs Z (p_arith (z:=((rd.pos+k:Nat):Int)) rfl rfl (add_z (by omega) (by omega) (by omega))) ?_;clear Z a;intro a Z;refine zs Z (p_nilCheck rfl) ?_;clear Z a;intro a Z;refine zs Z (p_fieldAddr (m:=1) rfl fo_252_1 rfl) ?_;clear Z a;intro a Z;refine l_step rfl (f_store (l:= [_,_,_]) (ss':=_::_) 0 Z I rfl rfl rfl rfl rfl sz_3 (by simp [Value.cells,Value.oneCell']) rfl rfl rfl ?_);clear I w;intro w I;refine go 6 Z I ?_;clear Z a;intro a Z;refine rt1 Z ?_;refine ⟨D,_,Le.refl _,I, ?_, ?_⟩
  ·simp only [Rd.num,if_neg (show¬rd.err≠ .none by rw [hx1];simp),hn];rw [if_neg (by omega)];try rfl
  simp only [Rd.num,if_neg (show¬rd.err≠ .none by rw [hx1];simp),hn];rw [if_neg (by omega)];exact ⟨_,_,rfl,hb,he,⟨by show rd.pos+k<=rd.bs.length;omega,hok.most⟩⟩
 refine go 8 Z I ?_;clear Z a;intro a Z;refine rt1 Z ?_;refine ⟨D,_,Le.refl _,I, ?_, ?_⟩
 ·simp only [Rd.num,if_pos hx1]
 simp only [Rd.num,if_pos hx1];exact ⟨_,_,rfl,hb,he,hok⟩
theorem Bool_spec {w0 w:World} {D:Sto} {ss:List Seg} {s:Seg} {ad:Nat->Addr} {b:Nat} {rd:Rd} (I:Inv w0 D (s::ss) w) (hR:RdSeg D ad b rd s) (g101:GlobIs D 9 (errV ad 101)) (g103:GlobIs D 4 (errV ad 103)) (g105:GlobIs D 0 (errV ad 105)) :
  Calls Tryz.prog 151 #[.pointer (some ⟨b,0,none⟩)] w (Ret fun r w'=> ∃D' s',Le D D'/\Inv w0 D' (s'::ss) w'/\r= .bool (decide ((rd.num 0 1).1=1))/\RdSeg D' ad b (rd.num 0 1).2 s'):=by
 refine enter (N:=6) Tryz.func151 rfl rfl rfl ?_;intro a Z;refine go 5 Z I ?_;clear Z a;intro a Z;refine l_step rfl (o_call Z rfl rfl rfl rfl ent_150 (Num_spec I hR g101 g103 g105 0 1) ?_);clear I Z a;rintro r w ⟨D1,s3,hD2,I,rfl,hR4⟩ a Z;refine cmx Z ?_ ?_
 ·intro hq;replace hq:=eql_t hq;clear Z a;intro a Z;refine go 3 Z I ?_;clear Z a;intro a Z;refine rt1 Z ?_;refine ⟨_,_,hD2,I, ?_,hR4⟩;simp [hq]
 intro hq;replace hq:=eql_f hq;clear Z a;intro a Z;refine go 3 Z I ?_;clear Z a;intro a Z;refine rt1 Z ?_;refine ⟨_,_,hD2,I, ?_,hR4⟩;simp [hq]
theorem bytes_err {rd:Rd} {most:Int} (h:(rd.num 0 most).2.err≠ .none):(rd.bytes most).1= []:=by simp only [Rd.bytes,if_pos h]
theorem bytes_err' {rd:Rd} {most:Int} (h:(rd.num 0 most).2.err≠ .none):(rd.bytes most).2=(rd.num 0 most).2:=by simp only [Rd.bytes,if_pos h]
theorem bytes_end {rd:Rd} {most:Int} (h:(rd.num 0 most).2.err= .none) (h2:(((rd.num 0 most).2.bs.length - (rd.num 0 most).2.pos:Nat):Int)<(rd.num 0 most).1):(rd.bytes most).1= []:=by simp only [Rd.bytes];rw [if_neg (by rw [h];simp),if_pos h2]
theorem bytes_end' {rd:Rd} {most:Int} (h:(rd.num 0 most).2.err= .none) (h2:(((rd.num 0 most).2.bs.length - (rd.num 0 most).2.pos:Nat):Int)<(rd.num 0 most).1):(rd.bytes most).2={(rd.num 0 most).2 with pos:=rd.pos,err:= .at_ 101 rd.pos}:=by simp only [Rd.bytes];rw [if_neg (by rw [h];simp),if_pos h2]
theorem bytes_ok {rd:Rd} {most:Int} (h:(rd.num 0 most).2.err= .none) (h2:(rd.num 0 most).1<=(((rd.num 0 most).2.bs.length - (rd.num 0 most).2.pos:Nat):Int)):(rd.bytes most).1=((rd.num 0 most).2.bs.drop (rd.num 0 most).2.pos).take (rd.num 0 most).1.toNat:=by simp only [Rd.bytes];rw [if_neg (by rw [h];simp),if_neg (by omega)]
theorem bytes_ok' {rd:Rd} {most:Int} (h:(rd.num 0 most).2.err= .none) (h2:(rd.num 0 most).1<=(((rd.num 0 most).2.bs.length - (rd.num 0 most).2.pos:Nat):Int)):(rd.bytes most).2={(rd.num 0 most).2 with pos:=(rd.num 0 most).2.pos+(rd.num 0 most).1.toNat}:=by simp only [Rd.bytes];rw [if_neg (by rw [h];simp),if_neg (by omega)]
theorem cut_at {n:Int} {k:Nat} (h0:0<=n) (h1:n.toNat=k):(if 0<=n then some n.toNat else none)=some k:=by rw [if_pos h0,h1]
theorem RBytes_spec {w0 w:World} {D:Sto} {ss:List Seg} {s:Seg} {ad:Nat->Addr} {b:Nat} {rd:Rd} (I:Inv w0 D (s::ss) w) (hR:RdSeg D ad b rd s) (g101:GlobIs D 9 (errV ad 101)) (g103:GlobIs D 4 (errV ad 103)) (g105:GlobIs D 0 (errV ad 105)) (most:Int) :
  Calls Tryz.prog 194 #[.pointer (some ⟨b,0,none⟩), .int .i64 most] w (Ret fun r w'=> ∃D' s',Le D D'/\Inv w0 D' (s'::ss) w'/\RB D' r (rd.bytes most).1/\RdSeg D' ad b (rd.bytes most).2 s'):=by
 obtain ⟨vb,ve,rfl,hb,he,hok⟩:=hR;obtain ⟨Ab,cb,rfl,_⟩:=hb.slice;have hle:=hok.le;have hmost:=hok.most;refine enter (N:=54) Tryz.func194 rfl rfl rfl ?_;intro a Z;refine go 5 Z I ?_;clear Z a;intro a Z;refine zs Z (p_nilCheck rfl) ?_;clear Z a;intro a Z;refine go 7 Z I ?_;clear Z a;intro a Z;refine l_step rfl (o_call Z rfl rfl rfl rfl ent_150 (Num_spec I ⟨_,_,rfl,hb,he,hok⟩ g101 g103 g105 0 most) ?_);clear I Z a;rintro r w ⟨D1,s3,hD2,I,rfl,hR4⟩ a Z;obtain ⟨vb1,ve1,rfl,hb1,he1,hok1⟩:=hR4;obtain ⟨Ab1,cb1,rfl,_⟩:=hb1.slice;have hbs:=num_bs rd 0 most;have hbl:(rd.num 0 most).2.bs.length=rd.bs.length:=by rw [hbs]
 have hle1:=hok1.le;have hmost1:=hok1.most;refine go 5 Z I ?_;clear Z a;intro a Z;refine zs Z (p_nilCheck rfl) ?_;clear Z a;intro a Z;refine go 2 Z I ?_;clear Z a;intro a Z;rcases (he1).two with ⟨rfl,hx5⟩|⟨t_6,u_7,rfl,hx5⟩
 ·refine go 9 Z I ?_;clear Z a;intro a Z;refine l_step rfl (o_call Z rfl rfl rfl rfl ent_155 (RLeft_spec I ⟨_,_,rfl,hb1,he1,hok1⟩) ?_);clear I Z a;rintro r w ⟨rfl,I⟩ a Z;have hrange:=num_range (r:=rd) 0 most ‹_›;refine cmx Z ?_ ?_
  ·intro h3;replace h3:=gtr_t h3;clear Z a;intro a Z;refine go 5 Z I ?_;clear Z a;intro a Z;refine zs Z (p_nilCheck rfl) ?_;clear Z a;intro a Z;refine zs Z (p_fieldAddr (m:=1) rfl fo_252_1 rfl) ?_;clear Z a;intro a Z;refine l_step rfl (f_store (l:= [_,_,_]) (ss':=_::_) 0 Z I rfl rfl rfl rfl rfl sz_3 (by simp [Value.cells,Value.oneCell']) rfl rfl rfl ?_);clear I w;intro w I;refine go 3 Z I ?_;clear Z a;intro a Z;obtain ⟨T_8,fr_8,hg_8⟩:=g101;refine zl Z (f_load rfl scal_45 (I.data _ _ (hD2 _ _ (hg_8))) rfl) ?_;clear Z a;intro a Z;refine l_step rfl (o_call Z rfl rfl rfl rfl ent_193 (fail_spec (rd:={(rd.num 0 most).2 with pos:=rd.pos}) I ⟨_,_,rfl,hb1,he1,⟨by show rd.pos<=(rd.num 0 most).2.bs.length;omega,hmost1⟩⟩ 101) ?_);clear I Z a;rintro r w ⟨rfl,D9,s1,hD10,I,hR9⟩ a Z;refine go 6 Z I ?_;clear Z a;intro a Z;refine rt1 Z ?_;refine ⟨_,s1,(hD2.trans hD10),I, ?_, ?_⟩
   ·rw [bytes_end ‹_› (by omega)];exact RB.nil _
   rw [bytes_end' ‹_› (by omega)];exact hR9
  intro h3;replace h3:=gtr_f h3;clear Z a;intro a Z;refine go 6 Z I ?_;clear Z a;intro a Z;refine zs Z (p_nilCheck rfl) ?_;clear Z a;intro a Z;refine go 3 Z I ?_;clear Z a;intro a Z;refine zs Z (p_arith (z:=(((rd.num 0 most).2.pos+(rd.num 0 most).1.toNat:Nat):Int)) rfl rfl (add_z (by omega) (by omega) (by omega))) ?_;clear Z a;intro a Z;refine zs Z (p_nilCheck rfl) ?_;clear Z a;intro a Z;refine zs Z (p_fieldAddr (m:=1) rfl fo_252_1 rfl) ?_;clear Z a;intro a Z;refine l_step rfl (f_store (l:= [_,_,_]) (ss':=_::_) 0 Z I rfl rfl rfl rfl rfl sz_3 (by simp [Value.cells,Value.oneCell']) rfl rfl rfl ?_);clear I w;intro w I;refine wnt ?_;refine wp_seq ?_;refine d_start [15] [] (by kernel_rfl) I rfl rfl ?_;clear I w;intro w I;refine dp 0 Z rfl (p_move rfl) (fun _=>I) (listed':= #[true,false,false,false,false,false,false,false,false,false,false,false,false,false,false,false,false]) ?_;clear Z a;intro a Z;refine dp 1 Z rfl (p_nilCheck rfl) (fun _=>I) ?_;clear Z a;intro a Z;refine dp 2 Z rfl (p_fieldAddr (m:=0) rfl fo_252_0 rfl) (fun _=>I) ?_;clear Z a;intro a Z;refine dl 3 Z rfl (fun w hS=>f_load rfl scal_40 (Inv.seg 0 hS rfl) rfl) (I) ?_;clear Z a;intro a Z;refine dp 4 Z rfl (p_move rfl) (fun _=>I) ?_;clear Z a;intro a Z;refine dp 5 Z rfl (p_nilCheck rfl) (fun _=>I) ?_;clear Z a;intro a Z;refine dp 6 Z rfl (p_fieldAddr (m:=1) rfl fo_252_1 rfl) (fun _=>I) ?_;clear Z a;intro a Z;refine dl 7 Z rfl (fun w hS=>f_load rfl scal_3 (Inv.seg 0 hS rfl) rfl) (I) ?_;clear Z a;intro a Z;refine dp 8 Z rfl (p_move rfl) (fun _=>I) ?_;clear Z a;intro a Z;refine dp 9 Z rfl (p_arith (z:=((rd.num 0 most).2.pos:Int)) rfl rfl (sub_z (by omega) (by omega) (by omega))) (fun _=>I) ?_;clear Z a;intro a Z;refine dp 10 Z rfl (p_move rfl) (fun _=>I) ?_;clear Z a;intro a Z;refine dp 11 Z rfl (p_nilCheck rfl) (fun _=>I) ?_;clear Z a;intro a Z;refine dp 12 Z rfl (p_fieldAddr (m:=1) rfl fo_252_1 rfl) (fun _=>I) ?_;clear Z a;intro a Z;refine dl 13 Z rfl (fun w hS=>f_load rfl scal_3 (Inv.seg 0 hS rfl) rfl) (I) ?_;clear Z a;intro a Z;obtain ⟨hsl,hsr⟩:=hb1.cut (l:=(rd.num 0 most).2.pos) (h:=((rd.num 0 most).2.pos+(rd.num 0 most).1.toNat)) (by omega) (by omega);refine dp 14 Z rfl (p_slice (l:=(rd.num 0 most).2.pos) (h:=((rd.num 0 most).2.pos+(rd.num 0 most).1.toNat)) rfl Tryz.underlying40 sz_5 (cut_at (by omega) (by omega)) (cut_at (by omega) (by omega)) (by omega) (by omega)) (fun _=>I) ?_;clear Z a;intro a Z;refine do1 15 Z rfl ?_;refine o_call Z rfl rfl rfl rfl ent_103 (Clone_spec I hsr (by simp;omega)) ?_;clear I Z a;rintro r w ⟨s14,hR11,I⟩ a Z;obtain ⟨A12,c13,rfl,_⟩:=Row.slice hR11;refine ⟨nl, ?_⟩;refine dp 16 Z rfl (p_assign rfl) nl ?_;clear Z a;intro a Z;refine dnx ?_;refine gc 2 Z ?_;refine rt1 Z ?_;obtain ⟨I,hlz⟩:=I.shut_at 0 rfl;(try simp only [List.eraseIdx_cons_zero] at I);refine ⟨_,_,(hD2.trans hlz),I, ?_, ?_⟩
  ·rw [bytes_ok ‹_› (by omega)];simp only [Nat.add_sub_cancel_left] at hR11 hsr ⊢;exact Row.shut_bytes hR11 hsr.lt
  rw [bytes_ok' ‹_› (by omega)];exact ⟨_,_,rfl,hb1.mono hlz,he1.mono hlz,⟨by show _<=(rd.num 0 most).2.bs.length;simp only;omega,hmost1⟩⟩
 refine go 8 Z I ?_;clear Z a;intro a Z;refine rt1 Z ?_;refine ⟨_,_,hD2,I, ?_, ?_⟩
 ·rw [bytes_err ‹_›];exact RB.nil _
 rw [bytes_err' ‹_›];exact ⟨_,_,rfl,hb1,he1,hok1⟩
open Go
def hadZ (b:Bool):Int:=if b then 1 else 0
def Rd.rem (r:Rd):List Nat:=r.bs.drop r.pos
theorem rem_len (r:Rd):r.rem.length=r.bs.length - r.pos:=by simp [Rd.rem]
theorem num_put {r:Rd} {m low high:Int} {rest:List Nat} (he:r.err= .none) (hr:r.rem=putZ m++rest) (h0:low<=m) (h1:m<=high) (h2: -9223372036854775808<=m) (h3:m<=9223372036854775807) :
  r.num low high=(m,{r with pos:=r.pos+(putZ m).length}):=by
 unfold Rd.num;rw [if_neg (by rw [he];simp)];have hg:=getN_put (zig m) 0 0 rest (by have:=zig_lt h2 h3;simp;omega) (by omega) (by omega);have hr':r.bs.drop r.pos=putN (zig m)++rest:=hr;rw [hr',hg];simp only [Nat.mul_zero,Nat.pow_zero,Nat.mul_one,Nat.zero_add,unzig_zig];rw [if_neg (by omega)];rfl
theorem rem_step {r:Rd} {xs rest:List Nat} (hr:r.rem=xs++rest):({r with pos:=r.pos+xs.length}:Rd).rem=rest:=by simp only [Rd.rem] at hr ⊢;rw [<-List.drop_drop,hr,List.drop_left]
theorem bytes_put {r:Rd} {most:Int} {xs rest:List Nat} (he:r.err= .none) (hr:r.rem=putZ (xs.length:Nat)++(xs++rest)) (h1:(xs.length:Int)<=most) (h3:xs.length<=1000) :
  r.bytes most=(xs,{r with pos:=r.pos+(putZ (xs.length:Nat)++xs).length}):=by
 have hn:=num_put (low:=0) (high:=most) he hr (by omega) h1 (by omega) (by omega);have hrem:=rem_step hr;unfold Rd.bytes;simp only [hn];rw [if_neg (by rw [he];simp)];have hl:({r with pos:=r.pos+(putZ (xs.length:Nat)).length}:Rd).rem.length=(xs++rest).length:=by rw [hrem]
 rw [rem_len] at hl;simp only [List.length_append] at hl;rw [if_neg (by omega)];simp only [Rd.rem] at hrem;simp only [Int.toNat_natCast,hrem,List.take_left,List.length_append,Nat.add_assoc]
theorem hadZ_one (b:Bool):decide (hadZ b=1)=b:=by cases b<;>rfl
end Go.Proofs.YtikllmoofngjnaaGreatDoor.B
