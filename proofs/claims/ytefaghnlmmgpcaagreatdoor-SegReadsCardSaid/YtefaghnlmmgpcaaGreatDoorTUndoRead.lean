/- What functions of the program compute, each function once: steps over the model, and the plain law of it. -/
import Derived.Test.YtefaghnlmmgpcaaGreatDoorTWire
import Derived.Test.YtefaghnlmmgpcaaGreatDoorTFacts
import Derived.Test.YtefaghnlmmgpcaaGreatDoorTSee
namespace Go.Proofs.YtefaghnlmmgpcaaGreatDoor.B
open Go Go.Proofs
set_option linter.unusedVariables false
set_option linter.unusedSimpArgs false
set_option maxRecDepth 20000
set_option maxHeartbeats 8000000
theorem getN_64 {l:List Nat} {z k:Nat} (hl: ∀x∈l,x<256) {p:Nat} (h:getN (l.drop p) 0 0= .inr (z,k)):z<18446744073709551616:=by obtain ⟨z1,rest,h1,_,_,_,h5⟩:=getN_inv _ 0 0 z k (fun x hx=>hl x (List.mem_of_mem_drop hx)) h (by omega);simp at h1 h5;omega
theorem Num_spec {w0 w:World} {D:Sto} {ss:List Seg} {s:Seg} {ad:Nat->Addr} {b:Nat} {rd:Rd} (I:Inv w0 D (s::ss) w) (hR:RdSeg D ad b rd s) (g101:GlobIs D 10 (errV ad 101)) (g103:GlobIs D 8 (errV ad 103)) (g105:GlobIs D 0 (errV ad 105)) (low high:Int) :
  Calls Tryz.prog 122 #[.pointer (some ⟨b,0,none⟩), .int .i64 low, .int .i64 high] w (Ret fun r w'=> ∃D' s',Le D D'/\Inv w0 D' (s'::ss) w'/\r= .int .i64 (rd.num low high).1/\RdSeg D' ad b (rd.num low high).2 s'):=by
 obtain ⟨vb,ve,rfl,hb,he,hok⟩:=hR;obtain ⟨Ab,cb,rfl,_⟩:=hb.slice;have hle:=hok.le;have hmost:=hok.most;refine enter (N:=48) Tryz.func122 rfl rfl rfl ?_;intro a Z;refine go 6 Z I ?_;clear Z a;intro a Z;refine zs Z (p_nilCheck rfl) ?_;clear Z a;intro a Z;refine go 2 Z I ?_;clear Z a;intro a Z;rcases (he).two with ⟨rfl,hx1⟩|⟨t_2,u_3,rfl,hx1⟩
 ·refine go 7 Z I ?_;clear Z a;intro a Z;refine l_step rfl (o_call Z rfl rfl rfl rfl ent_157 (number_spec I ⟨_,_,rfl,hb,he,hok⟩ g101 g103) ?_);clear I Z a;rintro r w h a Z;rcases h with ⟨e,hn,rfl,I⟩|⟨z,k,hn,rfl,I⟩
  ·refine go 35 Z I ?_;clear Z a;intro a Z;refine l_step rfl (o_call Z rfl rfl rfl rfl ent_158 (fail_spec I ⟨_,_,rfl,hb,he,hok⟩ e) ?_);clear I Z a;rintro r w ⟨rfl,D4,s1,hD5,I,hR1⟩ a Z;refine go 6 Z I ?_;clear Z a;intro a Z;refine rt1 Z ?_;refine ⟨_,s1,hD5,I, ?_, ?_⟩
   ·simp only [Rd.num,if_neg (show¬rd.err≠ .none by rw [hx1];simp),hn]
    try (first|rfl|(rw [if_pos (by omega)];try rfl))
   simp only [Rd.num,if_neg (show¬rd.err≠ .none by rw [hx1];simp),hn]
   first|exact hR1|(rw [if_pos (by omega)];exact hR1)
  have hk:=getN_end _ _ _ _ _ hn;simp at hk;have hz:=getN_64 hb.lt hn;refine go 15 Z I ?_;clear Z a;intro a Z;refine cgx Z ?_ ?_
  ·intro h1;replace h1:=lss_t h1;clear Z a;intro a Z;refine go 9 Z I ?_;clear Z a;intro a Z;obtain ⟨T_6,fr_6,hg_6⟩:=g105;refine zl Z (f_load rfl scal_37 (I.data _ _ (hg_6)) rfl) ?_;clear Z a;intro a Z;refine go 11 Z I ?_;clear Z a;intro a Z;refine l_step rfl (o_call Z rfl rfl rfl rfl ent_158 (fail_spec I ⟨_,_,rfl,hb,he,hok⟩ 105) ?_);clear I Z a;rintro r w ⟨rfl,D7,s1,hD8,I,hR1⟩ a Z;refine go 6 Z I ?_;clear Z a;intro a Z;refine rt1 Z ?_;refine ⟨_,s1,hD8,I, ?_, ?_⟩
   ·simp only [Rd.num,if_neg (show¬rd.err≠ .none by rw [hx1];simp),hn]
    try (first|rfl|(rw [if_pos (by omega)];try rfl))
   simp only [Rd.num,if_neg (show¬rd.err≠ .none by rw [hx1];simp),hn]
   first|exact hR1|(rw [if_pos (by omega)];exact hR1)
  intro h1;replace h1:=lss_f h1;clear Z a;intro a Z;refine go 3 Z I ?_;clear Z a;intro a Z;refine cgx Z ?_ ?_
  ·intro h2;replace h2:=gtr_t h2;clear Z a;intro a Z;refine go 5 Z I ?_;clear Z a;intro a Z;obtain ⟨T_9,fr_9,hg_9⟩:=g105;refine zl Z (f_load rfl scal_37 (I.data _ _ (hg_9)) rfl) ?_;clear Z a;intro a Z;refine go 11 Z I ?_;clear Z a;intro a Z;refine l_step rfl (o_call Z rfl rfl rfl rfl ent_158 (fail_spec I ⟨_,_,rfl,hb,he,hok⟩ 105) ?_);clear I Z a;rintro r w ⟨rfl,D10,s1,hD11,I,hR1⟩ a Z;refine go 6 Z I ?_;clear Z a;intro a Z;refine rt1 Z ?_;refine ⟨_,s1,hD11,I, ?_, ?_⟩
   ·simp only [Rd.num,if_neg (show¬rd.err≠ .none by rw [hx1];simp),hn]
    try (first|rfl|(rw [if_pos (by omega)];try rfl))
   simp only [Rd.num,if_neg (show¬rd.err≠ .none by rw [hx1];simp),hn]
   first|exact hR1|(rw [if_pos (by omega)];exact hR1)
  intro h2;replace h2:=gtr_f h2;clear Z a;intro a Z;refine go 16 Z I ?_;clear Z a;intro a Z;refine zs Z (p_nilCheck rfl) ?_;clear Z a;intro a Z;refine go 3 Z I ?_;clear Z a;intro a Z;refine zs Z (p_arith (z:=((rd.pos+k:Nat):Int)) rfl rfl (add_z (by omega) (by omega) (by omega))) ?_;clear Z a;intro a Z;refine zs Z (p_nilCheck rfl) ?_;clear Z a;intro a Z;refine zs Z (p_fieldAddr (m:=1) rfl fo_232_1 rfl) ?_;clear Z a;intro a Z;refine l_step rfl (f_store (l:= [_,_,_]) (ss':=_::_) 0 Z I rfl rfl rfl rfl rfl sz_3 (by simp [Value.cells,Value.oneCell']) rfl rfl rfl ?_);clear I w;intro w I;refine go 6 Z I ?_;clear Z a;intro a Z;refine rt1 Z ?_;refine ⟨D,_,Le.refl _,I, ?_, ?_⟩
  ·simp only [Rd.num,if_neg (show¬rd.err≠ .none by rw [hx1];simp),hn];rw [if_neg (by omega)];try rfl
  simp only [Rd.num,if_neg (show¬rd.err≠ .none by rw [hx1];simp),hn];rw [if_neg (by omega)];exact ⟨_,_,rfl,hb,he,⟨by show rd.pos+k<=rd.bs.length;omega,hok.most⟩⟩
 refine go 8 Z I ?_;clear Z a;intro a Z;refine rt1 Z ?_;refine ⟨D,_,Le.refl _,I, ?_, ?_⟩
 ·simp only [Rd.num,if_pos hx1]
 simp only [Rd.num,if_pos hx1];exact ⟨_,_,rfl,hb,he,hok⟩
theorem Bool_spec {w0 w:World} {D:Sto} {ss:List Seg} {s:Seg} {ad:Nat->Addr} {b:Nat} {rd:Rd} (I:Inv w0 D (s::ss) w) (hR:RdSeg D ad b rd s) (g101:GlobIs D 10 (errV ad 101)) (g103:GlobIs D 8 (errV ad 103)) (g105:GlobIs D 0 (errV ad 105)) :
  Calls Tryz.prog 123 #[.pointer (some ⟨b,0,none⟩)] w (Ret fun r w'=> ∃D' s',Le D D'/\Inv w0 D' (s'::ss) w'/\r= .bool (decide ((rd.num 0 1).1=1))/\RdSeg D' ad b (rd.num 0 1).2 s'):=by
 refine enter (N:=6) Tryz.func123 rfl rfl rfl ?_;intro a Z;refine go 5 Z I ?_;clear Z a;intro a Z;refine l_step rfl (o_call Z rfl rfl rfl rfl ent_122 (Num_spec I hR g101 g103 g105 0 1) ?_);clear I Z a;rintro r w ⟨D1,s3,hD2,I,rfl,hR4⟩ a Z;refine cmx Z ?_ ?_
 ·intro hq;replace hq:=eql_t hq;clear Z a;intro a Z;refine go 3 Z I ?_;clear Z a;intro a Z;refine rt1 Z ?_;refine ⟨_,_,hD2,I, ?_,hR4⟩;simp [hq]
 intro hq;replace hq:=eql_f hq;clear Z a;intro a Z;refine go 3 Z I ?_;clear Z a;intro a Z;refine rt1 Z ?_;refine ⟨_,_,hD2,I, ?_,hR4⟩;simp [hq]
open Go
def hadZ (b:Bool):Int:=if b then 1 else 0
def Rd.rem (r:Rd):List Nat:=r.bs.drop r.pos
theorem rem_len (r:Rd):r.rem.length=r.bs.length - r.pos:=by simp [Rd.rem]
theorem num_put {r:Rd} {m low high:Int} {rest:List Nat} (he:r.err= .none) (hr:r.rem=putZ m++rest) (h0:low<=m) (h1:m<=high) (h2: -9223372036854775808<=m) (h3:m<=9223372036854775807) :
  r.num low high=(m,{r with pos:=r.pos+(putZ m).length}):=by
 unfold Rd.num;rw [if_neg (by rw [he];simp)];have hg:=getN_put (zig m) 0 0 rest (by have:=zig_lt h2 h3;simp;omega) (by omega) (by omega);have hr':r.bs.drop r.pos=putN (zig m)++rest:=hr;rw [hr',hg];simp only [Nat.mul_zero,Nat.pow_zero,Nat.mul_one,Nat.zero_add,unzig_zig];rw [if_neg (by omega)];rfl
theorem rem_step {r:Rd} {xs rest:List Nat} (hr:r.rem=xs++rest):({r with pos:=r.pos+xs.length}:Rd).rem=rest:=by simp only [Rd.rem] at hr ⊢;rw [<-List.drop_drop,hr,List.drop_left]
theorem hadZ_one (b:Bool):decide (hadZ b=1)=b:=by cases b<;>rfl
theorem OB.data {w0 w:World} {D:Sto} {ss:List Seg} {r:Value} {bs:List Nat} (h: ∃s,OB r bs s/\Inv w0 D (s::ss) w) (hb: ∀x∈bs,x<256): ∃D',Le D D'/\Inv w0 D' ss w/\RB D' r bs:=by obtain ⟨s,h1,I⟩:=h;exact ⟨_,I.le_shut,I.shut,Row.shut_bytes h1 hb⟩
theorem Ret.imp {R R':Value->World->Prop} {e:Ending} {w:World} (h:Ret R e w) (hi: ∀r w,R r w->R' r w):Ret R' e w:=by obtain ⟨r,he,hr⟩:=h;exact ⟨r,he,hi _ _ hr⟩
theorem Clone_data {w0 w:World} {D:Sto} {ss:List Seg} (I:Inv w0 D ss w) {vb:Value} {bs:List Nat} (hb:RB D vb bs) (hm:bs.length<=140737488355328) :
  Calls Tryz.prog 86 #[vb] w (Ret fun r w'=> ∃D',Le D D'/\Inv w0 D' ss w'/\RB D' r bs):=
 (Clone_spec I hb hm).mono fun _ _ h=>h.imp fun _ _ h=>OB.data h hb.lt
theorem Put_data {w0 w:World} {D:Sto} {ss:List Seg} (I:Inv w0 D ss w) {vb:Value} {bs:List Nat} {m:Int} (hb:RB D vb bs) (hm:bs.length<=140737488355000) (h0: -9223372036854775808<=m) (h1:m<=9223372036854775807) :
  Calls Tryz.prog 134 #[vb, .int .i64 m] w (Ret fun r w'=> ∃D',Le D D'/\Inv w0 D' ss w'/\RB D' r (bs++putZ m)):=
 (Put_spec I hb hm h0 h1).mono fun _ _ h=>h.imp fun _ _ h=>OB.data h (fun x hx=>by rcases List.mem_append.1 hx with h|h;exact hb.lt x h;exact putZ_lt _ x h)
theorem PutBytes_data {w0 w:World} {D:Sto} {ss:List Seg} (I:Inv w0 D ss w) {vb vx:Value} {bs xs:List Nat} (hb:RB D vb bs) (hx:RB D vx xs) (hm:bs.length+xs.length<=140737488355000) :
  Calls Tryz.prog 169 #[vb,vx] w (Ret fun r w'=> ∃D',Le D D'/\Inv w0 D' ss w'/\RB D' r (bs++putZ (xs.length:Nat)++xs)):=
 (PutBytes_spec I hb hx hm).mono fun _ _ h=>h.imp fun _ _ h=>OB.data h (fun x hx'=>by
  simp only [List.mem_append] at hx';rcases hx' with (h|h)|h
  ·exact hb.lt x h
  ·exact putZ_lt _ x h
  exact hx.lt x h)
theorem bytes_step {bs:List Nat} {i:Nat} (h:i<bs.length):bytesV (bs.take i)++(#[Value.int .u8 ((bs.getD ((i:Nat):Int).toNat 0:Nat):Int)]:Array Value).toList=bytesV (bs.take (i+1)):=by
 have e:bs.getD ((i:Nat):Int).toNat 0=bs[i]:=by rw [List.getD_eq_getElem?_getD];simp [List.getElem?_eq_getElem h]
 rw [List.take_add_one,List.getElem?_eq_getElem h,e,Option.toList_some];simp only [bytesV,List.map_append,List.map_cons,List.map_nil]
theorem Number_spec {w0 w:World} {D:Sto} {ss:List Seg} (I:Inv w0 D ss w) (n:Int) {m:Int} (hb:0<m) (hm:m<=4611686018427387904) :
  Calls Tryz.prog 9 #[.int .i64 n, .int .i64 m] w (Ret fun r w'=>(∃z,r= .int .i64 z/\0<=z/\z<m)/\Inv w0 D ss w'):=by
 refine enter (N:=15) Tryz.func9 rfl rfl rfl ?_;intro a Z;refine go 6 Z I ?_;clear Z a;intro a Z;refine zs Z (p_arith (z:=_) rfl rfl (rem_z rfl (by omega))) ?_;clear Z a;intro a Z;refine go 2 Z I ?_;clear Z a;intro a Z;refine wp_seq ?_;refine wp_seq ?_;have hr1:=Int.tmod_lt_of_pos n hb;have hr2:=Int.lt_tmod_of_pos n hb;generalize n.tmod m=r at Z hr1 hr2;refine go 2 Z I ?_;clear Z a;intro a Z;refine cmx Z ?_ ?_
 ·intro hneg;replace hneg:=lss_t hneg;clear Z a;intro a Z;refine go 5 Z I ?_;clear Z a;intro a Z;refine zs Z (p_arith (z:=_) rfl rfl (add_z rfl (by omega) (by omega))) ?_;clear Z a;intro a Z;refine go 7 Z I ?_;clear Z a;intro a Z;refine rt1 Z ?_;exact ⟨⟨_,rfl,by omega,by omega⟩,I⟩
 intro hneg;replace hneg:=lss_f hneg;clear Z a;intro a Z;refine go 9 Z I ?_;clear Z a;intro a Z;refine rt1 Z ?_;exact ⟨⟨_,rfl,by omega,by omega⟩,I⟩
theorem refBytes_spec {w0 w:World} {D:Sto} {ss:List Seg} (I:Inv w0 D ss w) {vb:Value} {bs:List Nat} (hb:RB D vb bs) (hm:bs.length<=140737488355000) :
  Calls Tryz.prog 83 #[vb] w (Ret fun r w'=> ∃s,OB r bs s/\Inv w0 D (s::ss) w'):=by
 obtain ⟨A1,c2,rfl,_⟩:=hb.slice;refine enter (N:=22) Tryz.func83 rfl rfl rfl ?_;intro a Z;refine go 5 Z I ?_;clear Z a;intro a Z;refine zs Z (p_len rfl rfl Tryz.underlying32) ?_;clear Z a;intro a Z;refine l_step rfl (f_make Z I rfl rfl rfl rfl rfl Tryz.underlying32 zsb_5 (by omega) (by omega) (by omega) (by omega) ?_);clear I Z a w;intro a b3 w Z I;refine go 7 Z I ?_;clear Z a;intro a Z;refine c_loop (X:=Nat×Value×Seg) (fun x=> [(0,_),(3,x.2.1),(4, .int .i64 (x.1:Nat))]) (fun x w=>x.1<=bs.length/\Row 5 1 x.2.1 x.1 (bytesV (bs.take x.1)) x.2.2/\Inv w0 D (x.2.2::ss) w) (fun x=>bs.length - x.1) (0,_,_) (Z.pick [0,3,4]) ⟨Nat.zero_le _,Row.cast (Row.made (l:=0) (c:=bs.length) rfl (Nat.zero_le _) (by omega)) rfl rfl,I⟩ ?_;clear Z I a w;rintro ⟨i,v,s⟩ a w Z ⟨hi,hR,I⟩;(try dsimp only at Z);(try dsimp only at hi);(try dsimp only at hR);(try dsimp only at I);obtain ⟨A1,c1,rfl,_⟩:=hR.slice;refine go 4 Z I ?_;clear Z a;intro a Z;refine zs Z (p_len rfl rfl Tryz.underlying32) ?_;clear Z a;intro a Z;refine cmx Z ?_ ?_
 ·intro hlt;replace hlt:=lss_t hlt;clear Z a;intro a Z;refine go 10 Z I ?_;clear Z a;intro a Z;obtain ⟨b_4,o_4,cs_4,T_4,fr_4,rfl,hb_4,hc_4⟩:=hb.at_ (List.ne_nil_of_length_pos (by omega));refine zs Z (p_indexAddr rfl rfl Tryz.underlying32 sz_5 (by omega) (by omega) rfl) ?_;clear Z a;intro a Z;refine zl Z (r_load rfl scal_5 (I.data _ _ (hb_4)) (RB.cell hc_4 (by omega) (by omega))) ?_;clear Z a;intro a Z;refine l_step rfl (f_lit (vs:= [(0,_)]) (l:= [_]) Z I rfl rfl rfl rfl Tryz.underlying32 zs_5 rfl rfl rfl ?_);clear I Z a w;intro a b5 w Z I;refine l_step rfl (o_append 1 Z I rfl rfl rfl rfl rfl Tryz.underlying32 zsb_5 rfl rfl rfl hR (by rfl) (lit_news (I.seg 0 rfl)) (by simp [Value.oneCell']) (by omega) (by omega) ?_);clear I Z a w;intro v6 s7 w hR8 I a Z;obtain ⟨A9,c10,rfl,_⟩:=hR8.slice;replace I:=I.erase 0;(try simp only [nrm,Value.cells] at I);refine za Z ?_;clear Z a;intro a Z;refine wpList_nil ?_;refine go 4 Z I ?_;clear Z a;intro a Z;refine zs Z (p_arith (z:=((i+1:Nat):Int)) rfl rfl (add_z (by omega) (by omega) (by omega))) ?_;clear Z a;intro a Z;refine go 2 Z I ?_;clear Z a;intro a Z;exact ⟨(i+1,_,_),Z.pick [0,3,4],⟨by show i+1<=bs.length;omega,Row.cast hR8 (bytes_step (by omega)) rfl,I⟩,by show bs.length - (i+1)<bs.length - i;omega⟩
 intro hlt;replace hlt:=lss_f hlt;clear Z a;intro a Z;refine go 12 Z I ?_;clear Z a;intro a Z;refine rt1 Z ?_;obtain rfl:i=bs.length:=by omega
 exact ⟨_,Row.cast hR (by rw [List.take_length]) rfl,I⟩
end Go.Proofs.YtefaghnlmmgpcaaGreatDoor.B
