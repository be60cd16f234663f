/- What functions of the program compute, each function once: steps over the model, and the plain law of it. -/
import Derived.Test.YtefaghnlmmgpcaaGreatDoorTWire
import Derived.Test.YtefaghnlmmgpcaaGreatDoorTFacts
namespace Go.Proofs.YtefaghnlmmgpcaaGreatDoor.B
open Go Go.Proofs
set_option linter.unusedVariables false
set_option linter.unusedSimpArgs false
set_option maxRecDepth 20000
set_option maxHeartbeats 8000000
theorem getN_64 {l:List Nat} {z k:Nat} (hl: ∀x∈l,x<256) {p:Nat} (h:getN (l.drop p) 0 0= .inr (z,k)):z<18446744073709551616:=by obtain ⟨z1,rest,h1,_,_,_,h5⟩:=getN_inv _ 0 0 z k (fun x hx=>hl x (List.mem_of_mem_drop hx)) h (by omega);simp at h1 h5;omega
theorem Num_spec {w0 w:World} {D:Sto} {ss:List Seg} {s:Seg} {ad:Nat->Addr} {b:Nat} {rd:Rd} (I:Inv w0 D (s::ss) w) (hR:RdSeg D ad b rd s) (g101:GlobIs D 10 (errV ad 101)) (g103:GlobIs D 8 (errV ad 103)) (g105:GlobIs D 0 (errV ad 105)) (low high:Int) :
  Calls Tryz.prog 122 #[.pointer (some ⟨b,0,none⟩), .int .i64 low, .int .i64 high] w (Ret fun r w'=> ∃D' s',Le D D'/\Inv w0 D' (s'::ss) w'/\r= .int .i64 (rd.num low high).1/\RdSeg D' ad b (rd.num low high).2 s'):=by
 obtain ⟨vb,ve,rfl,hb,he,hok⟩:=hR;obtain ⟨Ab,cb,rfl,_⟩:=hb.slice;have hle:=hok.le;have hmost:=hok.most;refine enter (N:=48) Tryz.func122 rfl rfl rfl ?_;intro a Z;refine go 6 Z I ?_;clear Z a;intro a Z;refine zs Z (p_nilCheck rfl) ?_;clear Z a;intro a Z;refine go 2 Z I ?_;clear Z a;intro a Z;rcases (he).two with ⟨rfl,hx1⟩|⟨t_2,u_3,rfl,hx1⟩
 ·refine go 7 Z I ?_;clear Z a;intro a Z;refine l_step rfl (o_call Z rfl rfl rfl rfl ent_157 (number_spec I ⟨_,_,rfl,hb,he,hok⟩ g101 g103) ?_);clear I Z a;rintro r w h a Z;rcases h with ⟨e,hn,rfl,I⟩|⟨z,k,hn,rfl,I⟩
  ·refine go 35 Z I ?_;clear Z a;intro a Z;refine l_step rfl (o_call Z rfl rfl rfl rfl ent_158 (fail_spec I ⟨_,_,rfl,hb,he,hok⟩ e) ?_);clear I Z a;rintro r w ⟨rfl,D4,s1,hD5,I,hR1⟩ a Z;refine go 6 Z I ?_;clear Z a;intro a Z;refine rt1 Z ?_;refine ⟨_,s1,hD5,I, ?_, ?_⟩
   ·simp only [Rd.num,if_neg (show¬rd.err≠ .none by rw [hx1];simp),hn]
    try (first|rfl|(rw [if_pos (by omega)];try rfl))
   simp only [Rd.num,if_neg (show¬rd.err≠ .none by rw [hx1];simp),hn]
   first|exact hR1|(rw [if_pos (by omega)];exact hR1)
  have hk:=getN_end _ _ _ _ _ hn;simp at hk;have hz:=getN_64 hb.lt hn;refine go 15 Z I ?_;clear Z a;intro a Z;refine cgx Z ?_ ?_
  ·intro h1;replace h1:=lss_t h1;clear Z a;intro a Z;refine go 9 Z I ?_;clear Z a;intro a Z;obtain ⟨T_6,fr_6,hg_6⟩:=g105;refine zl Z (f_load rfl scal_37 (I.data _ _ (hg_6)) rfl) ?_;clear Z a;intro a Z;refine go 11 Z I ?_;clear Z a;intro a Z;refine l_step rfl (o_call Z rfl rfl rfl rfl ent_158 (fail_spec I ⟨_,_,rfl,hb,he,hok⟩ 105) ?_);clear I Z a;rintro r w ⟨rfl,D7,s1,hD8,I,hR1⟩ a Z;refine go 6 Z I ?_;clear Z a;intro a Z;refine rt1 Z ?_;refine ⟨_,s1,hD8,I, ?_, ?_⟩
   ·simp only [Rd.num,if_neg (show¬rd.err≠ .none by rw [hx1];simp),hn]
    try (first|rfl|(rw [if_pos (by omega)];try rfl))
   simp only [Rd.num,if_neg (show¬rd.err≠ .none by rw [hx1];simp),hn]
   first|exact hR1|(rw [if_pos (by omega)];exact hR1)
  intro h1;replace h1:=lss_f h1;clear Z a;intro a Z;refine go 3 Z I ?_;clear Z a;intro a Z;refine cgx Z ?_ ?_
  ·intro h2;replace h2:=gtr_t h2;clear Z a;intro a Z;refine go 5 Z I ?_;clear Z a;intro a Z;obtain ⟨T_9,fr_9,hg_9⟩:=g105;refine zl Z (f_load rfl scal_37 (I.data _ _ (hg_9)) rfl) ?_;clear Z a;intro a Z;refine go 11 Z I ?_;clear Z a;intro a Z;refine l_step rfl (o_call Z rfl rfl rfl rfl ent_158 (fail_spec I ⟨_,_,rfl,hb,he,hok⟩ 105) ?_);clear I Z a;rintro r w ⟨rfl,D10,s1,hD11,I,hR1⟩ a Z;refine go 6 Z I ?_;clear Z a;intro a Z;refine rt1 Z ?_;refine ⟨_,s1,hD11,I, ?_, ?_⟩
   ·simp only [Rd.num,if_neg (show¬rd.err≠ .none by rw [hx1];simp),hn]
    try (first|rfl|(rw [if_pos (by omega)];try rfl))
   simp only [Rd.num,if_neg (show¬rd.err≠ .none by rw [hx1];simp),hn]
   first|exact hR1|(rw [if_pos (by omega)];exact hR1)
  intro h2;replace h2:=gtr_f h2;clear Z a;intro a Z;refine go 16 Z I ?_;clear Z a;intro a Z;refine zs Z (p_nilCheck rfl) ?_;clear Z a;intro a Z;refine go 3 Z I ?_;clear Z a;intro a Z;refine zs Z (p_arith (z:=((rd.pos+k:Nat):Int)) rfl rfl (add_z (by omega) (by omega) (by omega))) ?_;clear Z a;intro a Z;refine zs Z (p_nilCheck rfl) ?_;clear Z a;intro a Z;refine zs Z (p_fieldAddr (m:=1) rfl fo_232_1 rfl) ?_;clear Z a;intro a Z;refine l_step rfl (f_store (l:= [_,_,_]) (ss':=_::_) 0 Z I rfl rfl rfl rfl rfl sz_3 (by simp [Value.cells,Value.oneCell']) rfl rfl rfl ?_);clear I w;intro w I;refine go 6 Z I ?_;clear Z a;intro a Z;refine rt1 Z ?_;refine ⟨D,_,Le.refl _,I, ?_, ?_⟩
  ·simp only [Rd.num,if_neg (show¬rd.err≠ .none by rw [hx1];simp),hn];rw [if_neg (by omega)];try rfl
  simp only [Rd.num,if_neg (show¬rd.err≠ .none by rw [hx1];simp),hn];rw [if_neg (by omega)];exact ⟨_,_,rfl,hb,he,⟨by show rd.pos+k<=rd.bs.length;omega,hok.most⟩⟩
 refine go 8 Z I ?_;clear Z a;intro a Z;refine rt1 Z ?_;refine ⟨D,_,Le.refl _,I, ?_, ?_⟩
 ·simp only [Rd.num,if_pos hx1]
 simp only [Rd.num,if_pos hx1];exact ⟨_,_,rfl,hb,he,hok⟩
theorem Bool_spec {w0 w:World} {D:Sto} {ss:List Seg} {s:Seg} {ad:Nat->Addr} {b:Nat} {rd:Rd} (I:Inv w0 D (s::ss) w) (hR:RdSeg D ad b rd s) (g101:GlobIs D 10 (errV ad 101)) (g103:GlobIs D 8 (errV ad 103)) (g105:GlobIs D 0 (errV ad 105)) :
  Calls Tryz.prog 123 #[.pointer (some ⟨b,0,none⟩)] w (Ret fun r w'=> ∃D' s',Le D D'/\Inv w0 D' (s'::ss) w'/\r= .bool (decide ((rd.num 0 1).1=1))/\RdSeg D' ad b (rd.num 0 1).2 s'):=by
 refine enter (N:=6) Tryz.func123 rfl rfl rfl ?_;intro a Z;refine go 5 Z I ?_;clear Z a;intro a Z;refine l_step rfl (o_call Z rfl rfl rfl rfl ent_122 (Num_spec I hR g101 g103 g105 0 1) ?_);clear I Z a;rintro r w ⟨D1,s3,hD2,I,rfl,hR4⟩ a Z;refine cmx Z ?_ ?_
 ·intro hq;replace hq:=eql_t hq;clear Z a;intro a Z;refine go 3 Z I ?_;clear Z a;intro a Z;refine rt1 Z ?_;refine ⟨_,_,hD2,I, ?_,hR4⟩;simp [hq]
 intro hq;replace hq:=eql_f hq;clear Z a;intro a Z;refine go 3 Z I ?_;clear Z a;intro a Z;refine rt1 Z ?_;refine ⟨_,_,hD2,I, ?_,hR4⟩;simp [hq]
end Go.Proofs.YtefaghnlmmgpcaaGreatDoor.B
