/- A program logic over the model: what is owned, what is written no more, and one lemma for each kind of step. -/
import Derived.Test.YtikllmoofngjnaaGreatDoorTWire
import Derived.Test.YtikllmoofngjnaaGreatDoorTFacts
import Derived.Test.YtikllmoofngjnaaGreatDoorTSee
import Derived.Test.YtikllmoofngjnaaGreatDoorSLogB
import Derived.Test.YtikllmoofngjnaaGreatDoorSLaid
import Derived.Deep.Slices
namespace Go.Proofs.YtikllmoofngjnaaGreatDoor.B
open Go Go.Proofs
set_option linter.unusedVariables false
set_option linter.unusedSimpArgs false
set_option maxRecDepth 20000
set_option maxHeartbeats 8000000
theorem getN_64 {l:List Nat} {z k:Nat} (hl: ∀x∈l,x<256) {p:Nat} (h:getN (l.drop p) 0 0= .inr (z,k)):z<18446744073709551616:=by obtain ⟨z1,rest,h1,_,_,_,h5⟩:=getN_inv _ 0 0 z k (fun x hx=>hl x (List.mem_of_mem_drop hx)) h (by omega);simp at h1 h5;omega
theorem Num_spec {w0 w:World} {D:Sto} {ss:List Seg} {s:Seg} {ad:Nat->Addr} {b:Nat} {rd:Rd} (I:Inv w0 D (s::ss) w) (hR:RdSeg D ad b rd s) (g101:GlobIs D 9 (errV ad 101)) (g103:GlobIs D 4 (errV ad 103)) (g105:GlobIs D 0 (errV ad 105)) (low high:Int) :
  Calls Tryz.prog 150 #[.pointer (some ⟨b,0,none⟩), .int .i64 low, .int .i64 high] w (Ret fun r w'=> ∃D' s',Le D D'/\Inv w0 D' (s'::ss) w'/\r= .int .i64 (rd.num low high).1/\RdSeg D' ad b (rd.num low high).2 s'):=by
 obtain ⟨vb,ve,rfl,hb,he,hok⟩:=hR;obtain ⟨Ab,cb,rfl,_⟩:=hb.slice;have hle:=hok.le;have hmost:=hok.most;refine enter (N:=48) Tryz.func150 rfl rfl rfl ?_;intro a Z;refine go 6 Z I ?_;clear Z a;intro a Z;refine zs Z (p_nilCheck rfl) ?_;clear Z a;intro a Z;refine go 2 Z I ?_;clear Z a;intro a Z;rcases (he).two with ⟨rfl,hx1⟩|⟨t_2,u_3,rfl,hx1⟩
 ·refine go 7 Z I ?_;clear Z a;intro a Z;refine l_step rfl (o_call Z rfl rfl rfl rfl ent_192 (number_spec I ⟨_,_,rfl,hb,he,hok⟩ g101 g103) ?_);clear I Z a;rintro r w h a Z;rcases h with ⟨e,hn,rfl,I⟩|⟨z,k,hn,rfl,I⟩
  ·refine go 35 Z I ?_;clear Z a;intro a Z;refine l_step rfl (o_call Z rfl rfl rfl rfl ent_193 (fail_spec I ⟨_,_,rfl,hb,he,hok⟩ e) ?_);clear I Z a;rintro r w ⟨rfl,D4,s1,hD5,I,hR1⟩ a Z;refine go 6 Z I ?_;clear Z a;intro a Z;refine rt1 Z ?_;refine ⟨_,s1,hD5,I, ?_, ?_⟩
   ·simp only [Rd.num,if_neg (show¬rd.err≠ .none by rw [hx1];simp),hn]
    try (first|rfl|(rw [if_pos (by omega)];try rfl))
   simp only [Rd.num,if_neg (show¬rd.err≠ .none by rw [hx1];simp),hn]
   first|exact hR1|(rw [if_pos (by omega)];exact hR1)
  have hk:=getN_end _ _ _ _ _ hn;simp at hk;have hz:=getN_64 hb.lt hn;refine go 15 Z I ?_;clear Z a;intro a Z;refine cgx Z ?_ ?_
  ·intro h1;replace h1:=lss_t h1;clear Z a;intro a Z;refine go 9 Z I ?_;clear Z a;intro a Z;obtain ⟨T_6,fr_6,hg_6⟩:=g105;refine zl Z (f_load rfl scal_45 (I.data _ _ (hg_6)) rfl) ?_;clear Z a;intro a Z;refine go 11 Z I ?_;clear Z a;intro a Z;refine l_step rfl (o_call Z rfl rfl rfl rfl ent_193 (fail_spec I ⟨_,_,rfl,hb,he,hok⟩ 105) ?_);clear I Z a;rintro r w ⟨rfl,D7,s1,hD8,I,hR1⟩ a Z;refine go 6 Z I ?_;clear Z a;intro a Z;refine rt1 Z ?_;refine ⟨_,s1,hD8,I, ?_, ?_⟩
   ·simp only [Rd.num,if_neg (show¬rd.err≠ .none by rw [hx1];simp),hn]
    try (first|rfl|(rw [if_pos (by omega)];try rfl))
   simp only [Rd.num,if_neg (show¬rd.err≠ .none by rw [hx1];simp),hn]
   first|exact hR1|(rw [if_pos (by omega)];exact hR1)
  intro h1;replace h1:=lss_f h1;clear Z a;intro a Z;refine go 3 Z I ?_;clear Z a;intro a Z;refine cgx Z ?_ ?_
  ·intro h2;replace h2:=gtr_t h2;clear Z a;intro a Z;refine go 5 Z I ?_;clear Z a;intro a Z;obtain ⟨T_9,fr_9,hg_9⟩:=g105;refine zl Z (f_load rfl scal_45 (I.data _ _ (hg_9)) rfl) ?_;clear Z a;intro a Z;refine go 11 Z I ?_;clear Z a;intro a Z;refine l_step rfl (o_call Z rfl rfl rfl rfl ent_193 (fail_spec I ⟨_,_,rfl,hb,he,hok⟩ 105) ?_);clear I Z a;rintro r w ⟨rfl,D10,s1,hD11,I,hR1⟩ a Z;refine go 6 Z I ?_;clear Z a;intro a Z;refine rt1 Z ?_;refine ⟨_,s1,hD11,I, ?_, ?_⟩
   ·simp only [Rd.num,if_neg (show¬rd.err≠ .none by rw [hx1];simp),hn]
    try (first|rfl|(rw [if_pos (by omega)];try rfl))
   simp only [Rd.num,if_neg (show¬rd.err≠ .none by rw [hx1];simp),hn]
   first|exact hR1|(rw [if_pos (by omega)];exact hR1)
  intro h2;replace h2:=gtr_f h2;clear Z a;intro a Z;refine go 16 Z I ?_;clear Z a;intro a Z;refine zs Z (p_nilCheck rfl) ?_;clear Z a;intro a Z;refine go 3 Z I ?_;clear Z a;intro a Z;refine zs Z (p_arith (z:=((rd.pos+k:Nat):Int)) rfl rfl (add_z (by omega) (by omega) (by omega))) ?_;clear Z a;intro a Z;refine zs Z (p_nilCheck rfl) ?_;clear Z a;intro a Z;refine zs Z (p_fieldAddr (m:=1) rfl fo_252_1 rfl) ?_;clear Z a;intro a Z;refine l_step rfl (f_store (l:= [_,_,_]) (ss':=_::_) 0 Z I rfl rfl rfl rfl rfl sz_3 (by simp [Value.cells,Value.oneCell']) rfl rfl rfl ?_);clear I w;intro w I;refine go 6 Z I ?_;clear Z a;intro a Z;refine rt1 Z ?_;refine ⟨D,_,Le.refl _,I, ?_, ?_⟩
  ·simp only [Rd.num,if_neg (show¬rd.err≠ .none by rw [hx1];simp),hn];rw [if_neg (by omega)];try rfl
  simp only [Rd.num,if_neg (show¬rd.err≠ .none by rw [hx1];simp),hn];rw [if_neg (by omega)];exact ⟨_,_,rfl,hb,he,⟨by show rd.pos+k<=rd.bs.length;omega,hok.most⟩⟩
 refine go 8 Z I ?_;clear Z a;intro a Z;refine rt1 Z ?_;refine ⟨D,_,Le.refl _,I, ?_, ?_⟩
 ·simp only [Rd.num,if_pos hx1]
 simp only [Rd.num,if_pos hx1];exact ⟨_,_,rfl,hb,he,hok⟩
theorem Bool_spec {w0 w:World} {D:Sto} {ss:List Seg} {s:Seg} {ad:Nat->Addr} {b:Nat} {rd:Rd} (I:Inv w0 D (s::ss) w) (hR:RdSeg D ad b rd s) (g101:GlobIs D 9 (errV ad 101)) (g103:GlobIs D 4 (errV ad 103)) (g105:GlobIs D 0 (errV ad 105)) :
  Calls Tryz.prog 151 #[.pointer (some ⟨b,0,none⟩)] w (Ret fun r w'=> ∃D' s',Le D D'/\Inv w0 D' (s'::ss) w'/\r= .bool (decide ((rd.num 0 1).1=1))/\RdSeg D' ad b (rd.num 0 1).2 s'):=by
 refine enter (N:=6) Tryz.func151 rfl rfl rfl ?_;intro a Z;refine go 5 Z I ?_;clear Z a;intro a Z;refine l_step rfl (o_call Z rfl rfl rfl rfl ent_150 (Num_spec I hR g101 g103 g105 0 1) ?_);clear I Z a;rintro r w ⟨D1,s3,hD2,I,rfl,hR4⟩ a Z;refine cmx Z ?_ ?_
 ·intro hq;replace hq:=eql_t hq;clear Z a;intro a Z;refine go 3 Z I ?_;clear Z a;intro a Z;refine rt1 Z ?_;refine ⟨_,_,hD2,I, ?_,hR4⟩;simp [hq]
 intro hq;replace hq:=eql_f hq;clear Z a;intro a Z;refine go 3 Z I ?_;clear Z a;intro a Z;refine rt1 Z ?_;refine ⟨_,_,hD2,I, ?_,hR4⟩;simp [hq]
open Go
def hadZ (b:Bool):Int:=if b then 1 else 0
def Rd.rem (r:Rd):List Nat:=r.bs.drop r.pos
theorem rem_len (r:Rd):r.rem.length=r.bs.length - r.pos:=by simp [Rd.rem]
theorem num_put {r:Rd} {m low high:Int} {rest:List Nat} (he:r.err= .none) (hr:r.rem=putZ m++rest) (h0:low<=m) (h1:m<=high) (h2: -9223372036854775808<=m) (h3:m<=9223372036854775807) :
  r.num low high=(m,{r with pos:=r.pos+(putZ m).length}):=by
 unfold Rd.num;rw [if_neg (by rw [he];simp)];have hg:=getN_put (zig m) 0 0 rest (by have:=zig_lt h2 h3;simp;omega) (by omega) (by omega);have hr':r.bs.drop r.pos=putN (zig m)++rest:=hr;rw [hr',hg];simp only [Nat.mul_zero,Nat.pow_zero,Nat.mul_one,Nat.zero_add,unzig_zig];rw [if_neg (by omega)];rfl
theorem rem_step {r:Rd} {xs rest:List Nat} (hr:r.rem=xs++rest):({r with pos:=r.pos+xs.length}:Rd).rem=rest:=by simp only [Rd.rem] at hr ⊢;rw [<-List.drop_drop,hr,List.drop_left]
theorem hadZ_one (b:Bool):decide (hadZ b=1)=b:=by cases b<;>rfl
theorem OB.data {w0 w:World} {D:Sto} {ss:List Seg} {r:Value} {bs:List Nat} (h: ∃s,OB r bs s/\Inv w0 D (s::ss) w) (hb: ∀x∈bs,x<256): ∃D',Le D D'/\Inv w0 D' ss w/\RB D' r bs:=by obtain ⟨s,h1,I⟩:=h;exact ⟨_,I.le_shut,I.shut,Row.shut_bytes h1 hb⟩
theorem Ret.imp {R R':Value->World->Prop} {e:Ending} {w:World} (h:Ret R e w) (hi: ∀r w,R r w->R' r w):Ret R' e w:=by obtain ⟨r,he,hr⟩:=h;exact ⟨r,he,hi _ _ hr⟩
theorem Clone_data {w0 w:World} {D:Sto} {ss:List Seg} (I:Inv w0 D ss w) {vb:Value} {bs:List Nat} (hb:RB D vb bs) (hm:bs.length<=140737488355328) :
  Calls Tryz.prog 103 #[vb] w (Ret fun r w'=> ∃D',Le D D'/\Inv w0 D' ss w'/\RB D' r bs):=
 (Clone_spec I hb hm).mono fun _ _ h=>h.imp fun _ _ h=>OB.data h hb.lt
theorem Put_data {w0 w:World} {D:Sto} {ss:List Seg} (I:Inv w0 D ss w) {vb:Value} {bs:List Nat} {m:Int} (hb:RB D vb bs) (hm:bs.length<=140737488355000) (h0: -9223372036854775808<=m) (h1:m<=9223372036854775807) :
  Calls Tryz.prog 160 #[vb, .int .i64 m] w (Ret fun r w'=> ∃D',Le D D'/\Inv w0 D' ss w'/\RB D' r (bs++putZ m)):=
 (Put_spec I hb hm h0 h1).mono fun _ _ h=>h.imp fun _ _ h=>OB.data h (fun x hx=>by rcases List.mem_append.1 hx with h|h;exact hb.lt x h;exact putZ_lt _ x h)
theorem PutBytes_data {w0 w:World} {D:Sto} {ss:List Seg} (I:Inv w0 D ss w) {vb vx:Value} {bs xs:List Nat} (hb:RB D vb bs) (hx:RB D vx xs) (hm:bs.length+xs.length<=140737488355000) :
  Calls Tryz.prog 199 #[vb,vx] w (Ret fun r w'=> ∃D',Le D D'/\Inv w0 D' ss w'/\RB D' r (bs++putZ (xs.length:Nat)++xs)):=
 (PutBytes_spec I hb hx hm).mono fun _ _ h=>h.imp fun _ _ h=>OB.data h (fun x hx'=>by
  simp only [List.mem_append] at hx';rcases hx' with (h|h)|h
  ·exact hb.lt x h
  ·exact putZ_lt _ x h
  exact hx.lt x h)
theorem Number_spec {w0 w:World} {D:Sto} {ss:List Seg} (I:Inv w0 D ss w) (n:Int) {m:Int} (hb:0<m) (hm:m<=4611686018427387904) :
  Calls Tryz.prog 9 #[.int .i64 n, .int .i64 m] w (Ret fun r w'=>(∃z,r= .int .i64 z/\0<=z/\z<m)/\Inv w0 D ss w'):=by
 refine enter (N:=15) Tryz.func9 rfl rfl rfl ?_;intro a Z;refine go 6 Z I ?_;clear Z a;intro a Z;refine zs Z (p_arith (z:=_) rfl rfl (rem_z rfl (by omega))) ?_;clear Z a;intro a Z;refine go 2 Z I ?_;clear Z a;intro a Z;refine wp_seq ?_;refine wp_seq ?_;have hr1:=Int.tmod_lt_of_pos n hb;have hr2:=Int.lt_tmod_of_pos n hb;generalize n.tmod m=r at Z hr1 hr2;refine go 2 Z I ?_;clear Z a;intro a Z;refine cmx Z ?_ ?_
 ·intro hneg;replace hneg:=lss_t hneg;clear Z a;intro a Z;refine go 5 Z I ?_;clear Z a;intro a Z;refine zs Z (p_arith (z:=_) rfl rfl (add_z rfl (by omega) (by omega))) ?_;clear Z a;intro a Z;refine go 7 Z I ?_;clear Z a;intro a Z;refine rt1 Z ?_;exact ⟨⟨_,rfl,by omega,by omega⟩,I⟩
 intro hneg;replace hneg:=lss_f hneg;clear Z a;intro a Z;refine go 9 Z I ?_;clear Z a;intro a Z;refine rt1 Z ?_;exact ⟨⟨_,rfl,by omega,by omega⟩,I⟩
def EOk (e:Bs×Bs):Prop:=e.1.length<=100000/\e.2.length<=100000
structure POk (p:Pg):Prop where
 l0: -4611686018427387904<=p.lsn
 l1:p.lsn<=4611686018427387904
 v0:0<=p.level
 v1:p.level<=16
 n0: -1<=p.next
 n1:p.next<=4611686018427387904
 len:p.ents.length<=8
 ents: ∀e∈p.ents,EOk e
structure ROk (r:Rc):Prop where
 l0: -4611686018427387904<=r.lsn
 l1:r.lsn<=4611686018427387904
 s0:0<=r.slot
 s1:r.slot<=4611686018427387904
 k:r.key.length<=100000
 v:r.val.length<=100000
def EnR (D:Sto) (vs:List Value) (e:Bs×Bs):Prop:= ∃k v,vs= [k,v]/\RB D k e.1/\RB D v e.2/\EOk e
theorem EnR.keeps:Keeps EnR:=fun D D' vs x hD ⟨k,v,h1,h2,h3,h4⟩=>⟨k,v,h1,h2.mono hD,h3.mono hD,h4⟩
abbrev EnD (D:Sto) (v:Value) (es:Ens):Prop:=DR 2 EnR D v es
def pgCells (p:Pg) (e:Value):List Value:= [.int .i64 p.id, .int .i64 p.lsn, .int .i64 p.level, .int .i64 p.next,e]
def PgV (D:Sto) (v:Value) (p:Pg):Prop:= ∃e,v= .agg (pgCells p e).toArray/\EnD D e p.ents/\POk p
def rcCells (r:Rc) (k v:Value):List Value:= [.int .i64 r.lsn, .int .i64 r.back, .int .i64 r.epoch, .int .i64 r.group, .int .i64 r.page, .int .i64 r.kind, .int .i64 r.slot,k,v, .bool r.last]
def RcR (D:Sto) (vs:List Value) (r:Rc):Prop:= ∃k v,vs=rcCells r k v/\RB D k r.key/\RB D v r.val/\ROk r
theorem RcR.keeps:Keeps RcR:=fun D D' vs x hD ⟨k,v,h1,h2,h3,h4⟩=>⟨k,v,h1,h2.mono hD,h3.mono hD,h4⟩
def RcV (D:Sto) (v:Value) (r:Rc):Prop:= ∃k u,v= .agg (rcCells r k u).toArray/\RB D k r.key/\RB D u r.val/\ROk r
open Go Go.Deep Go.ChangeShapes Go.WideShapes Go.ChangeAt Go.RowKit
def IntR (D:Sto) (vs:List Value) (x:Int):Prop:=vs= [.int .i64 x]
theorem IntR.keeps:Keeps IntR:=fun _ _ _ _ _ h=>h
section
variable {H:Type} {enc:TypeId×Value->H} {P:Program} {W:World}
theorem open_intsT {base:Nat} {spare:Nat->Bool} {held:Bool} {fuel:Nat} {t e:TypeId} {v:Value} {y:DataW H×List MemPlace} (ht:P.underlying t=some (.slice e)) (he:P.underlying e=some (.int .i64)) (ce:P.cellsOf e=1)
    (hf:DataW.trod enc P W base spare held fuel t [v]=some y): ∃l:List Int,DR 1 IntR (fun b=>W.heap[b]?) v l/\l.length<=maxLen:=by
  rcases open_slice1 ht ce hf with ⟨hcs,_⟩|⟨x,len,cap,m,n,V,D,Pl,hcs,_,hl,hm,hmm,_,hel⟩
  ·obtain rfl:v= .slice none 0 0:=by simpa using hcs
   exact ⟨[],DR.nil 1 IntR _,by simp [maxLen]⟩
  ·obtain rfl:v= .slice (some x) len cap:=by simpa using hcs
   have hlm:len<=m:=by rw [hmm];split<;>omega
   obtain ⟨f,hfv⟩: ∃f:Nat->Int,∀i,i<m->V i= .int .i64 (f i):=by
     have hz: ∀i,i<m-> ∃z:Int,V i= .int .i64 z:=fun i h=>by
       obtain ⟨z,hz,_⟩:=DataW.trod_int he (hel i h).2;exact ⟨z,by simpa using hz⟩
     refine ⟨fun i=>if h:i<m then (hz i h).choose else 0,fun i h=> ?_⟩;simp only [dif_pos h];exact (hz i h).choose_spec
   have hln:((List.range len).map f).length=len:=by simp
   refine ⟨(List.range len).map f,⟨some x,cap,by rw [hln],by rw [hln];exact hl,by simp,fun hne=> ?_⟩,by rw [hln];omega⟩;have hlen:0<len:=by
     rcases Nat.eq_zero_or_pos len with h0|h0
     ·subst h0;simp at hne
     ·exact h0
   have h0:=(hel 0 (by omega)).1;obtain ⟨b,off,sp⟩:=x;have hsp:sp=none:=by
     cases sp with
     |none=>rfl
     |some z=>
       simp only [World.cell?,Addr.add] at h0;split at h0<;>simp at h0
   subst hsp;rw [add_plain] at h0;simp only [World.cell?,Nat.add_zero] at h0;split at h0
   ·rename_i cs T fr hb;refine ⟨b,off,cs,T,fr,rfl,hb,fun i y hy=> ?_⟩;have hi:i<len:=by
      have:=(List.getElem?_eq_some_iff.1 hy).1;rw [hln] at this;exact this
    have hyf:y=f i:=by rw [List.getElem?_map,List.getElem?_range hi] at hy;simpa using hy.symm
    subst hyf;have h1:=(hel i (by omega)).1;rw [add_plain] at h1;simp only [World.cell?] at h1;rw [hb] at h1;have h2:cs[off+i]? =some (V i):=by simpa using h1
    refine ⟨[V i],rfl,by rw [hfv i (by omega)];rfl,fun j u hj=> ?_⟩;cases j with
    |zero=>simp at hj;subst hj;simpa using h2
    |succ j=>simp at hj
   ·cases h0
theorem open_ints {b0 base:Nat} {spare:Nat->Bool} {held:Bool} {t e:TypeId} {v:Value} {d:DataW H} {ps:List MemPlace} (ht:P.underlying t=some (.slice e)) (he:P.underlying e=some (.int .i64)) (ce:P.cellsOf e=1)
    (hv:Value.okWide P W .any b0 t v) (h:DataW.Trod enc P W base spare held t v d ps): ∃l:List Int,DR 1 IntR (fun b=>W.heap[b]?) v l/\l.length<=maxLen:=by
  obtain ⟨a,len,cap,rfl⟩:=okWide_slice ht hv;obtain ⟨fuel,hf⟩:=h;exact open_intsT ht he ce hf
end
end Go.Proofs.YtikllmoofngjnaaGreatDoor.B
