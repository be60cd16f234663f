/- What functions of the program compute, each function once: steps over the model, and the plain law of it. -/
import Derived.Test.YtefaghnlmmgpcaaGreatDoorTSeg7
import Derived.Test.YtefaghnlmmgpcaaGreatDoorSInts
import Derived.Test.YtefaghnlmmgpcaaGreatDoorTFacts
namespace Go.Proofs.YtefaghnlmmgpcaaGreatDoor.B
open Go Go.Proofs
set_option linter.unusedVariables false
set_option linter.unusedSimpArgs false
set_option maxRecDepth 20000
set_option maxHeartbeats 8000000
def bools (fs:List Bool):Array Value:=(fs.map Value.bool).toArray
theorem made22:madeCells (Value.bool false).cells (Int.toNat 22*1)=bools (List.replicate 22 false):=by kernel_rfl
theorem bools_set (fs:List Bool) (k:Nat) (b:Bool) (hk:k<fs.length):splice (bools fs) k [.bool b]=bools (fs.set k b):=by show (bools fs).setIfInBounds k (.bool b)=bools (fs.set k b);unfold bools;rw [List.setIfInBounds_toArray,List.map_set]
theorem bools_at {fs:List Bool} {k:Nat} {b:Bool} (h:fs[k]? =some b):(bools fs)[k]? =some (.bool b):=by unfold bools;rw [List.getElem?_toArray,List.getElem?_map,h];rfl
def yes (fs:List Bool) (k:Nat):Prop:=fs[k]? =some true
structure AckI (L:Lg) (fs:List Bool) (i:Nat):Prop where
 good:L.Good
 blocks:L.d.blocks=4096
 s:L.s={inc:=1,whole:=true}
 gr:L.h.group=2
 spans:L.h.spans= []
 rises:RisesR L.h.l
 known:L.h.KnownOk
 len:L.h.l.length<=i
 calls:L.calls<=1+i
 flen:fs.length=22
 low: ∀k,yes fs k->1<=k/\k<=20
 mem: ∀r,r∈L.h.l↔ ∃k:Nat,yes fs k/\r=wRec 2 0 k
theorem yes_set {fs:List Bool} {k j:Nat} (hk:k<fs.length):yes (fs.set k true) j↔j=k\/yes fs j:=by
 unfold yes;by_cases e:k=j
 ·subst e;rw [List.getElem?_set_self hk];simp
 rw [List.getElem?_set_ne e];constructor
 ·exact .inr
 rintro (h|h)
 ·exact absurd h.symm e
 exact h
theorem AckI.start:AckI (bornS (Dk.new 4096) 2 1 true) (List.replicate 22 false) 0:=by
 refine ⟨bornS_good (Dk.Fresh.new (by decide) (by decide)) 2 1 true,rfl,rfl,rfl,rfl,List.Pairwise.nil,(fun h=>by cases h),Nat.le_refl _,by decide,rfl,fun k h=> ?_,fun r=> ?_⟩
 ·unfold yes at h;rw [List.getElem?_replicate] at h;split at h<;>simp at h
 constructor
 ·intro h;cases h
 rintro ⟨k,h,_⟩;unfold yes at h;rw [List.getElem?_replicate] at h;split at h<;>simp at h
theorem AckI.has {L:Lg} {fs:List Bool} {i:Nat} (h:AckI L fs i) {k:Nat}:hasR L.h.l k=true↔yes fs k:=by
 unfold hasR;rw [List.any_eq_true];constructor
 ·rintro ⟨r,hr,he⟩;obtain ⟨j,hj,rfl⟩:=(h.mem r).1 hr;have:(j:Int)=k:=of_decide_eq_true he;have:j=k:=by omega
  subst this;exact hj
 intro hk;exact ⟨_,(h.mem _).2 ⟨k,hk,rfl⟩,decide_eq_true rfl⟩
theorem AckI.fits {L:Lg} {fs:List Bool} {i k:Nat} (h:AckI L fs i) (hi:i<=60) (h1:1<=k) (h2:k<=20):L.h.FitsAll [wRec 2 0 k]:=
 ⟨⟨wRec_valid (by omega) (by omega) (by decide) (by decide) (by decide) (by decide),h.gr.symm,by have:=h.len;omega,h.rises,fun x hx he=>by
  obtain ⟨j,hj,rfl⟩:=(h.mem x).1 hx;have:(j:Int)=k:=he;rw [this]⟩,trivial⟩
theorem AckI.dead {L:Lg} {fs:List Bool} {i:Nat} (h:AckI L fs i) (n e:Int):deadS L.h.spans n e=false:=by rw [h.spans];rfl
theorem AckI.lsn {L:Lg} {fs:List Bool} {i:Nat} (h:AckI L fs i): ∀r∈L.h.l,r.lsn=r.back+1:=fun r hr=>by
 obtain ⟨j,_,rfl⟩:=(h.mem r).1 hr;show (j:Int)=(j:Int) - 1+1;omega
theorem AckI.step {L:Lg} {fs:List Bool} {i k:Nat} (h:AckI L fs i) (hi:i<=60) (h1:1<=k) (h2:k<=20) {L2:Lg} (e:L2=L.addRecs [wRec 2 0 k]):AckI L2 (fs.set k true) (i+1):=by
 subst e;have hf:=h.fits hi h1 h2;have hkl:k<fs.length:=by rw [h.flen];omega
 have hlow: ∀j,yes (fs.set k true) j->1<=j/\j<=20:=fun j hj=>by
  rcases (yes_set hkl).1 hj with rfl|hj
  ·exact ⟨h1,h2⟩
  exact h.low j hj
 by_cases hy:yes fs k
 ·have hh:hasR L.h.l (wRec 2 0 k).lsn=true:=h.has.2 hy;obtain ⟨n1,n2⟩:=Ht.add_there (h:=L.h) (r:=wRec 2 0 k) hh;have hn:L.h.news [wRec 2 0 k]= []:=by rw [Ht.news,n1];rfl
  have hL:L.addRecs [wRec 2 0 k]=L:=by rw [Lg.addRecs,if_pos hn]
  rw [hL];refine ⟨h.good,h.blocks,h.s,h.gr,h.spans,h.rises,h.known,by have:=h.len;omega,by have:=h.calls;omega,by rw [List.length_set];exact h.flen,hlow,fun r=> ?_⟩;rw [h.mem r];constructor
  ·rintro ⟨j,hj,e⟩;exact ⟨j,(yes_set hkl).2 (.inr hj),e⟩
  rintro ⟨j,hj,e⟩;rcases (yes_set hkl).1 hj with rfl|hj
  ·exact ⟨j,hy,e⟩
  exact ⟨j,hj,e⟩
 have hh:hasR L.h.l (wRec 2 0 k).lsn=false:=by rw [<-Bool.not_eq_true];exact fun q=>hy (h.has.1 q)
 obtain ⟨n1,n2⟩:=Ht.add_new (h:=L.h) (r:=wRec 2 0 k) (h.dead _ _) hh;have hn:L.h.news [wRec 2 0 k]= [wRec 2 0 k]:=by rw [Ht.news,n1];rfl
 have hL:L.addRecs [wRec 2 0 k]=L.laid {kind:=0,recs:= [wRec 2 0 k]} L.s (L.h.add (wRec 2 0 k)):=by rw [Lg.addRecs,if_neg (by rw [hn];simp),hn];rfl
 rw [hL,n2];have hlen:=h.len;have hcal:=h.calls;have hne: ∀x∈L.h.l,x.lsn≠(wRec 2 0 k).lsn:=fun x hx he=>by
  obtain ⟨j,hj,rfl⟩:=(h.mem x).1 hx;have:(j:Int)=k:=he;have:j=k:=by omega
  subst this;exact hy hj
 refine ⟨h.good.laid (by omega) ⟨h.good.spans.1,h.good.spans.2⟩ (by show (putR L.h.l _).length<=_;rw [putR_len];omega),h.blocks,h.s,h.gr,h.spans,putR_rises h.rises hne,(fun q=>by cases q),by show (putR L.h.l _).length<=_;rw [putR_len];omega,by show L.calls+1<=_;omega,by rw [List.length_set];exact h.flen,hlow,fun r=> ?_⟩;show r∈putR L.h.l (wRec 2 0 k)↔_;rw [putR_mem,h.mem r];constructor
 ·rintro (rfl|⟨j,hj,e⟩)
  ·exact ⟨k,(yes_set hkl).2 (.inl rfl),rfl⟩
  exact ⟨j,(yes_set hkl).2 (.inr hj),e⟩
 rintro ⟨j,hj,e⟩;rcases (yes_set hkl).1 hj with rfl|hj
 ·exact .inl e
 exact .inr ⟨j,hj,e⟩
theorem AckI.scl {L:Lg} {fs:List Bool} {i:Nat} (h:AckI L fs i) {z:Int} (hz:ChainR L.h.l 0 z):AckI (L.scl z) fs i:=
 ⟨⟨h.good.pe,h.good.top,h.good.blocks,h.good.dc,h.good.calls,h.good.fin,h.good.spans,h.good.recs⟩,h.blocks,h.s,h.gr,h.spans,h.rises,fun _=>hz,h.len,h.calls,h.flen,h.low,h.mem⟩
theorem rises_backs {l:List Rc} (hs:RisesR l) (hb: ∀r∈l,r.lsn=r.back+1):BacksR l:=fun i j x y hx hy e=>by
 obtain ⟨h1,e1⟩:=List.getElem?_eq_some_iff.1 hx;obtain ⟨h2,e2⟩:=List.getElem?_eq_some_iff.1 hy;have b1:=hb x (List.mem_of_getElem? hx);have b2:=hb y (List.mem_of_getElem? hy);rcases Nat.lt_trichotomy i j with q|q|q
 ·have:=List.pairwise_iff_getElem.1 hs i j h1 h2 q;rw [e1,e2] at this;omega
 ·exact q
 have:=List.pairwise_iff_getElem.1 hs j i h2 h1 q;rw [e1,e2] at this;omega
theorem AckI.fine {L:Lg} {fs:List Bool} {i:Nat} (h:AckI L fs i) (hi:i<=61):L.h.Fine:=
 ⟨by have:=h.len;omega,rises_backs h.rises h.lsn,fun r hr=>by have:=h.lsn r hr;omega,h.known⟩
structure Far (fs:List Bool) (n:Nat):Prop where
 below: ∀k,1<=k->k<=n->yes fs k
theorem Far.snoc {fs:List Bool} {n:Nat} (h:Far fs n) (hy:yes fs (n+1)):Far fs (n+1):=⟨fun k h1 h2=>by
 rcases Nat.lt_or_eq_of_le h2 with q|q
 ·exact h.below k h1 (by omega)
 rw [q];exact hy⟩
theorem AckI.chain {L:Lg} {fs:List Bool} {i n:Nat} (h:AckI L fs i) (hf:Far fs n) (hn: ¬yes fs (n+1)) {u:Int} (hu:ChainR L.h.l 0 u):u=n:=
 chain_upto h.lsn hu n (by omega) (fun k h1 h2=>by
  obtain ⟨j,rfl⟩: ∃j:Nat,k=j:=⟨k.toNat,by omega⟩;exact ⟨_,(h.mem _).2 ⟨j,hf.below j (by omega) (by omega),rfl⟩,rfl⟩) fun r hr e=>by
  obtain ⟨j,hj,rfl⟩:=(h.mem r).1 hr;have:(j:Int)=n+1:=e;have:j=n+1:=by omega
  subst this;exact hn hj
theorem chain_to {l:List Rc} (hb: ∀r∈l,r.lsn=r.back+1) {n:Int} (hno: ∀r∈l,r.lsn≠n+1): ∀(d:Nat) (a:Int),a+d=n->(∀k,a<k->k<=n-> ∃r∈l,r.lsn=k)->ChainR l a n
 |0,a,e,_=>by
  obtain rfl:a=n:=by omega
  exact .stop a fun r hr q=>hno r hr (by have:=hb r hr;omega)
 |d+1,a,e,hk=>by
  obtain ⟨r,hr,q⟩:=hk (a+1) (by omega) (by omega);have hq:=hb r hr;obtain rfl:a=r.back:=by omega
  exact .next r hr (chain_to hb hno d r.lsn (by omega) fun k h1 h2=>hk k (by omega) h2)
def ackX (z:Int):Ms:={kind:=2,epoch:=0,inc:=1,lsn:=z}
theorem AckI.ans {L:Lg} {fs:List Bool} {i k:Nat} (h:AckI L fs i) (hi:i<=60) (h1:1<=k) (h2:k<=20) {n:Nat} (hf:Far (fs.set k true) n) (hn: ¬yes (fs.set k true) (n+1)) :
  AnsOk 4 2 L (wMsg 4 2 0 k) (ackX n) ((L.addRecs [wRec 2 0 k]).scl n):=by
 have hS:=h.step hi h1 h2 rfl;have hfn:=hS.fine (by omega);have hch:=fun {u:Int} (hu:ChainR (L.addRecs [wRec 2 0 k]).h.l 0 u)=>hS.chain hf hn hu;rw [Lg.addRecs_h] at hfn;have hok:=recs_ok (h:=L.h) (l:= [wRec 2 0 k]) (h.fits hi h1 h2) (by show 1<=16384;decide);have hp:ackX n={kind:=2,epoch:=(wMsg 4 2 0 k).epoch,inc:=L.s.inc,lsn:=(n:Int)}:=by rw [h.s];rfl
 rw [hp];exact @ansWrite 4 2 L (wMsg 4 2 0 k) n h.good rfl (by show 1<=16384;decide) (fun x hx=>by rw [List.mem_singleton.1 hx];rfl) (h.fits hi h1 h2)
  (Cl.b_len1 hok rfl (Ht.news_len _ _) (fun r hr=>by have:=Ht.news_mem hr;rw [List.mem_singleton.1 this];show 0<=40;decide))
  (fun _=>by rw [h.good.fin,h.blocks];have:=h.calls;omega) (by rw [h.s];rfl) (by rw [h.s];rfl) hfn (fun u hu=>hch (by rw [Lg.addRecs_h];exact hu))
theorem AckI.next {L:Lg} {fs:List Bool} {i k:Nat} (h:AckI L fs i) (hi:i<=60) (h1:1<=k) (h2:k<=20) {n:Nat} (hf:Far (fs.set k true) n) (hn: ¬yes (fs.set k true) (n+1)):AckI ((L.addRecs [wRec 2 0 k]).scl n) (fs.set k true) (i+1):=by
 have hS:=h.step hi h1 h2 rfl;exact hS.scl (chain_to hS.lsn (n:=n) (fun r hr e=>by
  obtain ⟨j,hj,rfl⟩:=(hS.mem r).1 hr;have:(j:Int)=n+1:=e;have:j=n+1:=by omega
  subst this;exact hn hj) n 0 (by omega) fun k h1 h2=>by
  obtain ⟨j,rfl⟩: ∃j:Nat,k=j:=⟨k.toNat,by omega⟩;exact ⟨_,(hS.mem _).2 ⟨j,hf.below j (by omega) (by omega),rfl⟩,rfl⟩)
theorem SegAcks_spec {w0 w:World} {D:Sto} {ss:List Seg} (I:Inv w0 D ss w) {ad:Nat->Addr} (hS:YSents D ad) {vl0:Value} {xs:List Int} (hl:DR 1 IntR D vl0 xs) :
  Calls Tryz.prog 5 #[vl0] w (Ret fun r w'=>r= .bool true/\ ∃D',Le D D'/\Inv w0 D' ss w'):=by
 obtain ⟨A1,c2,rfl,_⟩:=hl.slice;refine enter (N:=86) Tryz.func5 rfl rfl rfl ?_;intro a Z;refine go 4 Z I ?_;clear Z a;intro a Z;refine l_step rfl (o_call Z rfl rfl rfl rfl ent_8 (first13_spec I hS) ?_);clear I Z a;rintro r w ⟨D3,rfl,hD4,I⟩ a Z;refine go 5 Z I ?_;clear Z a;intro a Z;refine zs Z (p_not rfl) ?_;clear Z a;intro a Z;refine go 7 Z I ?_;clear Z a;intro a Z;refine zs Z (p_len rfl rfl Tryz.underlying60) ?_;clear Z a;intro a Z;refine cmx Z ?_ ?_
 ·intro hlen;replace hlen:=gtr_t hlen;clear Z a;intro a Z;refine go 12 Z I ?_;clear Z a;intro a Z;refine rt1 Z ?_;exact ⟨rfl,D3,hD4,I⟩
 intro hlen;replace hlen:=gtr_f hlen;clear Z a;intro a Z;refine go 2 Z I ?_;clear Z a;intro a Z;refine gs Z (p_not rfl) ?_;clear Z a;intro a Z;refine go 6 Z I ?_;clear Z a;intro a Z;refine l_step rfl (o_call Z rfl rfl rfl rfl ent_10 (born13_spec (id:=4) (gr:=2) (inc:=1) I (hS.mono hD4) (by decide) (by decide) (by decide) (by decide) (by decide) (by decide)) ?_);clear I Z a;rintro r w ⟨bs,vl,vt,vd,D5,sl,rfl,hD6,hL,I⟩ a Z;refine go 9 Z I ?_;clear Z a;intro a Z;refine zs Z (p_eq rfl rfl (g_none rfl) (e_ptrNil Tryz.underlying24 rfl) rfl rfl) ?_;clear Z a;intro a Z;refine gc 5 Z ?_;refine l_step rfl (f_make Z I rfl rfl rfl rfl rfl Tryz.underlying61 zsb_4 (by omega) (by omega) (by omega) (by omega) ?_);clear I Z a w;intro a b7 w Z I;refine go 7 Z I ?_;clear Z a;intro a Z;have hA0:=AckI.start;rw [made22] at I;replace I:Inv w0 D5 ([(b7, .cells (bools (List.replicate 22 false)) 4 (0,0))]::_) w:=I;refine c_loop (X:=Nat×Sto×Lg×List Bool×Seg) (fun x=> [(0,_),(4,_),(6,_),(7, .int .i64 (x.1:Nat))]) (fun x w=>x.1<=xs.length/\Le D5 x.2.1/\AckI x.2.2.1 x.2.2.2.1 x.1/\LgS x.2.1 vl vd x.2.2.1 x.2.2.2.2/\Inv w0 x.2.1 ([(b7, .cells (bools x.2.2.2.1) 4 (0,0))]:: [(bs, .cells #[.int .i64 4, .int .i64 2,vl,vt] 82 (0,0))]::x.2.2.2.2::ss) w) (fun x=>xs.length - x.1) (0,D5,_,_,_) (Z.pick [0,4,6,7]) ⟨Nat.zero_le _,Le.refl _,hA0,hL,I⟩ ?_;clear Z I a w;rintro ⟨i,D1,L1,fs,sl1⟩ a w Z ⟨hi,hD1,hA,hL1,I⟩;(try dsimp only at Z);(try dsimp only at hi);(try dsimp only at hD1);(try dsimp only at hA);(try dsimp only at hL1);(try dsimp only at I);have hfl:=hA.flen;refine go 4 Z I ?_;clear Z a;intro a Z;refine zs Z (p_len rfl rfl Tryz.underlying60) ?_;clear Z a;intro a Z;refine cmx Z ?_ ?_
 ·intro hlt;replace hlt:=lss_t hlt;clear Z a;intro a Z;refine go 9 Z I ?_;clear Z a;intro a Z;obtain ⟨x_8,hx_8⟩: ∃z9,(xs)[i]? =some z9:=⟨_,List.getElem?_eq_getElem (by omega)⟩;obtain ⟨b_8,o_8,cs_8,T_8,fr_8,rfl,hb_8,hat_8⟩:=hl.at_ (by intro h0;rw [h0] at hx_8;simp at hx_8);obtain ⟨vs_8,hl_8,hvs_8,hex_8,hsz_8,hce_8⟩:=hat_8.extract hx_8 (by omega);obtain rfl:vs_8= [.int .i64 x_8]:=hvs_8;refine zs Z (p_indexAddr (m:=o_8+i*1) rfl rfl Tryz.underlying60 sz_3 (by omega) (by omega) (by simp)) ?_;clear Z a;intro a Z;refine zl Z (r_load rfl scal_3 (I.data _ _ (((hD4.trans hD6).trans hD1) _ _ (hb_8))) (hce_8 0 _ rfl)) ?_;clear Z a;intro a Z;refine l_step rfl (o_call Z rfl rfl rfl rfl ent_9 (Number_spec I x_8 (m:=20) (by decide) (by decide)) ?_);clear I Z a;rintro r w ⟨⟨zk,rfl,hzk0,hzk1⟩,I⟩ a Z;obtain ⟨k0,rfl⟩: ∃q:Nat,zk=q:=⟨zk.toNat,by omega⟩;refine zs Z (p_arith (z:=((k0+1:Nat):Int)) rfl rfl (add_z (by omega) (by omega) (by omega))) ?_;clear Z a;intro a Z;refine go 5 Z I ?_;clear Z a;intro a Z;refine zs Z (p_indexAddr (m:=(k0+1)) rfl rfl Tryz.underlying61 sz_4 (by omega) (by omega) (by simp)) ?_;clear Z a;intro a Z;refine l_step rfl (o_store (cs':=bools (fs.set ((k0+1)) true)) (ss':=_::_) 0 Z I rfl rfl rfl rfl rfl sz_4 (by simp [Value.cells,Value.oneCell']) (Nat.ble_eq_true_of_le (by show (k0+1)+1<=(bools fs).size;simp only [bools,List.size_toArray,List.length_map,hfl];omega)) (bools_set _ _ _ (by rw [hfl];omega)) rfl ?_);clear I w;intro w I;have hfl2:(fs.set ((k0+1)) true).length=22:=by rw [List.length_set];exact hfl
  refine go 6 Z I ?_;clear Z a;intro a Z;have hlow9: ∀j,yes (fs.set ((k0+1)) true) j->j<=20:=fun j hj=>by
   rcases (yes_set (by rw [hfl];omega)).1 hj with rfl|hj
   ·omega
   exact (hA.low j hj).2
  refine c_loop (X:=Nat) (fun x=> [(0,_),(4,_),(6,_),(7,_),(8,_),(9, .int .i64 (x:Nat))]) (fun x w=>Far (fs.set ((k0+1)) true) x/\x<=20/\Inv w0 D1 (_::_::_::ss) w) (fun x=>21 - x) 0 (Z.pick [0,4,6,7,8,9]) ⟨⟨fun k h1 h2=>by omega⟩,by omega,I⟩ ?_;clear Z I a w;rintro n a w Z ⟨hfar,hn20,I⟩;(try dsimp only at Z);(try dsimp only at hfar);(try dsimp only at hn20);(try dsimp only at I);refine go 4 Z I ?_;clear Z a;intro a Z;refine zs Z (p_arith (z:=((n+1:Nat):Int)) rfl rfl (add_z (by omega) (by omega) (by omega))) ?_;clear Z a;intro a Z;refine zs Z (p_indexAddr (m:=(n+1)) rfl rfl Tryz.underlying61 sz_4 (by omega) (by omega) (by simp)) ?_;clear Z a;intro a Z;obtain ⟨b9,kb9⟩: ∃b,((fs.set ((k0+1)) true))[(n+1)]? =some b:=⟨_,List.getElem?_eq_getElem (by rw [hfl2];omega)⟩;have hb9:b9=true↔yes ((fs.set ((k0+1)) true)) ((n+1)):=by unfold yes;rw [kb9];simp
  refine zl Z (r_load rfl scal_4 (I.seg 0 rfl) (bools_at kb9)) ?_;clear Z a;intro a Z;refine wnt ?_;rcases Bool.eq_false_or_eq_true b9 with rfl|rfl
  ·replace hb9:=iff_t hb9;refine go 6 Z I ?_;clear Z a;intro a Z;refine zs Z (p_arith (z:=((n+1:Nat):Int)) rfl rfl (add_z (by omega) (by omega) (by omega))) ?_;clear Z a;intro a Z;refine za Z ?_;clear Z a;intro a Z;refine wpList_nil ?_;refine gc 2 Z ?_;exact ⟨n+1,Z.pick [0,4,6,7,8,9],⟨hfar.snoc hb9,hlow9 _ hb9,I⟩,by show 21 - (n+1)<21 - n;omega⟩
  replace hb9:=iff_f hb9;have hnf:=hb9;refine go 9 Z I ?_;clear Z a;intro a Z;replace I:=I.bring 2;replace I:=I.bring 2;(try simp only [bring,List.getElem?_cons_succ,List.getElem?_cons_zero,List.eraseIdx_cons_succ,List.eraseIdx_cons_zero] at I);refine l_step rfl (o_call Z rfl rfl rfl rfl ent_22 (write13_spec (ep:=0) (n:=((k0+1:Nat):Int)) I hL1 hA.good (by rw [hA.s]) (by decide) (by decide) (by omega) (by omega) (by decide) (by decide) (by decide) (by decide) (hA.ans (by omega) (by omega) (by omega) hfar hnf)) ?_);clear I Z a;rintro r w ⟨D10,s12,hD11,hm14,hL13,I⟩ a Z;replace I:=I.bring 1;replace I:=I.bring 1;replace I:=I.bring 2;(try simp only [bring,List.getElem?_cons_succ,List.getElem?_cons_zero,List.eraseIdx_cons_succ,List.eraseIdx_cons_zero] at I);rw [Ms.sent_of (by show (2:Int)≠0;decide)] at hm14;obtain ⟨A15,c16,rfl,_⟩:=hm14.slice;refine go 4 Z I ?_;clear Z a;intro a Z;refine zs Z (p_len rfl rfl Tryz.underlying35) ?_;clear Z a;intro a Z;refine zs Z (p_cmp rfl rfl rfl) ?_;clear Z a;intro a Z;refine go 2 Z I ?_;clear Z a;intro a Z;obtain ⟨b_17,o_17,cs_17,T_17,fr_17,rfl,hb_17,hat_17⟩:=hm14.at_ (by intro h0;cases h0);obtain ⟨vs_17,hl_17,hr_17,hex_17,hsz_17,hce_17⟩:=hat_17.extract (i:=0) (x:=(ackX (n:Nat)).out (wMsg 4 2 0 ((k0+1:Nat):Int)) 4 2) rfl (by omega);obtain ⟨vr_17,vsp_17,ve_17,rfl,hvr_17,hvsp_17,hve_17⟩:=hr_17;obtain ⟨A18,c19,rfl,_⟩:=hvr_17.slice;obtain ⟨A20,c21,rfl,_⟩:=hvsp_17.slice;obtain ⟨A22,c23,rfl,_⟩:=hve_17.slice;refine gs Z (p_indexAddr (m:=o_17+0*18) rfl rfl Tryz.underlying35 sz_43 (by decide) (by show (0:Int)<((1:Nat):Int);decide) (by simp)) ?_;clear Z a;intro a Z;refine gs Z (p_fieldAddr rfl fo_43_0 rfl) ?_;clear Z a;intro a Z;refine gl Z (r_load rfl scal_3 (I.data _ _ (hb_17)) (hce_17 0 _ rfl)) ?_;clear Z a;intro a Z;refine gs Z (p_cmp rfl rfl (neq_n (by rfl))) ?_;clear Z a;intro a Z;refine go 3 Z I ?_;clear Z a;intro a Z;refine gs Z (p_indexAddr (m:=o_17+0*18) rfl rfl Tryz.underlying35 sz_43 (by decide) (by show (0:Int)<((1:Nat):Int);decide) (by simp)) ?_;clear Z a;intro a Z;refine gs Z (p_fieldAddr rfl fo_43_7 rfl) ?_;clear Z a;intro a Z;refine gl Z (r_load rfl scal_2 (I.data _ _ (hb_17)) (hce_17 7 _ rfl)) ?_;clear Z a;intro a Z;refine gs Z (p_move rfl) ?_;clear Z a;intro a Z;refine gs Z (p_cmp rfl rfl (neq_n (by rfl))) ?_;clear Z a;intro a Z;refine go 3 Z I ?_;clear Z a;intro a Z;refine gs Z (p_indexAddr (m:=o_17+0*18) rfl rfl Tryz.underlying35 sz_43 (by decide) (by show (0:Int)<((1:Nat):Int);decide) (by simp)) ?_;clear Z a;intro a Z;refine gs Z (p_fieldAddr rfl fo_43_3 rfl) ?_;clear Z a;intro a Z;refine gl Z (r_load rfl scal_3 (I.data _ _ (hb_17)) (hce_17 3 _ rfl)) ?_;clear Z a;intro a Z;refine gs Z (p_cmp rfl rfl (neq_n (by rfl))) ?_;clear Z a;intro a Z;refine go 3 Z I ?_;clear Z a;intro a Z;refine gs Z (p_indexAddr (m:=o_17+0*18) rfl rfl Tryz.underlying35 sz_43 (by decide) (by show (0:Int)<((1:Nat):Int);decide) (by simp)) ?_;clear Z a;intro a Z;refine gs Z (p_fieldAddr rfl fo_43_2 rfl) ?_;clear Z a;intro a Z;refine gl Z (r_load rfl scal_3 (I.data _ _ (hb_17)) (hce_17 2 _ rfl)) ?_;clear Z a;intro a Z;refine gs Z (p_cmp rfl rfl (neq_n (by rfl))) ?_;clear Z a;intro a Z;refine go 8 Z I ?_;clear Z a;intro a Z;refine zs Z (p_arith (z:=((i+1:Nat):Int)) rfl rfl (add_z (by omega) (by omega) (by omega))) ?_;clear Z a;intro a Z;refine go 2 Z I ?_;clear Z a;intro a Z;exact ⟨(i+1,D10,_,_,_),Z.pick [0,4,6,7],⟨by show i+1<=xs.length;omega,(hD1.trans hD11),hA.next (by omega) (by omega) (by omega) hfar hnf,hL13,I⟩,by show xs.length - (i+1)<xs.length - i;omega⟩
 intro hlt;replace hlt:=lss_f hlt;clear Z a;intro a Z;refine go 11 Z I ?_;clear Z a;intro a Z;refine rt1 Z ?_;replace I:=I.erase 2;replace I:=I.erase 1;replace I:=I.erase 0;exact ⟨rfl,D1,((hD4.trans hD6).trans hD1),I⟩
end Go.Proofs.YtefaghnlmmgpcaaGreatDoor.B
