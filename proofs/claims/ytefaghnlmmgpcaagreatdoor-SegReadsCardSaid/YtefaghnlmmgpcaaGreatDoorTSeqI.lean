/- What functions of the program compute, each function once: steps over the model, and the plain law of it. -/
import Derived.Test.YtefaghnlmmgpcaaGreatDoorTPage2
import Derived.Test.YtefaghnlmmgpcaaGreatDoorSLogB
import Derived.Test.YtefaghnlmmgpcaaGreatDoorSLaid
import Derived.Deep.Slices
import Derived.Test.YtefaghnlmmgpcaaGreatDoorTSeg7
import Derived.Test.YtefaghnlmmgpcaaGreatDoorTSeg13
namespace Go.Proofs.YtefaghnlmmgpcaaGreatDoor.B
open Go Go.Proofs
set_option linter.unusedVariables false
set_option linter.unusedSimpArgs false
set_option maxRecDepth 20000
set_option maxHeartbeats 8000000
open Go Go.Deep Go.ChangeShapes Go.WideShapes Go.ChangeAt Go.RowKit
section
variable {H:Type} {enc:TypeId×Value->H} {P:Program} {W:World}
end
theorem rises_backs {l:List Rc} (hs:RisesR l) (hb: ∀r∈l,r.lsn=r.back+1):BacksR l:=fun i j x y hx hy e=>by
 obtain ⟨h1,e1⟩:=List.getElem?_eq_some_iff.1 hx;obtain ⟨h2,e2⟩:=List.getElem?_eq_some_iff.1 hy;have b1:=hb x (List.mem_of_getElem? hx);have b2:=hb y (List.mem_of_getElem? hy);rcases Nat.lt_trichotomy i j with q|q|q
 ·have:=List.pairwise_iff_getElem.1 hs i j h1 h2 q;rw [e1,e2] at this;omega
 ·exact q
 have:=List.pairwise_iff_getElem.1 hs j i h2 h1 q;rw [e1,e2] at this;omega
theorem chain_to {l:List Rc} (hb: ∀r∈l,r.lsn=r.back+1) {n:Int} (hno: ∀r∈l,r.lsn≠n+1): ∀(d:Nat) (a:Int),a+d=n->(∀k,a<k->k<=n-> ∃r∈l,r.lsn=k)->ChainR l a n
 |0,a,e,_=>by
  obtain rfl:a=n:=by omega
  exact .stop a fun r hr q=>hno r hr (by have:=hb r hr;omega)
 |d+1,a,e,hk=>by
  obtain ⟨r,hr,q⟩:=hk (a+1) (by omega) (by omega);have hq:=hb r hr;obtain rfl:a=r.back:=by omega
  exact .next r hr (chain_to hb hno d r.lsn (by omega) fun k h1 h2=>hk k (by omega) h2)
structure NumR (f:Nat->Rc):Prop where
 lsn: ∀k,(f k).lsn=k+1
 back: ∀k,(f k).back=k
def rowN (f:Nat->Rc) (i:Nat):List Rc:=(List.range i).map f
theorem rowN_succ (f:Nat->Rc) (i:Nat):rowN f (i+1)=rowN f i++ [f i]:=by unfold rowN;rw [List.range_succ,List.map_append];rfl
theorem rowN_len (f:Nat->Rc) (i:Nat):(rowN f i).length=i:=by unfold rowN;simp
theorem rowN_mem {f:Nat->Rc} {i:Nat} {r:Rc}:r∈rowN f i↔ ∃k,k<i/\r=f k:=by
 unfold rowN;rw [List.mem_map];constructor
 ·rintro ⟨k,hk,rfl⟩;exact ⟨k,List.mem_range.1 hk,rfl⟩
 rintro ⟨k,hk,rfl⟩;exact ⟨k,List.mem_range.2 hk,rfl⟩
theorem rowN_rises {f:Nat->Rc} (hf:NumR f): ∀i,RisesR (rowN f i)
 |0=>List.Pairwise.nil
 |i+1=>by
  rw [rowN_succ];refine List.pairwise_append.2 ⟨rowN_rises hf i,List.pairwise_singleton _ _,fun a ha b hb=> ?_⟩;obtain ⟨k,hk,rfl⟩:=rowN_mem.1 ha;rw [List.mem_singleton.1 hb,hf.lsn,hf.lsn];omega
theorem tw_self: ∀(l:List Rc) (p:Rc->Bool),(∀r∈l,p r=true)->l.takeWhile p=l
 | [],_,_=>rfl
 |a::l,p,h=>by rw [List.takeWhile_cons,if_pos (h a (by simp)),tw_self l p fun r hr=>h r (by simp [hr])]
theorem plR_all {l:List Rc} {n:Int} (h: ∀r∈l,r.lsn<n):plR l n=l.length:=by unfold plR;rw [tw_self l _ fun r hr=>decide_eq_true (h r hr)]
theorem putR_end {l:List Rc} {r:Rc} (h: ∀x∈l,x.lsn<r.lsn):putR l r=l++ [r]:=by unfold putR;rw [plR_all h,List.take_length,List.drop_length]
theorem hasR_none {l:List Rc} {n:Int} (h: ∀r∈l,r.lsn≠n):hasR l n=false:=List.any_eq_false.2 fun r hr=>by simp [h r hr]
structure SeqI (L:Lg) (st:Stt) (blocks gr:Int) (f:Nat->Rc) (i:Nat):Prop where
 good:L.Good
 blocks:L.d.blocks=blocks
 s:L.s=st
 gr:L.h.group=gr
 spans:L.h.spans= []
 l:L.h.l=rowN f i
 known:L.h.KnownOk
 calls:L.calls=1+i
 cuts:L.h.cuts=0
theorem SeqI.start {d:Dk} (hd:d.Fresh) (gr inc:Int) (f:Nat->Rc):SeqI (bornS d gr inc true) {inc:=inc,whole:=true} d.blocks gr f 0:=
 ⟨bornS_good hd gr inc true,rfl,rfl,rfl,rfl,rfl,(fun h=>by cases h),rfl,rfl⟩
section
variable {L:Lg} {st:Stt} {blocks gr:Int} {f:Nat->Rc} {i:Nat}
theorem SeqI.lsns (h:SeqI L st blocks gr f i) (hf:NumR f): ∀r∈L.h.l,r.lsn=r.back+1:=fun r hr=>by
 rw [h.l] at hr;obtain ⟨k,hk,rfl⟩:=rowN_mem.1 hr;rw [hf.lsn,hf.back]
theorem SeqI.lt (h:SeqI L st blocks gr f i) (hf:NumR f): ∀r∈L.h.l,1<=r.lsn/\r.lsn<=i:=fun r hr=>by
 rw [h.l] at hr;obtain ⟨k,hk,rfl⟩:=rowN_mem.1 hr;rw [hf.lsn];omega
theorem SeqI.len (h:SeqI L st blocks gr f i):L.h.l.length=i:=by rw [h.l,rowN_len]
theorem SeqI.rises (h:SeqI L st blocks gr f i) (hf:NumR f):RisesR L.h.l:=by rw [h.l];exact rowN_rises hf i
theorem SeqI.fits (h:SeqI L st blocks gr f i) (hf:NumR f) (hv:validR (f i)=true) (hg:(f i).group=gr) (hi:i<16384):L.h.FitsAll [f i]:=
 ⟨⟨hv,by rw [hg,h.gr],by rw [h.len];exact hi,h.rises hf,fun x hx he=>by have:=h.lt hf x hx;rw [hf.lsn] at he;omega⟩,trivial⟩
theorem SeqI.isnew (h:SeqI L st blocks gr f i) (hf:NumR f):L.h.isnew (f i)=true/\L.h.add (f i)={L.h with l:=rowN f (i+1),known:=false}:=by
 have h1:deadS L.h.spans (f i).lsn (f i).epoch=false:=by rw [h.spans];rfl
 have h2:hasR L.h.l (f i).lsn=false:=hasR_none fun r hr e=>by have:=h.lt hf r hr;rw [hf.lsn] at e;omega
 obtain ⟨n1,n2⟩:=Ht.add_new h1 h2;refine ⟨n1, ?_⟩;rw [n2,putR_end fun x hx=>by have:=h.lt hf x hx;rw [hf.lsn];omega,rowN_succ,h.l]
theorem SeqI.news (h:SeqI L st blocks gr f i) (hf:NumR f):L.h.news [f i]= [f i]:=by rw [Ht.news,(h.isnew hf).1];rfl
theorem SeqI.addRecs (h:SeqI L st blocks gr f i) (hf:NumR f):L.addRecs [f i]=L.laid {kind:=0,recs:= [f i]} L.s {L.h with l:=rowN f (i+1),known:=false}:=by rw [Lg.addRecs,h.news hf,if_neg (by simp)];show L.laid _ L.s (L.h.add (f i))=_;rw [(h.isnew hf).2]
theorem SeqI.step (h:SeqI L st blocks gr f i) (hf:NumR f) (hi:i<16384) {L2:Lg} (e:L2=L.addRecs [f i]):SeqI L2 st blocks gr f (i+1):=by subst e;rw [h.addRecs hf];have hc:=h.calls;exact ⟨h.good.laid (by omega) ⟨h.good.spans.1,h.good.spans.2⟩ (by show (rowN f (i+1)).length<=_;rw [rowN_len];omega),h.blocks,h.s,h.gr,h.spans,rfl,(fun q=>by cases q),by show L.calls+1=_;omega,h.cuts⟩
theorem SeqI.chain (h:SeqI L st blocks gr f i) (hf:NumR f):ChainR L.h.l 0 i/\ ∀u,ChainR L.h.l 0 u->u=i:=by
 have hk: ∀k:Int,0<k->k<=i-> ∃r∈L.h.l,r.lsn=k:=fun k h1 h2=>by
  obtain ⟨j,rfl⟩: ∃j:Nat,k=j+1:=⟨(k - 1).toNat,by omega⟩;exact ⟨f j,by rw [h.l];exact rowN_mem.2 ⟨j,by omega,rfl⟩,hf.lsn j⟩
 have hno: ∀r∈L.h.l,r.lsn≠(i:Int)+1:=fun r hr e=>by have:=h.lt hf r hr;omega
 exact ⟨chain_to (h.lsns hf) hno i 0 (by omega) hk,fun u hu=>chain_upto (h.lsns hf) hu i (by omega) hk hno⟩
theorem SeqI.fine (h:SeqI L st blocks gr f i) (hf:NumR f) (hi:i<=16384):L.h.Fine:=
 ⟨by rw [h.len];exact hi,rises_backs (h.rises hf) (h.lsns hf),fun r hr=>by have:=h.lsns hf r hr;omega,h.known⟩
theorem SeqI.scl (h:SeqI L st blocks gr f i) (hf:NumR f):SeqI (L.scl i) st blocks gr f i:=
 ⟨⟨h.good.pe,h.good.top,h.good.blocks,h.good.dc,h.good.calls,h.good.fin,h.good.spans,h.good.recs⟩,h.blocks,h.s,h.gr,h.spans,h.l,fun _=>(h.chain hf).1,h.calls,h.cuts⟩
theorem SeqI.next (h:SeqI L st blocks gr f i) (hf:NumR f) (hi:i<16384):SeqI ((L.addRecs [f i]).scl ((i+1:Nat):Int)) st blocks gr f (i+1):=(h.step hf hi rfl).scl hf
theorem SeqI.ans (h:SeqI L st blocks gr f i) (hf:NumR f) {id:Int} {m:Ms} (hk:m.kind=1) (hm:m.recs= [f i]) (he:(f i).epoch=m.epoch) (hei:m.epoch=st.installed) (hep:m.epoch=st.promise) (hv:validR (f i)=true) (hg:(f i).group=gr) (hkv:(f i).key.length+(f i).val.length<=40)
  (hi:i<16384) (hroom:((1+i:Nat):Int)<blocks):AnsOk id gr L m {kind:=2,epoch:=m.epoch,inc:=st.inc,lsn:=((i+1:Nat):Int)} ((L.addRecs [f i]).scl ((i+1:Nat):Int)):=by
 have hfit:=h.fits hf hv hg hi;have hS:=h.step hf hi rfl;have hfn:=hS.fine hf (by omega);rw [Lg.addRecs_h] at hfn;have hok:=recs_ok hfit (by show 1<=16384;decide);have hch:=(hS.chain hf).2;rw [Lg.addRecs_h] at hch;have e1:({kind:=2,epoch:=m.epoch,inc:=st.inc,lsn:=((i+1:Nat):Int)}:Ms)={kind:=2,epoch:=m.epoch,inc:=L.s.inc,lsn:=((i+1:Nat):Int)}:=by rw [h.s]
 rw [e1];have hA:= @ansWrite id gr L m ((i+1:Nat):Int) h.good hk (by rw [hm];show 1<=16384;decide) (fun x hx=>by rw [hm] at hx;rw [List.mem_singleton.1 hx];exact he) (by rw [hm];exact hfit)
  (by rw [hm];exact Cl.b_len1 hok rfl (Ht.news_len _ _) (fun r hr=>by have:=Ht.news_mem hr;rw [List.mem_singleton.1 this];exact hkv))
  (fun _=>by rw [h.good.fin,h.blocks,h.calls];exact hroom) (by rw [h.s];exact hei) (by rw [h.s];exact hep) (by rw [hm];exact hfn) (fun u hu=>by rw [hm] at hu;exact hch u hu)
 rw [hm] at hA;exact @hA
end
end Go.Proofs.YtefaghnlmmgpcaaGreatDoor.B
