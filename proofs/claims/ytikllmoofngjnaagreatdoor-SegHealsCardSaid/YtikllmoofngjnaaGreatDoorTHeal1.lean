/- What functions of the program compute, each function once: steps over the model, and the plain law of it. -/
import Derived.Test.YtikllmoofngjnaaGreatDoorTHy10
namespace Go.Proofs.YtikllmoofngjnaaGreatDoor.B
open Go Go.Proofs
set_option linter.unusedVariables false
set_option linter.unusedSimpArgs false
def hRec (k:Nat):Rc:={lsn:=(k:Int)+1,back:=k,page:=k,kind:=1}
def IsH (l:List Rc):Prop:= ∀r∈l,∃k,k<16/\r=hRec k
theorem hRec_inj {a b:Nat} (h:hRec a=hRec b):a=b:=by have:(a:Int)=b:=congrArg Rc.back h;omega
theorem hRec_valid {k:Nat} (h:k<16):validR (hRec k)=true:=
 validR_iff.2 ⟨by show (1:Int)<=(k:Int)+1;omega,by show (k:Int)+1<=_;omega,(by decide:(0:Int)<=0),(by decide:(0:Int)<1073741825),(by decide:(0:Int)<=0),(by decide:(0:Int)<4),by show (0:Int)<=k;omega,by show (k:Int)<256;omega,by show (0:Int)<=k;omega,by show (k:Int)<(k:Int)+1;omega,(by decide:(0:Int)<=0),(by decide:(0:Int)<32769),(by decide:(1:Int)<=1),(by decide:(1:Int)<=6),(by decide:0<=32),(by decide:0<=64)⟩
theorem IsH.nil:IsH []:=fun r hr=>by cases hr
theorem IsH.one {k:Nat} (h:k<16):IsH [hRec k]:=fun r hr=>⟨k,h,List.mem_singleton.1 hr⟩
theorem IsH.sub {a b:List Rc} (h:IsH b) (hs: ∀r∈a,r∈b):IsH a:=fun r hr=>h r (hs r hr)
theorem IsH.num {l:List Rc} (h:IsH l): ∀r∈l,r.lsn=r.back+1/\0<r.lsn/\r.lsn<=16/\r.group=0/\r.epoch=0:=fun r hr=>by
 obtain ⟨k,hk,rfl⟩:=h r hr;exact ⟨rfl,by show (0:Int)<(k:Int)+1;omega,by show (k:Int)+1<=16;omega,rfl,rfl⟩
theorem IsH.valid {l:List Rc} (h:IsH l): ∀r∈l,validR r=true:=fun r hr=>by
 obtain ⟨k,hk,rfl⟩:=h r hr;exact hRec_valid hk
theorem IsH.eq {l:List Rc} (h:IsH l) {x y:Rc} (hx:x∈l) {k:Nat} (e:x.lsn=(hRec k).lsn):x=hRec k:=by
 obtain ⟨j,_,rfl⟩:=h x hx;have:(j:Int)+1=(k:Int)+1:=e;have:j=k:=by omega
 rw [this]
theorem rises_at: ∀{l:List Rc} {a:Int},RisesR l->(∀r∈l,a<r.lsn)-> ∀(i:Nat) (x:Rc),l[i]? =some x->a+i<x.lsn
 | [],_,_,_,i,x,hx=>by simp at hx
 |y::l,a,hs,h,0,x,hx=>by
  obtain rfl:y=x:=by simpa using hx
  have:=h y (by simp);simpa using this
 |y::l,a,hs,h,i+1,x,hx=>by
  have h1:=List.pairwise_cons.1 hs;have h2:=rises_at (a:=y.lsn) h1.2 h1.1 i x (by simpa using hx);have:=h y (by simp);push_cast;omega
theorem IsH.len {l:List Rc} (h:IsH l) (hs:RisesR l):l.length<=16:=by
 rcases Nat.lt_or_ge 16 l.length with q|q
 ·have:=rises_at (a:=0) hs (fun r hr=>(h.num r hr).2.1) 16 l[16] (List.getElem?_eq_getElem q);have:=(h.num l[16] (List.getElem_mem q)).2.2.1;omega
 exact q
theorem abv_sub {z:Int} {l:List Rc} {r:Rc} (h:r∈abv z l):r∈l:=(List.mem_filter.1 (List.mem_of_mem_take h)).1
theorem abv_has {z:Int} {l:List Rc} (hs:RisesR l) {r:Rc} (hr:r∈l) (h1:z<r.lsn) (h2:r.lsn<=z+8):r∈abv z l:=by have hm:r∈l.filter (abvP z):=List.mem_filter.2 ⟨hr,decide_eq_true h1⟩;obtain ⟨i,hi,e⟩:=List.mem_iff_getElem.1 hm;have:=rises_at (a:=z) (l:=l.filter (abvP z)) (hs.sublist List.filter_sublist) (fun r hr=>of_decide_eq_true (List.mem_filter.1 hr).2) i r (by rw [List.getElem?_eq_getElem hi,e]);exact List.mem_iff_getElem.2 ⟨i,by unfold abv;rw [List.length_take];omega,by unfold abv;rw [List.getElem_take];exact e⟩
theorem hl_backs {l:List Rc} (hs:RisesR l) (hb: ∀r∈l,r.lsn=r.back+1):BacksR l:=fun i j x y hx hy e=>by
 obtain ⟨h1,e1⟩:=List.getElem?_eq_some_iff.1 hx;obtain ⟨h2,e2⟩:=List.getElem?_eq_some_iff.1 hy;have b1:=hb x (List.mem_of_getElem? hx);have b2:=hb y (List.mem_of_getElem? hy);rcases Nat.lt_trichotomy i j with q|q|q
 ·have:=List.pairwise_iff_getElem.1 hs i j h1 h2 q;rw [e1,e2] at this;omega
 ·exact q
 have:=List.pairwise_iff_getElem.1 hs j i h2 h1 q;rw [e1,e2] at this;omega
theorem hl_chain {l:List Rc} (hb: ∀r∈l,r.lsn=r.back+1) {n:Int} (hno: ∀r∈l,r.lsn≠n+1): ∀(d:Nat) (a:Int),a+d=n->(∀k,a<k->k<=n-> ∃r∈l,r.lsn=k)->ChainR l a n
 |0,a,e,_=>by
  obtain rfl:a=n:=by omega
  exact .stop a fun r hr q=>hno r hr (by have:=hb r hr;omega)
 |d+1,a,e,hk=>by
  obtain ⟨r,hr,q⟩:=hk (a+1) (by omega) (by omega);have hq:=hb r hr;obtain rfl:a=r.back:=by omega
  exact .next r hr (hl_chain hb hno d r.lsn (by omega) fun k h1 h2=>hk k (by omega) h2)
structure HtI (h:Ht):Prop where
 gr:h.group=0
 spans:h.spans= []
 rises:RisesR h.l
 isH:IsH h.l
 known:h.KnownOk
theorem HtI.has {h:Ht} (H:HtI h) {k:Nat}:hasR h.l ((k:Int)+1)=true↔hRec k∈h.l:=by
 unfold hasR;rw [List.any_eq_true];constructor
 ·rintro ⟨r,hr,he⟩;have:=H.isH.eq (y:=r) hr (k:=k) (of_decide_eq_true he);rw [<-this];exact hr
 intro hk;exact ⟨_,hk,decide_eq_true rfl⟩
theorem HtI.fits {h:Ht} (H:HtI h) {k:Nat} (hk:k<16):h.Fits (hRec k):=
 ⟨hRec_valid hk,H.gr.symm,by have:=H.isH.len H.rises;omega,H.rises,fun x hx e=>H.isH.eq (y:=x) hx e⟩
theorem HtI.add {h:Ht} (H:HtI h) {k:Nat} (hk:k<16):HtI (h.add (hRec k))/\(∀r,r∈(h.add (hRec k)).l↔r∈h.l\/r=hRec k)/\(h.add (hRec k)).l.length=h.l.length+(if h.isnew (hRec k) then 1 else 0)/\(h.add (hRec k)).cuts=h.cuts:=by
 by_cases hy:hRec k∈h.l
 ·obtain ⟨n1,n2⟩:=Ht.add_there (h:=h) (r:=hRec k) (H.has.2 hy);rw [n2,n1];exact ⟨H,fun r=>⟨.inl,fun q=>q.elim id (fun e=>e▸hy)⟩,rfl,rfl⟩
 have hh:hasR h.l (hRec k).lsn=false:=by rw [<-Bool.not_eq_true];exact fun q=>hy (H.has.1 q)
 obtain ⟨n1,n2⟩:=Ht.add_new (h:=h) (r:=hRec k) (by rw [H.spans];rfl) hh;rw [n2,n1];refine ⟨⟨H.gr,H.spans,putR_rises H.rises (fun x hx e=>hy (by rw [<-H.isH.eq (y:=x) hx e];exact hx)),fun r hr=> ?_,fun q=>by cases q⟩,fun r=> ?_,putR_len _ _,rfl⟩
 ·rcases putR_mem.1 hr with rfl|hr
  ·exact ⟨k,hk,rfl⟩
  exact H.isH r hr
 exact putR_mem.trans or_comm
theorem HtI.all: ∀{rs:List Rc} {h:Ht},HtI h->IsH rs->h.FitsAll rs/\HtI (h.addAll rs)/\(∀r,r∈(h.addAll rs).l↔r∈h.l\/r∈rs)/\(h.addAll rs).l.length=h.l.length+(h.news rs).length/\(h.addAll rs).cuts=h.cuts
 | [],h,H,_=>⟨trivial,H,fun r=>⟨.inl,fun q=>q.elim id (fun q=>by cases q)⟩,rfl,rfl⟩
 |r::rs,h,H,hr=>by
  obtain ⟨k,hk,rfl⟩:=hr r (by simp);obtain ⟨a1,a2,a3,a4⟩:=H.add hk;obtain ⟨b1,b2,b3,b4,b5⟩:=HtI.all (rs:=rs) a1 (fun x hx=>hr x (by simp [hx]));refine ⟨⟨H.fits hk,b1⟩,b2,fun x=>(b3 x).trans ?_, ?_,b5.trans a4⟩
  ·rw [a2 x,List.mem_cons,or_assoc]
  show ((h.add (hRec k)).addAll rs).l.length=_;rw [b4,a3,Ht.news];split
  ·simp only [List.length_cons];omega
  rfl
theorem HtI.fine {h:Ht} (H:HtI h):h.Fine:=⟨by have:=H.isH.len H.rises;omega,hl_backs H.rises (fun r hr=>(H.isH.num r hr).1),fun r hr=>by have:=(H.isH.num r hr).1;omega,H.known⟩
theorem least (p:Nat->Prop): ∀m,¬p m-> ∃n,n<=m/\(∀k,k<n->p k)/\ ¬p n
 |0,h=>⟨0,Nat.le_refl _,fun k hk=>absurd hk (Nat.not_lt_zero _),h⟩
 |m+1,h=>by
  by_cases q: ∀k,k<m+1->p k
  ·exact ⟨m+1,Nat.le_refl _,q,h⟩
  have: ∃j,j<m+1/\ ¬p j:=Classical.byContradiction fun q2=>q fun k hk=>Classical.byContradiction fun q3=>q2 ⟨k,hk,q3⟩;obtain ⟨j,hj,hp⟩:=this;rcases Nat.lt_or_ge j (m) with q2|q2
  ·obtain ⟨n,h1,h2,h3⟩:=least (fun k=>p k/\(k≠j)) j (fun q=>q.2 rfl) |>fun ⟨n,h1,h2,h3⟩=>(⟨n,h1,h2,h3⟩: ∃n,n<=j/\(∀k,k<n->p k/\k≠j)/\ ¬(p n/\n≠j));refine ⟨n,by omega,fun k hk=>(h2 k hk).1,fun hn=> ?_⟩;by_cases e:n=j
   ·subst e;exact hp hn
   exact h3 ⟨hn,e⟩
  obtain rfl:j=m:=by omega
  obtain ⟨n,h1,h2,h3⟩:=least p j hp;exact ⟨n,by omega,h2,h3⟩
def Far (l:List Rc) (n:Nat):Prop:=n<=16/\(∀k,k<n->hRec k∈l)/\hRec n ∉ l
theorem IsH.far {l:List Rc} (h:IsH l): ∃n,Far l n:=by
 obtain ⟨n,h1,h2,h3⟩:=least (fun k=>hRec k∈l) 16 (fun q=>by
  obtain ⟨k,hk,e⟩:=h _ q;have:=hRec_inj e;omega)
 exact ⟨n,h1,h2,h3⟩
theorem Far.chain {l:List Rc} (h:IsH l) {n:Nat} (hn:Far l n):ChainR l 0 n/\ ∀u,ChainR l 0 u->u=n:=by
 have hb: ∀r∈l,r.lsn=r.back+1:=fun r hr=>(h.num r hr).1;have hk: ∀k:Int,0<k->k<=n-> ∃r∈l,r.lsn=k:=fun k h1 h2=>by
  obtain ⟨j,rfl⟩: ∃j:Nat,k=j+1:=⟨(k - 1).toNat,by omega⟩;exact ⟨hRec j,hn.2.1 j (by omega),rfl⟩
 have hno: ∀r∈l,r.lsn≠(n:Int)+1:=fun r hr e=>hn.2.2 (by rw [<-h.eq (y:=r) hr (k:=n) e];exact hr);exact ⟨hl_chain hb hno n 0 (by omega) hk,fun u hu=>chain_upto hb hu n (by omega) hk hno⟩
structure HlI (L:Lg) (w:Bool):Prop where
 good:L.Good
 arm:L.d.arm=0
 blocks:L.d.blocks=4096
 s:L.s={inc:=1,whole:=w}
 cuts:0<=L.h.cuts/\L.h.cuts<=(if w=true then 1 else 0)
 calls:L.calls<=(if w=true then 3 else 2)+L.h.l.length
 h:HtI L.h
theorem HtI.start:HtI {group:=0}:=⟨rfl,rfl,List.Pairwise.nil,IsH.nil,fun h=>by cases h⟩
theorem HlI.start (w:Bool):HlI (bornS (Dk.new 4096) 0 1 w) w:=⟨bornS_good (Dk.Fresh.new (by decide) (by decide)) 0 1 w,rfl,rfl,rfl,⟨Int.le_refl 0,by show (0:Int)<=(if w=true then 1 else 0);cases w<;>decide⟩,by show 1<=(if w=true then 3 else 2)+0;cases w<;>decide,HtI.start⟩
theorem HlI.scl {L:Lg} {w:Bool} (h:HlI L w) {z:Int} (hz:ChainR L.h.l 0 z):HlI (L.scl z) w:=⟨h.good.scl z,h.arm,h.blocks,h.s,h.cuts,h.calls,⟨h.h.gr,h.h.spans,h.h.rises,h.h.isH,fun _=>hz⟩⟩
theorem HlI.len {L:Lg} {w:Bool} (h:HlI L w):L.h.l.length<=16:=h.h.isH.len h.h.rises
theorem HlI.room {L:Lg} {w:Bool} (h:HlI L w):(L.end_:Int)<L.d.blocks:=by
 have h1:=h.calls;have h2:=h.len;have h3:=h.good.fin;have h4:(if w=true then 3 else 2)<=3:=by cases w<;>decide
 rw [h.blocks];omega
theorem HlI.add {L:Lg} {w:Bool} (h:HlI L w) {rs:List Rc} (hr:IsH rs):HlI (L.addRecs rs) w/\ ∀r,r∈(L.addRecs rs).h.l↔r∈L.h.l\/r∈rs:=by
 obtain ⟨a1,a2,a3,a4,a5⟩:=h.h.all hr;have hl:=a2.isH.len a2.rises;have e:=Lg.addRecs_h L rs;refine ⟨?_,fun r=>by rw [e];exact a3 r⟩;unfold Lg.addRecs;split
 ·exact h
 rename_i q;have hn:1<=(L.h.news rs).length:=by
  rcases hq:L.h.news rs with _|⟨x,y⟩
  ·exact absurd hq q
  simp
 have:=h.calls;have h4:(if w=true then 3 else 2)<=3:=by cases w<;>decide
 exact ⟨h.good.laid (by have:=h.len;omega) ⟨h.good.spans.1,by rw [a2.spans];decide⟩ (by omega) h.arm,by show tick (tick L.d.arm)=0;rw [h.arm];rfl,h.blocks,h.s,by show 0<=(L.h.addAll rs).cuts/\(L.h.addAll rs).cuts<=(if w=true then 1 else 0);rw [a5];exact h.cuts,by show L.calls+1<=(if w=true then 3 else 2)+(L.h.addAll rs).l.length;omega,a2⟩
theorem HtI.cut {h:Ht} (H:HtI h):HtI (h.cut [])/\(h.cut []).l=h.l/\(h.cut []).cuts=h.cuts+1:=by
 have e:(h.cut []).l=h.l:=by show h.l.filter (fun r=> !(deadS [] r.lsn r.epoch))=h.l;exact List.filter_eq_self.2 fun r _=>rfl
 exact ⟨⟨H.gr,rfl,by rw [e];exact H.rises,by rw [e];exact H.isH,fun q=>by cases q⟩,e,rfl⟩
theorem HtI.news_nd: ∀{rs:List Rc} {h:Ht},HtI h->IsH rs->(rs.map (·.lsn)).Nodup->(∀r∈rs,r ∉ h.l)->h.news rs=rs
 | [],h,_,_,_,_=>rfl
 |r::rs,h,H,hr,hn,hd=>by
  obtain ⟨k,hk,rfl⟩:=hr r (by simp);obtain ⟨a1,a2,a3,a4⟩:=H.add hk;have hn2:(∀x∈rs,¬x.lsn=(hRec k).lsn)/\(rs.map (·.lsn)).Nodup:=by simpa using hn
  have hno:hasR h.l (hRec k).lsn=false:=by rw [<-Bool.not_eq_true];exact fun q=>hd _ (by simp) (H.has.1 q)
  have hnew:=(Ht.add_new (h:=h) (r:=hRec k) (by rw [H.spans];rfl) hno).1;rw [Ht.news,if_pos hnew,HtI.news_nd a1 (fun x hx=>hr x (by simp [hx])) hn2.2 (fun x hx q=> ?_)];rcases (a2 x).1 q with q|q
  ·exact hd x (by simp [hx]) q
  subst q;exact hn2.1 _ hx rfl
theorem putZ_one {z:Int} (h0:0<=z) (h1:z<64):(putZ z).length=1:=by
 unfold putZ;have:zig z<128:=by unfold zig;rw [if_pos h0];omega
 unfold putN;rw [if_pos this];rfl
theorem hRec_b {k:Nat} (h:k<16):(redoB (hRec k)).length=10:=by have a:=putZ_one (z:=(k:Int)+1) (by omega) (by omega);have b:=putZ_one (z:=(k:Int)) (by omega) (by omega);have z0:(putZ 0).length=1:=putZ_one (by decide) (by decide);have z1:(putZ 1).length=1:=putZ_one (by decide) (by decide);have z2:(putZ (hadZ false)).length=1:=putZ_one (by decide) (by decide);have z3:(putZ ((0:Nat):Int)).length=1:=putZ_one (by decide) (by decide);show (putZ ((k:Int)+1)++(putZ (k:Int)++(putZ 0++(putZ 0++(putZ (k:Int)++(putZ 1++(putZ 0++(putZ (hadZ false)++((putZ ((0:Nat):Int)++ [])++(putZ ((0:Nat):Int)++ [])))))))))).length=10;simp only [List.length_append,List.length_nil,a,b,z0,z1,z2,z3]
theorem isH_b: ∀{l:List Rc},IsH l->(l.flatMap redoB).length=10*l.length
 | [],_=>rfl
 |r::l,h=>by
  obtain ⟨k,hk,rfl⟩:=h r (by simp);rw [List.flatMap_cons,List.length_append,hRec_b hk,isH_b (fun x hx=>h x (by simp [hx])),List.length_cons];omega
theorem call_len {c:Cl} (hk:0<=c.kind/\c.kind<64) (hp:c.s.promise=0) (hi:c.s.installed=0) (hc:c.s.inc=0) (hf:c.s.floor=0) (hs:c.s.spans= []) (hr:IsH c.recs) (hl:c.recs.length<=16):c.b.length<=244:=by
 have a:=putZ_one hk.1 hk.2;have b:=putZ_one (z:=(c.recs.length:Nat)) (by omega) (by omega);have d:=isH_b hr;have e:(putZ (hadZ c.s.whole)).length=1:=by cases c.s.whole<;>exact putZ_one (by decide) (by decide)
 have z0:(putZ 0).length=1:=putZ_one (by decide) (by decide);have z1:(spanB []).length=1:=by show (putZ ((0:Nat):Int)++ []).length=1;rw [List.append_nil];exact putZ_one (by decide) (by decide)
 unfold Cl.b;rw [hp,hi,hc,hf,hs];simp only [List.length_append,a,b,d,e,z0,z1];omega
theorem HlI.news {L:Lg} {w:Bool} (h:HlI L w) {rs:List Rc} (hr:IsH rs):IsH (L.h.news rs)/\(L.h.news rs).length<=16/\({kind:=0,recs:=L.h.news rs}:Cl).b.length<=244:=by obtain ⟨a1,a2,a3,a4,a5⟩:=h.h.all hr;have hl:=a2.isH.len a2.rises;have h1:IsH (L.h.news rs):=hr.sub fun r q=>Ht.news_mem q;exact ⟨h1,by omega,call_len ⟨(by decide:(0:Int)<=0),(by decide:(0:Int)<64)⟩ rfl rfl rfl rfl rfl h1 (by show (L.h.news rs).length<=16;omega)⟩
def mN (m:Int):Nat:=(m % 65536).toNat
def mBit (m:Int) (k:Nat):Bool:=(mN m).testBit k
theorem mBit_shr (m:Int) {k:Nat} (h:k<16):m.fdiv (2^min ((k:Nat):Int).toNat 64) % 2=if mBit m k then 1 else 0:=by
 have e:min ((k:Nat):Int).toNat 64=k:=by omega
 rw [e,Int.fdiv_eq_ediv_of_nonneg _ (by have:(0:Int)<2^k:=Int.pow_pos (by decide);omega)];unfold mBit mN;rw [Nat.testBit_eq_decide_div_mod_eq];have hk:k=0\/k=1\/k=2\/k=3\/k=4\/k=5\/k=6\/k=7\/k=8\/k=9\/k=10\/k=11\/k=12\/k=13\/k=14\/k=15:=by omega
 rcases hk with rfl|rfl|rfl|rfl|rfl|rfl|rfl|rfl|rfl|rfl|rfl|rfl|rfl|rfl|rfl|rfl<;>
  (simp only [decide_eq_true_eq,Int.reducePow,Nat.reducePow];split<;>omega)
theorem and1_i (x:Int):arithZ .and .i64 x 1=some (x % 2):=by
 have h1:(BitVec.ofInt 64 x &&& BitVec.ofInt 64 1).toNat=(x % 2).toNat:=by rw [BitVec.toNat_and,BitVec.toNat_ofInt,BitVec.toNat_ofInt,show ((1:Int) % ((2^64:Nat):Int)).toNat=1 by decide,Nat.and_one_is_mod];omega
 show some (IntKind.i64.wrap ((BitVec.ofInt 64 x &&& BitVec.ofInt 64 1).toNat))=_;rw [h1];have:x % 2=0\/x % 2=1:=by omega
 rcases this with e|e<;>rw [e]<;>rfl
theorem and16_i (x:Int):arithZ .and .i64 x 65535=some ((mN x:Nat):Int):=by
 have h1:(BitVec.ofInt 64 x &&& BitVec.ofInt 64 65535).toNat=mN x:=by rw [BitVec.toNat_and,BitVec.toNat_ofInt,BitVec.toNat_ofInt,show ((65535:Int) % ((2^64:Nat):Int)).toNat=2^16 - 1 by decide,Nat.and_two_pow_sub_one_eq_mod];unfold mN;omega
 show some (IntKind.i64.wrap ((BitVec.ofInt 64 x &&& BitVec.ofInt 64 65535).toNat))=_;rw [h1];have:mN x<65536:=by unfold mN;omega
 exact congrArg some (IntWalk.i64_in _ ⟨by omega,by omega⟩)
theorem or_i {u n:Nat} (hu:u<65536) (hn:n<65536):arithZ .or .i64 (u:Int) (n:Int)=some ((u |||n:Nat):Int):=by
 have h1:(BitVec.ofInt 64 (u:Int) |||BitVec.ofInt 64 (n:Int)).toNat=u |||n:=by
  rw [BitVec.toNat_or,BitVec.toNat_ofInt,BitVec.toNat_ofInt];have a:((u:Int) % ((2^64:Nat):Int)).toNat=u:=by omega
  have b:((n:Int) % ((2^64:Nat):Int)).toNat=n:=by omega
  rw [a,b]
 have h2:u |||n<65536:=Nat.or_lt_two_pow (n:=16) hu hn;show some (IntKind.i64.wrap ((BitVec.ofInt 64 (u:Int) |||BitVec.ofInt 64 (n:Int)).toNat))=_;rw [h1];exact congrArg some (IntWalk.i64_in _ ⟨by omega,by omega⟩)
theorem mN_lt (m:Int):mN m<65536:=by unfold mN;omega
theorem mN_nat {u:Nat} (h:u<65536):mN (u:Int)=u:=by unfold mN;omega
theorem or_bit (u:Nat) (m:Int) (k:Nat):(u |||mN m).testBit k=(u.testBit k ||mBit m k):=Nat.testBit_or u (mN m) k
theorem or_lt {u:Nat} (h:u<65536) (m:Int):u |||mN m<65536:=Nat.or_lt_two_pow (n:=16) h (mN_lt m)
end Go.Proofs.YtikllmoofngjnaaGreatDoor.B
