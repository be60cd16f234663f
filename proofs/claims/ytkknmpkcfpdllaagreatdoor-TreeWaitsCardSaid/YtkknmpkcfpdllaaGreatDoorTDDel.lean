/- What functions of the program compute, each function once: steps over the model, and the plain law of it. -/
import Derived.Test.YtkknmpkcfpdllaaGreatDoorTDPut2
import Derived.Test.YtkknmpkcfpdllaaGreatDoorTTree7
namespace Go.Proofs.YtkknmpkcfpdllaaGreatDoor.B
open Go
set_option linter.unusedVariables false
set_option linter.unusedSimpArgs false
set_option linter.unnecessarySimpa false
variable {B:Nat}
def delKv (l:Ens) (k:Bs):Ens:=l.filter fun e=>decide (e.1≠k)
theorem delKv_append (l m:Ens) (k:Bs):delKv (l++m) k=delKv l k++delKv m k:=by simp [delKv]
theorem delKv_id {l:Ens} {k:Bs} (h: ∀e∈l,e.1≠k):delKv l k=l:=by rw [delKv,List.filter_eq_self];intro e he;simpa using h e he
theorem delKv_right {k:Bs} {R:Ens} (hR: ∀e∈R,ltB k e.1=true) (l:Ens):delKv (l++R) k=delKv l k++R:=by rw [delKv_append,delKv_id (l:=R)];intro e he h;have:=hR e he;rw [h,ltB_irrefl] at this;cases this
theorem delKv_left {k:Bs} {l:Ens} (L:Ens) (hL: ∀e∈L,ltB e.1 k=true):delKv (L++l) k=L++delKv l k:=by rw [delKv_append,delKv_id (l:=L)];intro e he h;have:=hL e he;rw [h,ltB_irrefl] at this;cases this
theorem delKv_found {k:Bs}: ∀l:Ens,Sorted l→(findP l k).2=true→l.eraseIdx (findP l k).1=delKv l k
 | [],_,h=>by simp [findP] at h
 |e::r,hs,h=>by
  have hs':=List.pairwise_cons.1 hs;rw [findP] at h ⊢;split at h
  ·rename_i h1;have hne:e.1≠k:=by intro e2;rw [e2,ltB_irrefl] at h1;cases h1
   rw [if_pos h1];simp only [List.eraseIdx_cons_succ];rw [delKv_found r hs'.2 h,delKv,delKv,List.filter_cons_of_pos (by simpa using hne)]
  rename_i h1;have he:e.1=k:=by simpa using h
  rw [if_neg h1];simp only [List.eraseIdx_cons_zero];have:delKv r k=r:=delKv_id (fun q hq h2=>by have:=hs'.1 q hq;rw [h2,he,ltB_irrefl] at this;cases this);rw [delKv,List.filter_cons_of_neg (by simpa using he)];exact this.symm
theorem delKv_none {l:Ens} {k:Bs} (hs:Sorted l) (h:(findP l k).2=false):delKv l k=l:=by refine delKv_id (fun e he h2=> ?_);rw [findP_of_mem l hs ⟨e,he,h2⟩] at h;cases h
theorem delKv_ok {lo:Bs} {hi:Option Bs} {l:Ens} (k:Bs) (h:KvOk lo hi l):KvOk lo hi (delKv l k):=
 ⟨List.Pairwise.sublist List.filter_sublist h.1,fun e he=>h.2 e (List.mem_filter.1 he).1⟩
theorem delKv_len (l:Ens) (k:Bs):(delKv l k).length≤l.length:=List.length_filter_le _ _
theorem insR_view {id:Int}: ∀(l:Ens) (i:Nat) (b:Bt) (x:Pg),b.view id=some x→x.id=id→x.ents.length=i→i+l.length≤8→
  ∃b',b.all (insR id i l)= .ok b'∧b'.view=b.view.upd id {x with ents:=x.ents++l}
 | [],i,b,x,hv,hid,hi,hl=>by
  refine ⟨b,rfl, ?_⟩;funext k;by_cases hk:k=id
  ·subst hk;rw [upd_same,hv,List.append_nil]
  rw [upd_other hk]
 |e::r,i,b,x,hv,hid,hi,hl=>by
  simp only [List.length_cons] at hl;obtain ⟨b1,h1,hv1⟩:=doR_view (b:=b) (r:={page:=id,kind:=2,slot:=(i:Nat),key:=e.1,val:=e.2}) (x:=x) (.inr ⟨by simp,hv⟩) hid;have he:effP x {page:=id,kind:=2,slot:=(i:Nat),key:=e.1,val:=e.2}={x with ents:=x.ents++ [e]}:=by
   unfold effP;rw [if_neg (by simp),if_pos rfl,if_pos (by omega)];have hm:(min ((i:Nat):Int) (x.ents.length:Nat)).toNat=x.ents.length:=by omega
   rw [hm,insertIdx_len]
  rw [he] at hv1;obtain ⟨b2,h2,hv2⟩:=insR_view r (i+1) b1 {x with ents:=x.ents++ [e]} (by rw [hv1,upd_same]) hid (by simp [hi]) (by omega);refine ⟨b2,by rw [insR,Bt.all,h1];exact h2, ?_⟩;rw [hv2,hv1];funext k;by_cases hk:k=id
  ·subst hk;rw [upd_same,upd_same];simp
  rw [upd_other hk,upd_other hk,upd_other hk]
theorem join_view {b:Bt} {av:List Int} {p X Y:Pg} {kk:Nat} (hm:AvV B b.view av) (hi:IdsOk b.view) (hp:b.view p.id=some p) (hX:b.view X.id=some X) (hY:b.view Y.id=some Y) (hs:X.ents.length+Y.ents.length≤6) (hk:kk+1<p.ents.length) (hn:Y.next<256)
  (d1:p.id≠X.id) (d2:X.id≠Y.id) (d3:p.id≠Y.id) (d4:p.id≠1) (d5:X.id≠1) (d6:1<Y.id) (d7:Y.id<256) (a1:p.id ∉ av) (a2:X.id ∉ av) (a3:Y.id ∉ av) (hBd:256≤B+av.length) :
  ∃b' m q,b.joinL p kk X Y= .ok b'∧m.id=1∧q.id=Y.id∧b'.view=(((b.view.upd X.id {X with ents:=X.ents++Y.ents,next:=Y.next}).upd p.id {p with ents:=p.ents.eraseIdx (kk+1)}).upd Y.id q).upd 1 m∧AvV B b'.view (Y.id::av):=by
 obtain ⟨b1,t1,v1⟩:=insR_view (id:=X.id) Y.ents X.ents.length b X hX rfl rfl (by omega);obtain ⟨b2,t2,v2⟩:=doR_view (b:=b1) (r:={page:=X.id,kind:=5,slot:=nextP Y}) (x:={X with ents:=X.ents++Y.ents}) (.inr ⟨by simp,by rw [v1,upd_same]⟩) rfl;have e2:effP {X with ents:=X.ents++Y.ents} {page:=X.id,kind:=5,slot:=nextP Y}={X with ents:=X.ents++Y.ents,next:=Y.next}:=by
  unfold effP;rw [if_neg (by simp),if_neg (by simp),if_neg (by simp),if_neg (by simp),if_pos rfl];by_cases h:Y.next= -1
  ·have h1:nextP Y=256:=by rw [nextP,if_pos h]
   rw [if_pos (by simp only [];omega),h]
  have h1:nextP Y=Y.next:=by rw [nextP,if_neg h]
  rw [if_neg (by simp only [];omega)];simp only [h1]
 rw [e2] at v2;have hp2:b2.view p.id=some p:=by rw [v2,upd_other d1,v1,upd_other d1];exact hp
 obtain ⟨b3,t3,v3⟩:=doR_view (b:=b2) (r:={page:=p.id,kind:=3,slot:=((kk+1:Nat):Int)}) (x:=p) (.inr ⟨by simp,hp2⟩) rfl;have e3:effP p {page:=p.id,kind:=3,slot:=((kk+1:Nat):Int)}={p with ents:=p.ents.eraseIdx (kk+1)}:=by unfold effP;rw [if_neg (by simp),if_neg (by simp),if_pos rfl,if_pos (by simp only [];omega)];simp only [Int.toNat_natCast]
 rw [e3] at v3;have v3':b3.view=(b.view.upd X.id {X with ents:=X.ents++Y.ents,next:=Y.next}).upd p.id {p with ents:=p.ents.eraseIdx (kk+1)}:=by
  rw [v3,v2,v1];funext j;by_cases hj:j=p.id
  ·subst hj;simp only [upd_same]
  rw [upd_other hj,upd_other hj];by_cases h2:j=X.id
  ·subst h2;simp only [upd_same]
  simp only [upd_other h2]
 have hA3:AvV B b3.view av:=hm.frame (by rw [v3',upd_other (Ne.symm d4),upd_other (Ne.symm d5)]) (fun j hj=>by rw [v3',upd_other (by rintro rfl;exact a1 hj),upd_other (by rintro rfl;exact a2 hj)]);have hi3:IdsOk b3.view:=by rw [v3'];refine IdsOk.upd (IdsOk.upd hi ?_) ?_<;>rfl
 obtain ⟨b4,m,t4,m1,⟨q,q1,v4⟩,hA4⟩:=free_av hA3 hi3 d6 d7 a3 hBd;refine ⟨b4,m,q, ?_,m1,q1,by rw [v4,v3'],hA4⟩;rw [Bt.joinL,if_neg (by omega),t1];simp only [];rw [Bt.all,t2];simp only [];rw [Bt.all,t3];simp only [Bt.all];exact t4
theorem Chs.pair {C:CP} {a c:Bs×Bs} {post:Ens}: ∀(pre:Ens) {lo:Bs} {hi:Option Bs} {fl nx:Int} {ids:List Int} {kv:Ens},Chs C (pre++a::c::post) lo hi fl nx ids kv→
  ∃lo1 hi1 f1 m1 n1 iL i1 i2 iR kL k1 k2 kR,a.2.length=2∧c.2.length=2∧ltB lo1 c.1=true∧below c.1 hi1∧C (numberP a.2) lo1 (some c.1) f1 m1 i1 k1∧C (numberP c.2) c.1 hi1 m1 n1 i2 k2∧ids=iL++(i1++i2)++iR∧kv=kL++(k1++k2)++kR∧
   ∀(C':CP) ids'' kv'',(∀id lo hi fl nx js kv,(∀j∈js,j∈iL∨j∈iR)→C id lo hi fl nx js kv→C' id lo hi fl nx js kv)→C' (numberP a.2) lo1 hi1 f1 n1 ids'' kv''→Chs C' (pre++a::post) lo hi fl nx (iL++ids''++iR) (kL++kv''++kR)
 | [],lo,hi,fl,nx,ids,kv,h=>by
  obtain ⟨h0,h1,h2,md,i1,i2,k1,k2,rfl,rfl,h3,h4⟩:=h;cases post with
  |nil=>
   refine ⟨lo,hi,fl,md,nx, [],i1,i2, [], [],k1,k2, [],h0,h4.1,h1,h2,h3,h4.2,by simp,by simp,fun C' ids'' kv'' _ hm=> ?_⟩;simp only [List.nil_append,List.append_nil];exact ⟨h0,hm⟩
  |cons d post=>
   obtain ⟨g0,g1,g2,md2,j1,j2,l1,l2,rfl,rfl,g3,g4⟩:=h4;refine ⟨lo,some d.1,fl,md,md2, [],i1,j1,j2, [],k1,l1,l2,h0,g0,h1,g1,h3,g3,by simp,by simp,fun C' ids'' kv'' hc hm=> ?_⟩;simp only [List.nil_append];exact ⟨h0,ltB_trans h1 g1,g2,md2,ids'',j2,kv'',l2,rfl,rfl,hm,Chs.mono (d::post) (fun id lo hi fl nx js kv hj=>hc id lo hi fl nx js kv (fun j hjm=> .inr (hj j hjm))) g4⟩
 |p::pre,lo,hi,fl,nx,ids,kv,h=>by
  obtain ⟨e2,r,he⟩: ∃e2 r,pre++a::c::post=e2::r:=by cases pre with
   |nil=>exact ⟨_,_,rfl⟩
   |cons q s=>exact ⟨_,_,rfl⟩
  rw [List.cons_append,he] at h;obtain ⟨h0,h1,h2,md,i1,i2,k1,k2,rfl,rfl,h3,h4⟩:=h;rw [←he] at h4;obtain ⟨lo1,hi1,f1,m1,n1,iL,j1,j2,iR,kL,l1,l2,kR,g1,g2,g3,g4,g5,g6,rfl,rfl,g9⟩:=Chs.pair pre h4;refine ⟨lo1,hi1,f1,m1,n1,i1++iL,j1,j2,iR,k1++kL,l1,l2,kR,g1,g2,g3,g4,g5,g6,by simp,by simp,fun C' ids'' kv'' hc hm=> ?_⟩;have h5:=g9 C' ids'' kv'' (fun id lo hi fl nx js kv hj=>hc id lo hi fl nx js kv (fun j hjm=>by rcases hj j hjm with q|q;exact .inl (by simp [q]);exact .inr q)) hm;obtain ⟨r',he'⟩: ∃r',pre++a::post=e2::r':=by
   cases pre with
   |nil=>simp only [List.nil_append,List.cons.injEq] at he;exact ⟨post,by rw [List.nil_append,he.1]⟩
   |cons q s=>simp only [List.cons_append,List.cons.injEq] at he;exact ⟨s++a::post,by rw [List.cons_append,he.1]⟩
  rw [List.cons_append,he'];rw [he'] at h5;refine ⟨h0,h1,h2,md,i1,iL++ids''++iR,k1,kL++kv''++kR,by simp,by simp, ?_,h5⟩;exact hc _ _ _ _ _ _ _ (fun j hj=> .inl (by simp [hj])) h3
def WandP (V:Vw) (n:Nat) (id:Int) (lo:Bs) (hi:Option Bs) (fl nx:Int) (ids:List Int) (kv:Ens) (key:Bs) (p:Pg):Prop:=
 ∃(idsL idsp idsR:List Int) (kvL kvp kvR:Ens) (lo':Bs) (hi':Option Bs) (fl' nx':Int),ids=idsL++idsp++idsR∧kv=kvL++kvp++kvR∧V p.id=some p∧SubT V 1 p.id lo' hi' fl' nx' idsp kvp∧InR lo' hi' key∧
  ((n=1∧p.id=id∧idsL= []∧idsR= [])∨(1<n∧ ∃t,idsL=id::t))∧
  ∀(V'':Vw) idsp'' kvp'',(∀j∈idsL,V'' j=V j)→(∀j∈idsR,V'' j=V j)→SubT V'' 1 p.id lo' hi' fl' nx' idsp'' kvp''→SubT V'' n id lo hi fl nx (idsL++idsp''++idsR) (kvL++kvp''++kvR)
theorem down_p {b:Bt} {key:Bs} (hi0:IdsOk b.view): ∀(m f:Nat) {id lo hi fl nx ids kv} (l:List Pg) (ks:List Nat),m+2≤f→SubT b.view (m+1) id lo hi fl nx ids kv→InR lo hi key→
  ∃l' ks' p y,b.downF key f id l ks= .ok (l++l'++ [p,y],ks++ks'++ [childP p key])∧(∃c,p.ents[childP p key]? =some c∧c.2.length=2∧b.view (numberP c.2)=some y∧y.level=0)∧WandP b.view (m+1) id lo hi fl nx ids kv key p
 |0,f,id,lo,hi,fl,nx,ids,kv,l,ks,hf,hs,hk=>by
  obtain ⟨f,rfl⟩: ∃g,f=g+1+1:=⟨f - 2,by omega⟩;have hs0:=hs;obtain ⟨js,rfl,x,hx,hlv,hxn,hlen,⟨v,r,hes⟩,hch⟩:=hs;have hxid:=hi0 _ x hx;rw [hes] at hch;obtain ⟨pre,c,post,lo',hi',fl',nx',idsL,ids',idsR,kvL,kv',kvR,g1,g2,g3,g4,g5,rfl,rfl,g8,g9,g10⟩:=Chs.focus r ([],v) hch hk;have hcp:childP x key=pre.length:=by rw [childP_cnt hes (Chs.rise _ _ hch),g2]
  have hget:x.ents[pre.length]? =some c:=by rw [hes,g1];simp
  have hlt:pre.length<x.ents.length:=by rw [hes,g1];simp
  have hat:atP x (childP x key:Nat)= .ok (numberP c.2):=by
   have hd:x.ents.getD ((pre.length:Int)).toNat ([], [])=c:=by simp [List.getD,hget]
   rw [atP,hcp,if_neg (by omega),hd,if_neg (by simp [g4])]
  obtain ⟨e1,e2,y,hy,hy0,_⟩:=g5;refine ⟨[], [],x,y, ?_,⟨c,by rw [hcp];exact hget,g4,hy,hy0⟩, ?_⟩
  ·rw [Bt.downF,page_of_view hx];simp only [];rw [if_neg (by omega),hat];simp only [];rw [Bt.downF,page_of_view hy];simp only [];rw [if_pos hy0];simp
  refine ⟨[],id::(idsL++ids'++idsR), [], [],kvL++kv'++kvR, [],lo,hi,fl,nx,by simp,by simp,by rw [hxid];exact hx,by rw [hxid];exact hs0,hk, .inl ⟨rfl,hxid,rfl,rfl⟩,fun V'' idsp'' kvp'' _ _ hS=> ?_⟩;rw [hxid] at hS;simpa using hS
 |m+1,f,id,lo,hi,fl,nx,ids,kv,l,ks,hf,hs,hk=>by
  obtain ⟨f,rfl⟩: ∃g,f=g+1:=⟨f - 1,by omega⟩;obtain ⟨js,rfl,x,hx,hlv,hxn,hlen,⟨v,r,hes⟩,hch⟩:=hs;rw [hes] at hch;obtain ⟨pre,c,post,lo',hi',fl',nx',idsL,ids',idsR,kvL,kv',kvR,g1,g2,g3,g4,g5,rfl,rfl,g8,g9,g10⟩:=Chs.focus r ([],v) hch hk;have hcp:childP x key=pre.length:=by rw [childP_cnt hes (Chs.rise _ _ hch),g2]
  have hget:x.ents[pre.length]? =some c:=by rw [hes,g1];simp
  have hlt:pre.length<x.ents.length:=by rw [hes,g1];simp
  have hat:atP x (childP x key:Nat)= .ok (numberP c.2):=by
   have hd:x.ents.getD ((pre.length:Int)).toNat ([], [])=c:=by simp [List.getD,hget]
   rw [atP,hcp,if_neg (by omega),hd,if_neg (by simp [g4])]
  obtain ⟨l',ks',p,y,hr,hy,iL,ip,iR,kL,kp,kR,lo2,hi2,f2,n2,rfl,rfl,w1,w2,wk,w3,w4⟩:=down_p hi0 m f (l++ [x]) (ks++ [childP x key]) (by omega) g5 g3;refine ⟨x::l',childP x key::ks',p,y, ?_,hy,id::(idsL++iL),ip,iR++idsR,kvL++kL,kp,kR++kvR,lo2,hi2,f2,n2,by simp,by simp,w1,w2,wk, .inr ⟨by omega,_,rfl⟩,fun V'' ip'' kp'' hL hR hS=> ?_⟩
  ·rw [Bt.downF,page_of_view hx];simp only [];rw [if_neg (by omega),hat];simp only [];rw [hr];simp
  have h1:=w4 V'' ip'' kp'' (fun j hj=>hL j (by simp [hj])) (fun j hj=>hR j (by simp [hj])) hS;have hall:=g10 (SubT V'' (m+1)) [] (iL++ip''++iR) (kL++kp''++kR) (fun id' lo hi fl nx is kv hj hs'=>SubT.frame (m+1) (fun j hjm=>by
   rcases hj j hjm with q|q
   ·exact hL j (by simp [q])
   exact hR j (by simp [q])) hs') ⟨g4,h1⟩
  refine ⟨idsL++iL++ip''++(iR++idsR),by simp,x,by rw [hL id (by simp)];exact hx,hlv,hxn,hlen,⟨v,r,hes⟩, ?_⟩;rw [hes,g1];simpa using hall
end Go.Proofs.YtkknmpkcfpdllaaGreatDoor.B
