/- What functions of the program compute, each function once: steps over the model, and the plain law of it. -/
import Derived.Test.YtkknmpkcfpdllaaGreatDoorTTreeLaid
import Derived.Test.YtkknmpkcfpdllaaGreatDoorTTree7
import Derived.Test.YtkknmpkcfpdllaaGreatDoorTTreeLawA
namespace Go.Proofs.YtkknmpkcfpdllaaGreatDoor.B
open Go
set_option linter.unusedVariables false
set_option linter.unusedSimpArgs false
set_option linter.unnecessarySimpa false
variable {B:Nat}
def delKv (l:Ens) (k:Bs):Ens:=l.filter fun e=>decide (e.1≠k)
theorem delKv_append (l m:Ens) (k:Bs):delKv (l++m) k=delKv l k++delKv m k:=by simp [delKv]
theorem delKv_id {l:Ens} {k:Bs} (h: ∀e∈l,e.1≠k):delKv l k=l:=by rw [delKv,List.filter_eq_self];intro e he;simpa using h e he
theorem delKv_right {k:Bs} {R:Ens} (hR: ∀e∈R,ltB k e.1=true) (l:Ens):delKv (l++R) k=delKv l k++R:=by rw [delKv_append,delKv_id (l:=R)];intro e he h;have:=hR e he;rw [h,ltB_irrefl] at this;cases this
theorem delKv_left {k:Bs} {l:Ens} (L:Ens) (hL: ∀e∈L,ltB e.1 k=true):delKv (L++l) k=L++delKv l k:=by rw [delKv_append,delKv_id (l:=L)];intro e he h;have:=hL e he;rw [h,ltB_irrefl] at this;cases this
theorem delKv_found {k:Bs}: ∀l:Ens,Sorted l->(findP l k).2=true->l.eraseIdx (findP l k).1=delKv l k
 | [],_,h=>by simp [findP] at h
 |e::r,hs,h=>by
  have hs':=List.pairwise_cons.1 hs;rw [findP] at h ⊢;split at h
  ·rename_i h1;have hne:e.1≠k:=by intro e2;rw [e2,ltB_irrefl] at h1;cases h1
   rw [if_pos h1];simp only [List.eraseIdx_cons_succ];rw [delKv_found r hs'.2 h,delKv,delKv,List.filter_cons_of_pos (by simpa using hne)]
  rename_i h1;have he:e.1=k:=by simpa using h
  rw [if_neg h1];simp only [List.eraseIdx_cons_zero];have:delKv r k=r:=delKv_id (fun q hq h2=>by have:=hs'.1 q hq;rw [h2,he,ltB_irrefl] at this;cases this);rw [delKv,List.filter_cons_of_neg (by simpa using he)];exact this.symm
theorem delKv_none {l:Ens} {k:Bs} (hs:Sorted l) (h:(findP l k).2=false):delKv l k=l:=by refine delKv_id (fun e he h2=> ?_);rw [findP_of_mem l hs ⟨e,he,h2⟩] at h;cases h
theorem delKv_ok {lo:Bs} {hi:Option Bs} {l:Ens} (k:Bs) (h:KvOk lo hi l):KvOk lo hi (delKv l k):=
 ⟨List.Pairwise.sublist List.filter_sublist h.1,fun e he=>h.2 e (List.mem_filter.1 he).1⟩
theorem delKv_len (l:Ens) (k:Bs):(delKv l k).length<=l.length:=List.length_filter_le _ _
theorem insR_view {id:Int}: ∀(l:Ens) (i:Nat) (b:Bt) (x:Pg),b.view id=some x->x.id=id->x.ents.length=i->i+l.length<=8->
  ∃b',b.all (insR id i l)= .ok b'/\b'.view=b.view.upd id {x with ents:=x.ents++l}
 | [],i,b,x,hv,hid,hi,hl=>by
  refine ⟨b,rfl, ?_⟩;funext k;by_cases hk:k=id
  ·subst hk;rw [upd_same,hv,List.append_nil]
  rw [upd_other hk]
 |e::r,i,b,x,hv,hid,hi,hl=>by
  simp only [List.length_cons] at hl;obtain ⟨b1,h1,hv1⟩:=doR_view (b:=b) (r:={page:=id,kind:=2,slot:=(i:Nat),key:=e.1,val:=e.2}) (x:=x) (.inr ⟨by simp,hv⟩) hid;have he:effP x {page:=id,kind:=2,slot:=(i:Nat),key:=e.1,val:=e.2}={x with ents:=x.ents++ [e]}:=by
   unfold effP;rw [if_neg (by simp),if_pos rfl,if_pos (by omega)];have hm:(min ((i:Nat):Int) (x.ents.length:Nat)).toNat=x.ents.length:=by omega
   rw [hm,insertIdx_len]
  rw [he] at hv1;obtain ⟨b2,h2,hv2⟩:=insR_view r (i+1) b1 {x with ents:=x.ents++ [e]} (by rw [hv1,upd_same]) hid (by simp [hi]) (by omega);refine ⟨b2,by rw [insR,Bt.all,h1];exact h2, ?_⟩;rw [hv2,hv1];funext k;by_cases hk:k=id
  ·subst hk;rw [upd_same,upd_same];simp
  rw [upd_other hk,upd_other hk,upd_other hk]
theorem join_view {b:Bt} {av:List Int} {p X Y:Pg} {kk:Nat} (hm:AvV B b.view av) (hi:IdsOk b.view) (hp:b.view p.id=some p) (hX:b.view X.id=some X) (hY:b.view Y.id=some Y) (hs:X.ents.length+Y.ents.length<=6) (hk:kk+1<p.ents.length) (hn:Y.next<256)
  (d1:p.id≠X.id) (d2:X.id≠Y.id) (d3:p.id≠Y.id) (d4:p.id≠1) (d5:X.id≠1) (d6:1<Y.id) (d7:Y.id<256) (a1:p.id ∉ av) (a2:X.id ∉ av) (a3:Y.id ∉ av) (hBd:256<=B+av.length) :
  ∃b' m q,b.joinL p kk X Y= .ok b'/\m.id=1/\q.id=Y.id/\b'.view=(((b.view.upd X.id {X with ents:=X.ents++Y.ents,next:=Y.next}).upd p.id {p with ents:=p.ents.eraseIdx (kk+1)}).upd Y.id q).upd 1 m/\AvV B b'.view (Y.id::av):=by
 obtain ⟨b1,t1,v1⟩:=insR_view (id:=X.id) Y.ents X.ents.length b X hX rfl rfl (by omega);obtain ⟨b2,t2,v2⟩:=doR_view (b:=b1) (r:={page:=X.id,kind:=5,slot:=nextP Y}) (x:={X with ents:=X.ents++Y.ents}) (.inr ⟨by simp,by rw [v1,upd_same]⟩) rfl;have e2:effP {X with ents:=X.ents++Y.ents} {page:=X.id,kind:=5,slot:=nextP Y}={X with ents:=X.ents++Y.ents,next:=Y.next}:=by
  unfold effP;rw [if_neg (by simp),if_neg (by simp),if_neg (by simp),if_neg (by simp),if_pos rfl];by_cases h:Y.next= -1
  ·have h1:nextP Y=256:=by rw [nextP,if_pos h]
   rw [if_pos (by simp only [];omega),h]
  have h1:nextP Y=Y.next:=by rw [nextP,if_neg h]
  rw [if_neg (by simp only [];omega)];simp only [h1]
 rw [e2] at v2;have hp2:b2.view p.id=some p:=by rw [v2,upd_other d1,v1,upd_other d1];exact hp
 obtain ⟨b3,t3,v3⟩:=doR_view (b:=b2) (r:={page:=p.id,kind:=3,slot:=((kk+1:Nat):Int)}) (x:=p) (.inr ⟨by simp,hp2⟩) rfl;have e3:effP p {page:=p.id,kind:=3,slot:=((kk+1:Nat):Int)}={p with ents:=p.ents.eraseIdx (kk+1)}:=by unfold effP;rw [if_neg (by simp),if_neg (by simp),if_pos rfl,if_pos (by simp only [];omega)];simp only [Int.toNat_natCast]
 rw [e3] at v3;have v3':b3.view=(b.view.upd X.id {X with ents:=X.ents++Y.ents,next:=Y.next}).upd p.id {p with ents:=p.ents.eraseIdx (kk+1)}:=by
  rw [v3,v2,v1];funext j;by_cases hj:j=p.id
  ·subst hj;simp only [upd_same]
  rw [upd_other hj,upd_other hj];by_cases h2:j=X.id
  ·subst h2;simp only [upd_same]
  simp only [upd_other h2]
 have hA3:AvV B b3.view av:=hm.frame (by rw [v3',upd_other (Ne.symm d4),upd_other (Ne.symm d5)]) (fun j hj=>by rw [v3',upd_other (by rintro rfl;exact a1 hj),upd_other (by rintro rfl;exact a2 hj)]);have hi3:IdsOk b3.view:=by rw [v3'];refine IdsOk.upd (IdsOk.upd hi ?_) ?_<;>rfl
 obtain ⟨b4,m,t4,m1,⟨q,q1,v4⟩,hA4⟩:=free_av hA3 hi3 d6 d7 a3 hBd;refine ⟨b4,m,q, ?_,m1,q1,by rw [v4,v3'],hA4⟩;rw [Bt.joinL,if_neg (by omega),t1];simp only [];rw [Bt.all,t2];simp only [];rw [Bt.all,t3];simp only [Bt.all];exact t4
theorem Chs.pair {C:CP} {a c:Bs×Bs} {post:Ens}: ∀(pre:Ens) {lo:Bs} {hi:Option Bs} {fl nx:Int} {ids:List Int} {kv:Ens},Chs C (pre++a::c::post) lo hi fl nx ids kv->
  ∃lo1 hi1 f1 m1 n1 iL i1 i2 iR kL k1 k2 kR,a.2.length=2/\c.2.length=2/\ltB lo1 c.1=true/\below c.1 hi1/\C (numberP a.2) lo1 (some c.1) f1 m1 i1 k1/\C (numberP c.2) c.1 hi1 m1 n1 i2 k2/\ids=iL++(i1++i2)++iR/\kv=kL++(k1++k2)++kR/\
   ∀(C':CP) ids'' kv'',(∀id lo hi fl nx js kv,(∀j∈js,j∈iL\/j∈iR)->C id lo hi fl nx js kv->C' id lo hi fl nx js kv)->C' (numberP a.2) lo1 hi1 f1 n1 ids'' kv''->Chs C' (pre++a::post) lo hi fl nx (iL++ids''++iR) (kL++kv''++kR)
 | [],lo,hi,fl,nx,ids,kv,h=>by
  obtain ⟨h0,h1,h2,md,i1,i2,k1,k2,rfl,rfl,h3,h4⟩:=h;cases post with
  |nil=>
   refine ⟨lo,hi,fl,md,nx, [],i1,i2, [], [],k1,k2, [],h0,h4.1,h1,h2,h3,h4.2,by simp,by simp,fun C' ids'' kv'' _ hm=> ?_⟩;simp only [List.nil_append,List.append_nil];exact ⟨h0,hm⟩
  |cons d post=>
   obtain ⟨g0,g1,g2,md2,j1,j2,l1,l2,rfl,rfl,g3,g4⟩:=h4;refine ⟨lo,some d.1,fl,md,md2, [],i1,j1,j2, [],k1,l1,l2,h0,g0,h1,g1,h3,g3,by simp,by simp,fun C' ids'' kv'' hc hm=> ?_⟩;simp only [List.nil_append];exact ⟨h0,ltB_trans h1 g1,g2,md2,ids'',j2,kv'',l2,rfl,rfl,hm,Chs.mono (d::post) (fun id lo hi fl nx js kv hj=>hc id lo hi fl nx js kv (fun j hjm=> .inr (hj j hjm))) g4⟩
 |p::pre,lo,hi,fl,nx,ids,kv,h=>by
  obtain ⟨e2,r,he⟩: ∃e2 r,pre++a::c::post=e2::r:=by cases pre with
   |nil=>exact ⟨_,_,rfl⟩
   |cons q s=>exact ⟨_,_,rfl⟩
  rw [List.cons_append,he] at h;obtain ⟨h0,h1,h2,md,i1,i2,k1,k2,rfl,rfl,h3,h4⟩:=h;rw [<-he] at h4;obtain ⟨lo1,hi1,f1,m1,n1,iL,j1,j2,iR,kL,l1,l2,kR,g1,g2,g3,g4,g5,g6,rfl,rfl,g9⟩:=Chs.pair pre h4;refine ⟨lo1,hi1,f1,m1,n1,i1++iL,j1,j2,iR,k1++kL,l1,l2,kR,g1,g2,g3,g4,g5,g6,by simp,by simp,fun C' ids'' kv'' hc hm=> ?_⟩;have h5:=g9 C' ids'' kv'' (fun id lo hi fl nx js kv hj=>hc id lo hi fl nx js kv (fun j hjm=>by rcases hj j hjm with q|q;exact .inl (by simp [q]);exact .inr q)) hm;obtain ⟨r',he'⟩: ∃r',pre++a::post=e2::r':=by
   cases pre with
   |nil=>simp only [List.nil_append,List.cons.injEq] at he;exact ⟨post,by rw [List.nil_append,he.1]⟩
   |cons q s=>simp only [List.cons_append,List.cons.injEq] at he;exact ⟨s++a::post,by rw [List.cons_append,he.1]⟩
  rw [List.cons_append,he'];rw [he'] at h5;refine ⟨h0,h1,h2,md,i1,iL++ids''++iR,k1,kL++kv''++kR,by simp,by simp, ?_,h5⟩;exact hc _ _ _ _ _ _ _ (fun j hj=> .inl (by simp [hj])) h3
def WandP (V:Vw) (n:Nat) (id:Int) (lo:Bs) (hi:Option Bs) (fl nx:Int) (ids:List Int) (kv:Ens) (key:Bs) (p:Pg):Prop:=
 ∃(idsL idsp idsR:List Int) (kvL kvp kvR:Ens) (lo':Bs) (hi':Option Bs) (fl' nx':Int),ids=idsL++idsp++idsR/\kv=kvL++kvp++kvR/\V p.id=some p/\SubT V 1 p.id lo' hi' fl' nx' idsp kvp/\InR lo' hi' key/\
  ((n=1/\p.id=id/\idsL= []/\idsR= [])\/(1<n/\ ∃t,idsL=id::t))/\
  ∀(V'':Vw) idsp'' kvp'',(∀j∈idsL,V'' j=V j)->(∀j∈idsR,V'' j=V j)->SubT V'' 1 p.id lo' hi' fl' nx' idsp'' kvp''->SubT V'' n id lo hi fl nx (idsL++idsp''++idsR) (kvL++kvp''++kvR)
theorem down_p {b:Bt} {key:Bs} (hi0:IdsOk b.view): ∀(m f:Nat) {id lo hi fl nx ids kv} (l:List Pg) (ks:List Nat),m+2<=f->SubT b.view (m+1) id lo hi fl nx ids kv->InR lo hi key->
  ∃l' ks' p y,b.downF key f id l ks= .ok (l++l'++ [p,y],ks++ks'++ [childP p key])/\(∃c,p.ents[childP p key]? =some c/\c.2.length=2/\b.view (numberP c.2)=some y/\y.level=0)/\WandP b.view (m+1) id lo hi fl nx ids kv key p
 |0,f,id,lo,hi,fl,nx,ids,kv,l,ks,hf,hs,hk=>by
  obtain ⟨f,rfl⟩: ∃g,f=g+1+1:=⟨f - 2,by omega⟩;have hs0:=hs;obtain ⟨js,rfl,x,hx,hlv,hxn,hlen,⟨v,r,hes⟩,hch⟩:=hs;have hxid:=hi0 _ x hx;rw [hes] at hch;obtain ⟨pre,c,post,lo',hi',fl',nx',idsL,ids',idsR,kvL,kv',kvR,g1,g2,g3,g4,g5,rfl,rfl,g8,g9,g10⟩:=Chs.focus r ([],v) hch hk;have hcp:childP x key=pre.length:=by rw [childP_cnt hes (Chs.rise _ _ hch),g2]
  have hget:x.ents[pre.length]? =some c:=by rw [hes,g1];simp
  have hlt:pre.length<x.ents.length:=by rw [hes,g1];simp
  have hat:atP x (childP x key:Nat)= .ok (numberP c.2):=by
   have hd:x.ents.getD ((pre.length:Int)).toNat ([], [])=c:=by simp [List.getD,hget]
   rw [atP,hcp,if_neg (by omega),hd,if_neg (by simp [g4])]
  obtain ⟨e1,e2,y,hy,hy0,_⟩:=g5;refine ⟨[], [],x,y, ?_,⟨c,by rw [hcp];exact hget,g4,hy,hy0⟩, ?_⟩
  ·rw [Bt.downF,page_of_view hx];simp only [];rw [if_neg (by omega),hat];simp only [];rw [Bt.downF,page_of_view hy];simp only [];rw [if_pos hy0];simp
  refine ⟨[],id::(idsL++ids'++idsR), [], [],kvL++kv'++kvR, [],lo,hi,fl,nx,by simp,by simp,by rw [hxid];exact hx,by rw [hxid];exact hs0,hk, .inl ⟨rfl,hxid,rfl,rfl⟩,fun V'' idsp'' kvp'' _ _ hS=> ?_⟩;rw [hxid] at hS;simpa using hS
 |m+1,f,id,lo,hi,fl,nx,ids,kv,l,ks,hf,hs,hk=>by
  obtain ⟨f,rfl⟩: ∃g,f=g+1:=⟨f - 1,by omega⟩;obtain ⟨js,rfl,x,hx,hlv,hxn,hlen,⟨v,r,hes⟩,hch⟩:=hs;rw [hes] at hch;obtain ⟨pre,c,post,lo',hi',fl',nx',idsL,ids',idsR,kvL,kv',kvR,g1,g2,g3,g4,g5,rfl,rfl,g8,g9,g10⟩:=Chs.focus r ([],v) hch hk;have hcp:childP x key=pre.length:=by rw [childP_cnt hes (Chs.rise _ _ hch),g2]
  have hget:x.ents[pre.length]? =some c:=by rw [hes,g1];simp
  have hlt:pre.length<x.ents.length:=by rw [hes,g1];simp
  have hat:atP x (childP x key:Nat)= .ok (numberP c.2):=by
   have hd:x.ents.getD ((pre.length:Int)).toNat ([], [])=c:=by simp [List.getD,hget]
   rw [atP,hcp,if_neg (by omega),hd,if_neg (by simp [g4])]
  obtain ⟨l',ks',p,y,hr,hy,iL,ip,iR,kL,kp,kR,lo2,hi2,f2,n2,rfl,rfl,w1,w2,wk,w3,w4⟩:=down_p hi0 m f (l++ [x]) (ks++ [childP x key]) (by omega) g5 g3;refine ⟨x::l',childP x key::ks',p,y, ?_,hy,id::(idsL++iL),ip,iR++idsR,kvL++kL,kp,kR++kvR,lo2,hi2,f2,n2,by simp,by simp,w1,w2,wk, .inr ⟨by omega,_,rfl⟩,fun V'' ip'' kp'' hL hR hS=> ?_⟩
  ·rw [Bt.downF,page_of_view hx];simp only [];rw [if_neg (by omega),hat];simp only [];rw [hr];simp
  have h1:=w4 V'' ip'' kp'' (fun j hj=>hL j (by simp [hj])) (fun j hj=>hR j (by simp [hj])) hS;have hall:=g10 (SubT V'' (m+1)) [] (iL++ip''++iR) (kL++kp''++kR) (fun id' lo hi fl nx is kv hj hs'=>SubT.frame (m+1) (fun j hjm=>by
   rcases hj j hjm with q|q
   ·exact hL j (by simp [q])
   exact hR j (by simp [q])) hs') ⟨g4,h1⟩
  refine ⟨idsL++iL++ip''++(iR++idsR),by simp,x,by rw [hL id (by simp)];exact hx,hlv,hxn,hlen,⟨v,r,hes⟩, ?_⟩;rw [hes,g1];simpa using hall
variable {B:Nat}
structure TrW (B:Nat) (b:Bt) (K n:Nat) (av:List Int) (fl:Int) (ids:List Int) (kv:Ens):Prop where
 g:GoodA B b av ids
 s:SubT b.view n 0 [] none fl (-1) ids kv
 o:OccL b.view 0 ids
 c:ids.length+av.length=255
 w: ∀x,b.view 0=some x->wt b.view ids.tail+(x.ents.length - 2)<=K
theorem TrA.toW {b:Bt} {K n:Nat} {av ids:List Int} {fl:Int} {kv:Ens} (h:TrA B b K n av fl ids kv):TrW B b K n av fl ids kv:=⟨h.g,h.s,h.o,h.c,h.w⟩
theorem TrW.toA {b:Bt} {K n:Nat} {av ids:List Int} {fl:Int} {kv:Ens} (h:TrW B b K n av fl ids kv) (hr: ∀x,b.view 0=some x->0<n->2<=x.ents.length):TrA B b K n av fl ids kv:=⟨h.g,h.s,h.o,h.c,hr,h.w⟩
theorem eraseIdx_mid {α:Type} (a c:α) (post:List α): ∀pre:List α,(pre++a::c::post).eraseIdx (pre.length+1)=pre++a::post
 | []=>rfl
 |p::ps=>by simp only [List.cons_append,List.length_cons,List.eraseIdx_cons_succ];rw [eraseIdx_mid a c post ps]
theorem split_two {α:Type} (l:List α) (k:Nat) (h:k+1<l.length): ∃pre a c post,l=pre++a::c::post/\pre.length=k:=by refine ⟨l.take k,l[k],l[k+1],l.drop (k+2), ?_,by rw [List.length_take];omega⟩;rw [<-List.drop_eq_getElem_cons h,<-List.drop_eq_getElem_cons (by omega:k<l.length),List.take_append_drop]
theorem atP_get {p:Pg} {k:Nat} {c:Bs×Bs} (h:p.ents[k]? =some c) (h2:c.2.length=2):atP p (k:Nat)= .ok (numberP c.2):=by
 obtain ⟨h1,_⟩:=List.getElem?_eq_some_iff.1 h;have hd:p.ents.getD ((k:Int)).toNat ([], [])=c:=by simp [List.getD,h]
 rw [atP,if_neg (by omega),hd,if_neg (by simp [h2])]
theorem free_runs {b b':Bt} {p:Int} {av:List Int} (hA:AvV B b.view av) (hp:0<=p/\p<256) (ht:b.free p= .ok b'):Runs b b' 3:=by
 obtain ⟨u,f,fr,h,_⟩:=hA;have hf:=(FreeC.rg fr h.c).2;rw [Bt.free,h.pages] at ht;refine ⟨_,by simp, ?_,ht⟩;intro r hr;simp only [List.mem_cons,List.not_mem_nil,or_false] at hr;rcases hr with q|q|q<;>subst q
 ·exact ⟨⟨rfl,rfl,rfl,rfl⟩,hp,⟨by simp,by simp⟩,⟨by simp,by simp⟩,by simp,by simp⟩
 ·exact ⟨⟨rfl,rfl,rfl,rfl⟩,hp,⟨by simp,by simp⟩,⟨by simp only [];split<;>omega,by simp only [];split<;>omega⟩,by simp,by simp⟩
 exact ⟨⟨rfl,rfl,rfl,rfl⟩,⟨by simp,by simp⟩,⟨by simp,by simp⟩,⟨by simp,by simp⟩,by simp,by simp [twoB]⟩
theorem insR_ok {id:Int} (hid:0<=id/\id<256): ∀(l:Ens) (i:Nat),i+l.length<=32768->(∀e∈l,e.1.length<=32/\e.2.length<=64)-> ∀r∈insR id i l,RcOk r/\r.page=id
 | [],i,_,_=>by simp [insR]
 |e::s,i,hl,he=>by
  simp only [List.length_cons] at hl;have h2:=insR_ok hid s (i+1) (by omega) (fun q hq=>he q (by simp [hq]));intro r hr;rw [insR] at hr;rcases List.mem_cons.1 hr with q|q
  ·subst q;exact ⟨⟨⟨rfl,rfl,rfl,rfl⟩,hid,⟨by simp,by simp⟩,⟨by simp only [];omega,by simp only [];omega⟩,(he e (by simp)).1,(he e (by simp)).2⟩,rfl⟩
  exact h2 r q
theorem page1_all {b':Bt}: ∀(rs:List Rc) {b:Bt},(∀r∈rs,r.page≠1)->b.all rs= .ok b'->b'.page 1=b.page 1
 | [],b,_,ha=>by rw [Bt.all] at ha;injection ha with ha;subst ha;rfl
 |r::rs,b,hr,ha=>by
  rw [Bt.all] at ha;split at ha
  ·cases ha
  rename_i b1 hb;rw [page1_all rs (fun q hq=>hr q (by simp [hq])) ha];rw [Bt.doR] at hb;split at hb
  ·cases hb
  injection hb with hb;subst hb
  have:=hr r (by simp);simp only [Bt.page];rw [if_neg (Ne.symm this)]
theorem joinL_runs {b b':Bt} {av:List Int} {p X Y:Pg} {k:Nat} (hA:AvV B b.view av) (hX:PgOk X) (hY:PgOk Y) (hp:PgOk p) (h1:X.id≠1) (h2:p.id≠1) (hk:k<8) (ht:b.joinL p k X Y= .ok b'):Runs b b' 13:=by
 rw [Bt.joinL] at ht;split at ht
 ·injection ht with ht;subst ht;exact Runs.refl _ _
 split at ht
 ·cases ht
 rename_i b1 t1;split at ht
 ·cases ht
 rename_i b2 t2;obtain ⟨u,f,fr,h,_⟩:=hA;have hf:=(FreeC.rg fr h.c).2;have hok1:=insR_ok (id:=X.id) hX.id Y.ents X.ents.length (by have:=hX.len;have:=hY.len;omega) (fun e he=>hY.ents e he);have r1:Runs b b1 8:=⟨_,by rw [insR_len];exact hY.len,fun r hr=>(hok1 r hr).1,t1⟩;have hnn:0<=nextP Y/\nextP Y<=256:=by have:=hY.next;rw [nextP];split<;>omega
 have r2:Runs b1 b2 2:=by
  refine ⟨_,by simp, ?_,t2⟩;intro r hr;simp only [List.mem_cons,List.not_mem_nil,or_false] at hr;rcases hr with q|q<;>subst q
  ·exact ⟨⟨rfl,rfl,rfl,rfl⟩,hX.id,⟨by simp,by simp⟩,⟨hnn.1,by simp only [];omega⟩,by simp,by simp⟩
  exact ⟨⟨rfl,rfl,rfl,rfl⟩,hp.id,⟨by simp,by simp⟩,⟨by simp only [];omega,by simp only [];omega⟩,by simp,by simp⟩
 have e1:b1.page 1=b.page 1:=page1_all _ (fun r hr=>by rw [(hok1 r hr).2];exact h1) t1;have e2:b2.page 1=b1.page 1:=page1_all _ (fun r hr=>by
  simp only [List.mem_cons,List.not_mem_nil,or_false] at hr;rcases hr with q|q<;>subst q
  ·exact h1
  exact h2) t2
 have hpg:b2.pages= .ok ((u:Int),f):=by have:=h.pages;rw [Bt.pages] at this ⊢;rw [e2,e1];exact this
 have r3:Runs b2 b' 3:=by
  rw [Bt.free,hpg] at ht;refine ⟨_,by simp, ?_,ht⟩;intro r hr;simp only [List.mem_cons,List.not_mem_nil,or_false] at hr;rcases hr with q|q|q<;>subst q
  ·exact ⟨⟨rfl,rfl,rfl,rfl⟩,hY.id,⟨by simp,by simp⟩,⟨by simp,by simp⟩,by simp,by simp⟩
  ·exact ⟨⟨rfl,rfl,rfl,rfl⟩,hY.id,⟨by simp,by simp⟩,⟨by simp only [];split<;>omega,by simp only [];split<;>omega⟩,by simp,by simp⟩
  exact ⟨⟨rfl,rfl,rfl,rfl⟩,⟨by simp,by simp⟩,⟨by simp,by simp⟩,⟨by simp,by simp⟩,by simp,by simp [twoB]⟩
 exact (r1.trans r2 (Nat.le_refl _)).trans r3 (Nat.le_refl _)
theorem join_trW {b:Bt} {K n:Nat} {av ids:List Int} {fl:Int} {kv:Ens} {p:Pg} {k:Nat} {key:Bs} (h:TrA B b K n av fl ids kv) (ha:AllOk b) (hw:WandP b.view n 0 [] none fl (-1) ids kv key p) (hk:k<p.ents.length) (hBd:256<=B+av.length) :
  ∃b2 av2 ids2,b.join p (k:Nat)= .ok b2/\Runs b b2 13/\TrW B b2 K n av2 fl ids2 kv/\(∀x,b2.view 0=some x->(1<n->2<=x.ents.length)/\1<=x.ents.length)/\256<=B+av2.length:=by
 obtain ⟨idsL,idsp,idsR,kvL,kvp,kvR,lo',hi',fl',nx',rfl,rfl,hp,hS,_,hpos,hre⟩:=hw;have hn1:1<=n:=by rcases hpos with ⟨q,_⟩|⟨q,_⟩<;>omega
 have hroot: ∀x,b.view 0=some x->(1<n->2<=x.ents.length)/\1<=x.ents.length:=fun x hx=>by
  have:=h.r x hx (by omega);exact ⟨fun _=>this,by omega⟩
 by_cases h2:p.ents.length<2
 ·exact ⟨b,av,_,by rw [Bt.join,if_pos h2],Runs.refl _ _,h.toW,hroot,hBd⟩
 obtain ⟨js,rfl,p',hp',hplv,hpn,hpl,⟨v,r,hpe⟩,hch⟩:=hS;rw [hp] at hp';injection hp' with hp';subst hp'
 have hplv1:p.level=1:=hplv;clear hplv;have hkk:kkP p k+1<p.ents.length:=by rw [kkP];split<;>omega
 obtain ⟨pre,a,c,post,hsp,hpre⟩:=split_two p.ents (kkP p k) hkk;rw [hsp] at hch;obtain ⟨lo1,hi1,f1,m1,n1,iL,i1,i2,iR,kL,k1,k2,kR,ha2,hc2,hlt,hbl,⟨e1,e2,X,hX,hX0,hXn,hXe,hX8,hXs,hXk⟩,⟨e3,e4,Y,hY,hY0,hYn,hYe,hY8,hYs,hYk⟩,e5,e6,hre2⟩:=Chs.pair pre hch;subst e1;subst e2;subst e3;subst e4;subst e5;subst e6;have hXid:=h.g.i _ _ hX;have hYid:=h.g.i _ _ hY;have hpick:b.pickF p [kkP p k,kkP p k+1] []= .ok [X,Y]:=by
  have g1:p.ents[kkP p k]? =some a:=by rw [hsp,<-hpre];simp
  have g2:p.ents[kkP p k+1]? =some c:=by rw [hsp,<-hpre,List.getElem?_append_right (by omega)];simp
  rw [Bt.pickF,atP_get g1 ha2];simp only [];rw [page_of_view hX];simp only [];rw [Bt.pickF,atP_get g2 hc2];simp only [];rw [page_of_view hY];rfl
 have hj:b.join p (k:Nat)=b.joinL p (kkP p k) X Y:=by rw [join_eq (by omega),hpick];rfl
 by_cases h6:6<X.ents.length+Y.ents.length
 ·exact ⟨b,av,_,by rw [hj,Bt.joinL,if_pos h6],Runs.refl _ _,h.toW,hroot,hBd⟩
 have hnd:=h.g.ids;have hin: ∀j∈idsL++(p.id::(iL++([numberP a.2]++ [numberP c.2])++iR))++idsR,0<=j/\j<256/\j≠1/\j ∉ av:=fun j hj=>⟨(h.g.rgi hj).1,(h.g.rgi hj).2.1,(h.g.rgi hj).2.2,fun q=>h.g.dis hj q⟩;have hpP:=hin p.id (by simp);have hpX:=hin (numberP a.2) (by simp);have hpY:=hin (numberP c.2) (by simp);have hperm:(idsL++(p.id::(iL++([numberP a.2]++ [numberP c.2])++iR))++idsR).Perm (numberP c.2::(idsL++(p.id::(iL++ [numberP a.2]++iR))++idsR)):=by have q:=List.perm_middle (a:=numberP c.2) (l₁:=idsL++(p.id::(iL++ [numberP a.2]))) (l₂:=iR++idsR);simpa using q
 have hnd2:=List.nodup_cons.1 (hperm.nodup_iff.1 hnd);have hnewm: ∀j∈idsL++(p.id::(iL++ [numberP a.2]++iR))++idsR,j∈idsL++(p.id::(iL++([numberP a.2]++ [numberP c.2])++iR))++idsR:=fun j hj=>hperm.mem_iff.2 (List.mem_cons_of_mem _ hj);have hneY: ∀j∈idsL++(p.id::(iL++ [numberP a.2]++iR))++idsR,j≠numberP c.2:=fun j hj e=>hnd2.1 (by rw [<-e];exact hj);have hnd3:=hnd2.2;have hnd4:(p.id::numberP a.2::(idsL++iL++iR++idsR)).Nodup:=by
  have q1:(idsL++(p.id::(iL++ [numberP a.2]++iR))++idsR).Perm (p.id::(idsL++(iL++ [numberP a.2]++iR)++idsR)):=by have q:=List.perm_middle (a:=p.id) (l₁:=idsL) (l₂:=iL++ [numberP a.2]++iR++idsR);simpa using q
  have q2:(idsL++(iL++ [numberP a.2]++iR)++idsR).Perm (numberP a.2::(idsL++iL++iR++idsR)):=by have q:=List.perm_middle (a:=numberP a.2) (l₁:=idsL++iL) (l₂:=iR++idsR);simpa using q
  exact (q1.trans (q2.cons p.id)).nodup_iff.1 hnd3
 have hnd5:=List.nodup_cons.1 hnd4;have hnd6:=List.nodup_cons.1 hnd5.2;have hoth: ∀j∈idsL++iL++iR++idsR,j≠p.id/\j≠numberP a.2/\j≠numberP c.2/\j≠1:=by
  intro j hj;refine ⟨fun e=>hnd5.1 (by rw [<-e];simp only [List.mem_cons];exact .inr hj),fun e=>hnd6.1 (by rw [<-e];exact hj),hneY j ?_,(hin j ?_).2.2.1⟩
  ·simp only [List.mem_append,List.mem_cons] at hj ⊢;rcases hj with ((q|q)|q)|q<;>simp [q]
  simp only [List.mem_append,List.mem_cons] at hj ⊢;rcases hj with ((q|q)|q)|q<;>simp [q]
 have hpXne:p.id≠numberP a.2:=fun e=>hnd5.1 (by rw [e];simp);have hpYne:p.id≠numberP c.2:=hneY p.id (by simp);have hXYne:numberP a.2≠numberP c.2:=hneY _ (by simp);have hY0id:numberP c.2≠0:=by
  intro e;obtain ⟨x0,t,_,_,_,hids⟩:=h.id0;rcases hpos with ⟨_,q2,q3,_⟩|⟨_,t2,q2⟩
  ·rw [<-q2] at e;exact hpYne e.symm
  have:(0:Int)∈idsL:=by rw [q2];simp
  exact hneY 0 (by simp [this]) e.symm
 have hYnx:Y.next<256:=(ha _ _ (page_of_view hY)).1.next.2;obtain ⟨b2,m,q,t2,m1,q1,v2,hA2⟩:=join_view (p:=p) (X:=X) (Y:=Y) (kk:=kkP p k) h.g.m h.g.i hp (by rw [hXid];exact hX) (by rw [hYid];exact hY) (by omega) hkk hYnx (by rw [hXid];exact hpXne) (by rw [hXid,hYid];exact hXYne) (by rw [hYid];exact hpYne) hpP.2.2.1 (by rw [hXid];exact hpX.2.2.1) (by rw [hYid];omega) (by rw [hYid];exact hpY.2.1) hpP.2.2.2 (by rw [hXid];exact hpX.2.2.2) (by rw [hYid];exact hpY.2.2.2) hBd;rw [hXid,hYid] at v2;rw [hYid] at hA2 q1;have hers:p.ents.eraseIdx (kkP p k+1)=pre++a::post:=by rw [hsp,<-hpre];exact eraseIdx_mid a c post pre
 rw [hers] at v2;have vp:b2.view p.id=some {p with ents:=pre++a::post}:=by rw [v2,upd_other hpP.2.2.1,upd_other hpYne,upd_same]
 have vX:b2.view (numberP a.2)=some {X with ents:=X.ents++Y.ents,next:=Y.next}:=by rw [v2,upd_other hpX.2.2.1,upd_other hXYne,upd_other (Ne.symm hpXne),upd_same,<-hXid]
 have vo: ∀j,j≠p.id->j≠numberP a.2->j≠numberP c.2->j≠1->b2.view j=b.view j:=fun j h1 h2 h3 h4=>by rw [v2,upd_other h4,upd_other h3,upd_other h1,upd_other h2]
 have voth: ∀j∈idsL++iL++iR++idsR,b2.view j=b.view j:=fun j hj=>by have:=hoth j hj;exact vo j this.1 this.2.1 this.2.2.1 this.2.2.2
 have hkv12:KvOk lo1 hi1 (k1++k2):=KvOk.append ⟨hXs,hXk⟩ ⟨hYs,hYk⟩ hlt hbl;have hXnew:SubT b2.view 0 (numberP a.2) lo1 hi1 (numberP a.2) n1 [numberP a.2] (k1++k2):=
  ⟨rfl,rfl,_,vX,hX0,hYn,by simp only [hXe,hYe],by rw [List.length_append,<-hXe,<-hYe];omega,hkv12.1,hkv12.2⟩
 have hch2:=hre2 (SubT b2.view 0) [numberP a.2] (k1++k2) (fun id' lo hi fl nx is kv hj hs'=>SubT.frame 0 (fun j hjm=>voth j (by rcases hj j hjm with q|q<;>simp [q])) hs') hXnew;have hSp:SubT b2.view 1 p.id lo' hi' fl' nx' (p.id::(iL++ [numberP a.2]++iR)) (kL++(k1++k2)++kR):=by
  refine ⟨_,rfl,_,vp,hplv1,hpn, ?_, ?_,hch2⟩
  ·have e:=congrArg List.length hsp;simp only [List.length_append,List.length_cons] at e ⊢;omega
  cases pre with
  |nil=>
   rw [hpe] at hsp;simp only [List.nil_append,List.cons.injEq] at hsp;exact ⟨v,post,by simp only [List.nil_append];rw [<-hsp.1]⟩
  |cons d s=>
   rw [hpe] at hsp;simp only [List.cons_append,List.cons.injEq] at hsp;exact ⟨v,s++a::post,by simp only [List.cons_append];rw [<-hsp.1]⟩
 have hSn:=hre b2.view _ _ (fun j hj=>voth j (by simp [hj])) (fun j hj=>voth j (by simp [hj])) hSp;have hplen:(pre++a::post).length+1=p.ents.length:=by have e:=congrArg List.length hsp;simp only [List.length_append,List.length_cons] at e ⊢;omega
 refine ⟨b2,numberP c.2::av,idsL++(p.id::(iL++ [numberP a.2]++iR))++idsR,by rw [hj];exact t2,joinL_runs h.g.m (ha _ _ (page_of_view hX)).1 (ha _ _ (page_of_view hY)).1 (ha _ _ (page_of_view hp)).1 (by rw [hXid];exact hpX.2.2.1) hpP.2.2.1 (by omega) t2,⟨⟨hA2, ?_, ?_, ?_, ?_⟩,hSn, ?_, ?_, ?_⟩, ?_,by simp only [List.length_cons];omega⟩
 ·rw [v2];refine IdsOk.upd (IdsOk.upd (IdsOk.upd (IdsOk.upd h.g.i ?_) ?_) q1) m1<;>rfl
 ·refine List.nodup_append.2 ⟨hnd3,List.nodup_cons.2 ⟨hpY.2.2.2,h.g.avs⟩, ?_⟩;rintro x hx y hy rfl;rcases List.mem_cons.1 hy with e|e
  ·exact hneY x hx e
  exact (hin x (hnewm x hx)).2.2.2 e
 ·intro j hj;rcases List.mem_append.1 hj with hj|hj
  ·exact h.g.rgi (hnewm j hj)
  rcases List.mem_cons.1 hj with e|e
  ·subst e;exact ⟨hpY.1,hpY.2.1,hpY.2.2.1⟩
  exact h.g.rg j (by simp only [List.mem_append];exact .inr e)
 ·intro j hj;rcases List.mem_cons.1 hj with e|e
  ·subst e;omega
  exact h.g.a1 j e
 ·intro j hj hne x hx hl2;by_cases e1:j=p.id
  ·subst e1;rw [vp] at hx;injection hx with hx;subst hx
   simp only [] at hl2;omega
  by_cases e2:j=numberP a.2
  ·subst e2;rw [vX] at hx;injection hx with hx;subst hx
   simp only [] at hl2;omega
  exact h.o j (hnewm j hj) hne x (by rw [<-vo j e1 e2 (hneY j hj) (hin j (hnewm j hj)).2.2.1];exact hx) hl2
 ·have e:=hperm.length_eq;have hc:=h.c;simp only [List.length_cons] at e hc ⊢;omega
 ·intro x hx;have pwX:pw b2.view (numberP a.2)+1<=pw b.view (numberP a.2)+pw b.view (numberP c.2):=by
   rw [pw_some vX,pw_some hX,pw_some hY];simp only [List.length_append];omega
  have eL:=wt_frame (V:=b.view) (V':=b2.view) idsL (fun j hj=>voth j (by simp [hj]));have eiL:=wt_frame (V:=b.view) (V':=b2.view) iL (fun j hj=>voth j (by simp [hj]));have eiR:=wt_frame (V:=b.view) (V':=b2.view) iR (fun j hj=>voth j (by simp [hj]));have eR:=wt_frame (V:=b.view) (V':=b2.view) idsR (fun j hj=>voth j (by simp [hj]));rcases hpos with ⟨q2,q3,q4,q5⟩|⟨q2,t,q3⟩
  ·subst q4;subst q5;rw [<-q3,vp] at hx;injection hx with hx;subst hx
   have h1:=h.w p (by rw [<-q3];exact hp);simp only [List.nil_append,List.append_nil,List.tail_cons,wt_append,wt_cons,wt_nil] at h1 ⊢;rw [eiL,eiR];omega
  subst q3;have h0:(0:Int)∈(0::t)++iL++iR++idsR:=by simp
  have h00:=hoth 0 h0;have h1:=h.w x (by rw [<-voth 0 h0];exact hx);have pwp:pw b2.view p.id<=pw b.view p.id:=by rw [pw_some vp,pw_some hp];simp only [];omega
  have et:=wt_frame (V:=b.view) (V':=b2.view) t (fun j hj=>voth j (by simp [hj]));simp only [List.cons_append,List.tail_cons,wt_append,wt_cons,wt_nil] at h1 ⊢;rw [eiL,eiR,eR,et];omega
 intro x hx;rcases hpos with ⟨q2,q3,q4,q5⟩|⟨q2,t,q3⟩
 ·rw [<-q3,vp] at hx;injection hx with hx;subst hx
  exact ⟨fun q=>by omega,by simp only [];omega⟩
 subst q3;have h0:(0:Int)∈(0::t)++iL++iR++idsR:=by simp
 exact hroot x (by rw [<-voth 0 h0];exact hx)
variable {B:Nat}
theorem sink_trA {b:Bt} {K n:Nat} {av ids:List Int} {fl:Int} {kv:Ens} (h:TrW B b K n av fl ids kv) (ha:AllOk b) (hr: ∀x,b.view 0=some x->(1<n->2<=x.ents.length)/\(0<n->1<=x.ents.length)) (hBd:256<=B+av.length) :
  ∃b' n' av' fl' ids',b.sink= .ok b'/\Runs b b' 13/\TrA B b' K n' av' fl' ids' kv:=by
 obtain ⟨x,js,hx,hlv,hx8,hids⟩:=SubT.page h.s;have hrx:=hr x hx;have hpg:=page_of_view hx;by_cases h0:n=0
 ·refine ⟨b,n,av,fl,ids, ?_,Runs.refl _ _,h.toA (fun _ _ q=>by omega)⟩;rw [Bt.sink,Bt.sinkF,hpg];simp only [];rw [if_pos (.inl (by omega))]
 by_cases h1:x.ents.length=1
 rotate_left
 ·refine ⟨b,n,av,fl,ids, ?_,Runs.refl _ _,h.toA (fun y hy q=> ?_)⟩
  ·rw [Bt.sink,Bt.sinkF,hpg];simp only [];rw [if_pos (.inr h1)]
  rw [hx] at hy;injection hy with hy;subst hy
  have:=hrx.2 q;omega
 have hn1:n=1:=by
  rcases Nat.lt_or_ge 1 n with q|q
  ·have:=hrx.1 q;omega
  omega
 subst hn1;have hs:=h.s;obtain ⟨js',hjs,x',hx',hlv',hxn,_,⟨v,r,hes⟩,hch⟩:=hs;rw [hx] at hx';injection hx' with hx';subst hx'
 have hr0:r= []:=by rw [hes] at h1;simpa using h1
 subst hr0;rw [hes] at hch;obtain ⟨hv2,e1,e2,Y,hY,hY0,hYn,hYe,hY8,hYs,hYk⟩:=hch;simp only [] at hv2 e1 e2 hY;subst e1;subst e2;subst hjs;have hYid:=h.g.i _ _ hY;have hYr:=h.g.rgi (j:=numberP v) (by simp);have hnd:=List.nodup_cons.1 h.g.ids;have hY0':numberP v≠0:=fun e=>hnd.1 (by rw [e];simp);have hYav:numberP v ∉ av:=fun q=>h.g.dis (j:=numberP v) (by simp) q;have h0av:(0:Int) ∉ av:=fun q=>h.g.dis (j:=0) (by simp) q;obtain ⟨b1,t1,v1⟩:=fill_view (b:=b) (id:=0) (level:=Y.level) (next:= -1) (l:=Y.ents) (by rw [hYe];exact hY8) (by omega) (by omega);rw [hY0,clrK_zero,hYe] at v1;have hA1:AvV B b1.view av:=h.g.m.frame (by rw [v1,upd_other (by omega)]) (fun j hj=>by rw [v1,upd_other (by rintro rfl;exact h0av hj)]);obtain ⟨b2,m,t2,m1,⟨q,q1,v2⟩,hA2⟩:=free_av (p:=numberP v) hA1 (by rw [v1];exact h.g.i.upd rfl) (by omega) hYr.2.1 hYav hBd;have v0:b2.view 0=some ⟨0,0,0, -1,kv⟩:=by rw [v2,upd_other (by omega),upd_other (Ne.symm hY0'),v1,upd_same]
 have hat:atP x 0= .ok (numberP v):=by have:=atP_get (p:=x) (k:=0) (c:=([],v)) (by rw [hes];rfl) hv2;simpa using this
 have hYok:=(ha _ _ (page_of_view hY)).1;have hrr:Runs b b2 13:=(fill_runs ⟨by omega,by omega⟩ ⟨by omega,by omega⟩ ⟨by omega,by omega⟩ hYok.len hYok.ents t1).trans (free_runs hA1 ⟨hYr.1,hYr.2.1⟩ t2) (by decide);refine ⟨b2,0,numberP v::av,0, [0], ?_,hrr,⟨⟨hA2, ?_, ?_, ?_, ?_⟩, ?_, ?_, ?_,fun _ _ q=>by omega, ?_⟩⟩
 ·rw [Bt.sink,Bt.sinkF,hpg];simp only [];rw [if_neg (by rw [h1];simp;omega),hat];simp only [];rw [page_of_view hY];simp only [];rw [t1];simp only [];rw [t2];simp only [];rw [Bt.sinkF,page_of_view v0];simp
 ·rw [v2,v1];refine IdsOk.upd (IdsOk.upd (IdsOk.upd h.g.i ?_) q1) m1;rfl
 ·refine List.nodup_cons.2 ⟨?_,List.nodup_cons.2 ⟨hYav,h.g.avs⟩⟩;show (0:Int) ∉ numberP v::av;simp only [List.mem_cons,not_or];exact ⟨Ne.symm hY0',h0av⟩
 ·intro j hj;simp only [List.mem_append,List.mem_cons,List.not_mem_nil,or_false] at hj;rcases hj with e|e|e
  ·omega
  ·subst e;exact hYr
  exact h.g.rg j (by simp [e])
 ·intro j hj;rcases List.mem_cons.1 hj with e|e
  ·subst e;omega
  exact h.g.a1 j e
 ·exact ⟨rfl,rfl,_,v0,rfl,rfl,rfl,hY8,hYs,hYk⟩
 ·intro j hj hne;simp at hj;exact absurd hj hne
 ·have:=h.c;simp at this ⊢;omega
 intro z hz;rw [v0] at hz;injection hz with hz;subst hz
 have h2:=h.w x hx;simp only [List.tail_cons,wt_cons,wt_nil] at h2 ⊢;rw [pw_some hY,hYe] at h2;omega
theorem snoc2 {α:Type} {l l':List α} {p y z:α} (h:l++ [z]=l'++ [p,y]):z=y:=by have:=congrArg List.getLast? h;simpa using this
theorem delete_trA {b:Bt} {K n:Nat} {av:List Int} {fl:Int} {ids:List Int} {kv:Ens} {key:Bs} (h:TrA B b K n av fl ids kv) (ha:AllOk b) (hk:rightK key=true) (hBd:256<=B+av.length) :
  ∃b' n' av' fl' ids',b.delete key= .ok ((lookKv kv key).isSome,b')/\Runs b b' 27/\TrA B b' K n' av' fl' ids' (delKv kv key):=by
 have hn:=h.lvl;have hk0:key≠ []:=by rintro rfl;simp [rightK] at hk
 obtain ⟨l',ks',y,hd,hy8,hw⟩:=down_n (key:=key) h.g.i n 17 [] [] (by omega) h.g.ids h.s (InR.all key);have hlast:lastPg ([]++l'++ [y])=y:=lastPg_end _ _;obtain ⟨w1,w2,w3,kvL,kvR,lo',hi',hkv,w5,w6,w7,w8,w9⟩:=hw.keys hk0 hw.1;have hlook:lookKv kv key=if (findP y.ents key).2 then some (y.ents.getD (findP y.ents key).1 ([], [])).2 else none:=by rw [hkv,lookKv_right w8,lookKv_left _ w7,lookKv_find]
 have hdk:delKv kv key=kvL++delKv y.ents key++kvR:=by rw [hkv,delKv_right w8,delKv_left _ w7]
 have hdel:b.delete key=(if (findP y.ents key).2=false then .ok (false,b) else match b.doR {page:=y.id,kind:=3,slot:=(findP y.ents key).1} with
  | .fail c o=> .fail c o
  | .ok b=>match ((if 1<([]++l'++ [y]).length/\(y.ents.length:Int) - 1<=2 then b.join (([]++l'++ [y]).getD (([]++l'++ [y]).length - 2) (newPg 0)) (([]++ks').getLastD 0:Nat) else .ok b):Res Bt) with
   | .fail c o=> .fail c o
   | .ok b=>match b.sink with
    | .fail c o=> .fail c o
    | .ok b=> .ok (true,b)):=by
  rw [Bt.delete,if_neg (by rw [hk];simp),Bt.down,hd];simp only [hlast];rfl
 cases hf:(findP y.ents key).2 with
 |false=>
  rw [hf] at hdel hlook;refine ⟨b,n,av,fl,ids,by rw [hdel,hlook];rfl,Runs.refl _ _, ?_⟩;rw [hdk,delKv_none w6.1 hf,<-hkv];exact h
 |true=>
  rw [hf] at hdel hlook;have hlt:=findP_lt hf;obtain ⟨b1,t,v⟩:=doR_view (b:=b) (r:={page:=y.id,kind:=3,slot:=(findP y.ents key).1}) (x:=y) (.inr ⟨by simp,w1⟩) rfl;have he:effP y {page:=y.id,kind:=3,slot:=(findP y.ents key).1}={y with ents:=delKv y.ents key}:=by unfold effP;rw [if_neg (by simp),if_neg (by simp),if_pos rfl,if_pos (by simp only [];omega)];simp only [Int.toNat_natCast];rw [delKv_found _ w6.1 hf]
  rw [he] at v;have hdl:=delKv_len y.ents key;have h1:TrA B b1 (K+0) n av fl ids (kvL++delKv y.ents key++kvR):=leaf_trA h w1 w3 w2 v (by omega) (w9 _ _ (fun j _ hne=>by rw [v,upd_other hne]) (by rw [v,upd_same]) (by omega) (delKv_ok key w6));rw [<-hdk,Nat.add_zero] at h1;have hrc:RcOk {page:=y.id,kind:=3,slot:=(findP y.ents key).1}:=by have hyo:=(ha _ _ (page_of_view w1)).1.id;exact ⟨⟨rfl,rfl,rfl,rfl⟩,hyo,⟨by simp,by simp⟩,⟨by simp only [];omega,by simp only [];omega⟩,by simp,by simp⟩
  have ha1:AllOk b1:=ha.doR hrc t;have hjoin: ∃b2 av2 ids2,((if 1<([]++l'++ [y]).length/\(y.ents.length:Int) - 1<=2 then b1.join (([]++l'++ [y]).getD (([]++l'++ [y]).length - 2) (newPg 0)) (([]++ks').getLastD 0:Nat) else .ok b1):Res Bt)= .ok b2/\Runs b1 b2 13/\TrW B b2 K n av2 fl ids2 (delKv kv key)/\
    (∀x,b2.view 0=some x->(1<n->2<=x.ents.length)/\(0<n->1<=x.ents.length))/\256<=B+av2.length:=by
   split
   rotate_left
   ·exact ⟨b1,av,ids,rfl,Runs.refl _ _,h1.toW,fun x hx=>⟨fun q=>h1.r x hx (by omega),fun q=>by have:=h1.r x hx q;omega⟩,hBd⟩
   rename_i hc;have hc1:1<=l'.length:=by have:=hc.1;simp only [List.nil_append,List.length_append,List.length_cons,List.length_nil] at this;omega
   cases n with
   |zero=>
    exfalso;obtain ⟨_,_,z,hz,hz0,_⟩:=h.s;rw [Bt.downF,page_of_view hz] at hd;simp only [] at hd;rw [if_pos hz0] at hd;injection hd with hd
    injection hd with hd1 hd2
    have:=congrArg List.length hd1;simp only [List.nil_append,List.length_append,List.length_cons,List.length_nil] at this;omega
   |succ m=>
    obtain ⟨l2,ks2,p,y2,hd2,⟨c,hc2,hc3,hc4,hc5⟩,hwp⟩:=down_p (key:=key) h.g.i m 17 [] [] (by omega) h.s (InR.all key);rw [hd] at hd2;injection hd2 with hd2
    injection hd2 with hd3 hd4
    have hyy:y=y2:=snoc2 (by simpa using hd3);subst hyy;have hgl:([]++l'++ [y]).getD (([]++l'++ [y]).length - 2) (newPg 0)=p:=by rw [hd3];simp only [List.nil_append,List.length_append,List.length_cons,List.length_nil];rw [show l2.length+(0+1+1) - 2=l2.length by omega];simp [List.getD]
    have hgk:(([]++ks').getLastD 0:Nat)=childP p key:=by rw [hd4];simp [List.getLastD_eq_getLast?]
    rw [hgl,hgk];obtain ⟨idsL,idsp,idsR,kL,kvp,kR,lo2,hi2,fl2,nx2,hids,hkv2,hp,hS,hin2,hpos,hre⟩:=hwp;have hndp:idsp.Nodup:=by have q:=h.g.ids;rw [hids] at q;exact (List.nodup_append.1 (List.nodup_append.1 q).1).2.1
    have hpl:p.level=1:=by obtain ⟨_,_,z,hz,hz1,_⟩:=hS;rw [hp] at hz;injection hz with hz;subst hz;exact hz1
    obtain ⟨la,ka,ya,hda,hya8,hwa⟩:=down_n (key:=key) h.g.i 1 17 [] [] (by omega) hndp hS hin2;have hyya:ya=y:=by
     rw [Bt.downF,page_of_view hp] at hda;simp only [] at hda;rw [if_neg (by omega),atP_get hc2 hc3] at hda;simp only [] at hda;rw [Bt.downF,page_of_view hc4] at hda;simp only [] at hda;rw [if_pos hc5] at hda;injection hda with hda
     injection hda with hda1 hda2
     have q:la++ [ya]= [p]++ [y]:=by simpa using hda1.symm
     exact snoc2 (l':= []) (p:=p) (by simpa using q)
    subst hyya;obtain ⟨u1,u2,u3,kLa,kRa,lo3,hi3,hkvp,u5,u6,u7,u8,u9⟩:=hwa;have hyp:ya.id≠p.id:=by intro e;rw [e,hp] at w1;injection w1 with w1;subst w1;omega
    have hsub1:=u9 b1.view (delKv ya.ents key) (fun j _ hne=>by rw [v,upd_other hne]) (by rw [v,upd_same]) (by omega) (delKv_ok key u6);have hLn: ∀j∈idsL,j≠ya.id:=by intro j hj e;have q:=h.g.ids;rw [hids] at q;exact (List.nodup_append.1 (List.nodup_append.1 q).1).2.2 j hj ya.id u3 e
    have hRn: ∀j∈idsR,j≠ya.id:=by intro j hj e;have q:=h.g.ids;rw [hids] at q;exact (List.nodup_append.1 q).2.2 ya.id (List.mem_append_right _ u3) j hj e.symm
    have hvL: ∀j∈idsL,b1.view j=b.view j:=fun j hj=>by rw [v,upd_other (hLn j hj)]
    have hvR: ∀j∈idsR,b1.view j=b.view j:=fun j hj=>by rw [v,upd_other (hRn j hj)]
    have hso:=(SubT.kv _ h.s).1;obtain ⟨e0,he0,he0k⟩:=findP_mem _ hf;have hdk2:delKv kv key=kL++(kLa++delKv ya.ents key++kRa)++kR:=by
     rw [hkv2,hkvp] at hso ⊢;have q1:=List.pairwise_append.1 hso;have q2:=List.pairwise_append.1 q1.1;have q3:=List.pairwise_append.1 q2.2.1;have q4:=List.pairwise_append.1 q3.1;rw [delKv_right (R:=kR) (fun e he=>by have:=q1.2.2 e0 (by simp [he0]) e he;rwa [he0k] at this),delKv_left kL (fun e he=>by have:=q2.2.2 e he e0 (by simp [he0]);rwa [he0k] at this),
      delKv_right (R:=kRa) (fun e he=>by have:=q3.2.2 e0 (by simp [he0]) e he;rwa [he0k] at this),delKv_left kLa (fun e he=>by have:=q4.2.2 e he e0 he0;rwa [he0k] at this)]
    have hwp1:WandP b1.view (m+1) 0 [] none fl (-1) ids (delKv kv key) key p:=
     ⟨idsL,idsp,idsR,kL,_,kR,lo2,hi2,fl2,nx2,hids,hdk2,by rw [v,upd_other (Ne.symm hyp)];exact hp,hsub1,hin2,hpos,fun V'' ip kp hL hR hSs=>hre V'' ip kp (fun j hj=>by rw [hL j hj,hvL j hj]) (fun j hj=>by rw [hR j hj,hvR j hj]) hSs⟩
    obtain ⟨b2,av2,ids2,t2,rn2,hW2,hr2,hBd2⟩:=join_trW h1 ha1 hwp1 (List.getElem?_eq_some_iff.1 hc2).1 hBd;exact ⟨b2,av2,ids2,t2,rn2,hW2,fun x hx=>⟨(hr2 x hx).1,fun _=>(hr2 x hx).2⟩,hBd2⟩
  obtain ⟨b2,av2,ids2,t2,rn2,hW2,hr2,hBd2⟩:=hjoin;obtain ⟨b3,n3,av3,fl3,ids3,t3,rn3,h3⟩:=sink_trA hW2 (rn2.ok ha1) hr2 hBd2;refine ⟨b3,n3,av3,fl3,ids3, ?_,((Runs.one t hrc).trans rn2 (Nat.le_refl _)).trans rn3 (Nat.le_refl _),h3⟩;rw [hdel,hlook];simp only [Bool.true_eq_false,if_false,if_true,Option.isSome_some];rw [t];simp only [];rw [t2];simp only [];rw [t3]
theorem HoldsA.delete {b:Bt} {K:Nat} {kv:Ens} {key:Bs} (h:HoldsA B b K kv) (ha:AllOk b) (hk:rightK key=true) (hBK:K+6<=3*B): ∃b',b.delete key= .ok ((lookKv kv key).isSome,b')/\Runs b b' 27/\HoldsA B b' K (delKv kv key):=by obtain ⟨n,av,fl,ids,h⟩:=h;have hpg:=h.pages;have hcc:=h.c;obtain ⟨b',n',av',fl',ids',t,r,h'⟩:=delete_trA h ha hk (by omega);exact ⟨b',t,r,n',av',fl',ids',h'⟩
end Go.Proofs.YtkknmpkcfpdllaaGreatDoor.B
