/- What functions of the program compute, each function once: steps over the model, and the plain law of it. -/
import Derived.Test.YtkknmpkcfpdllaaGreatDoorTDRoom
import Derived.Test.YtkknmpkcfpdllaaGreatDoorTTreeLawA
namespace Go.Proofs.YtkknmpkcfpdllaaGreatDoor.B
open Go
set_option linter.unusedVariables false
set_option linter.unusedSimpArgs false
set_option linter.unnecessarySimpa false
variable {B:Nat}
theorem split_full {b:Bt} {p x:Pg} {k:Int} (h:AvV B b.view []):b.split p k x= .fail 109 none:=by rw [Bt.split,take_full h]
theorem split_av {b:Bt} {u:Int} {av:List Int} {p x:Pg} {k:Nat} (hm:AvV B b.view (u::av)) (hi:IdsOk b.view) (hav:(u::av).Nodup) (h0:1<u) (h1:u<256) (hp:b.view p.id=some p) (hx:b.view x.id=some x)
  (hxl:x.ents.length=8) (hpl:p.ents.length<8) (hk:k+1<=p.ents.length) (hv:x.level<=16) (hn:x.next<256)
  (d1:x.id≠1) (d2:x.id≠u) (d3:p.id≠1) (d4:p.id≠u) (d5:p.id≠x.id) (d6:x.id ∉ av) (d7:p.id ∉ av) (d8: ∀j∈av,1<j) :
  ∃b' m,b.split p k x= .ok b'/\m.id=1/\AvV B b'.view av/\
   b'.view=(((b.view.upd 1 m).upd u (halfR u x)).upd x.id (halfL u x)).upd p.id {p with ents:=p.ents.insertIdx (k+1) ((x.ents.getD 4 ([], [])).1,twoB u)}:=by
 obtain ⟨b1,m,t1,v1,m1,m2⟩:=take_av hm hi hav;have hnx:(if x.level=0 then x.next else -1)<256:=by split<;>omega
 obtain ⟨b2,t2,v2⟩:=fill_view (b:=b1) (id:=u) (level:=x.level) (next:=if x.level=0 then x.next else -1) (l:=x.ents.drop 4) (by simp;omega) hv hnx;have hx2:b2.view x.id=some x:=by rw [v2,upd_other d2,v1,upd_other d1];exact hx
 obtain ⟨b3,t3,v3⟩:=doR_view (b:=b2) (r:={page:=x.id,kind:=6,slot:=4}) (x:=x) (.inr ⟨by simp,hx2⟩) rfl;have e3:effP x {page:=x.id,kind:=6,slot:=4}={x with ents:=x.ents.take 4}:=by unfold effP;rw [if_neg (by simp),if_neg (by simp),if_neg (by simp),if_neg (by simp),if_neg (by simp),if_pos rfl,hxl];rfl
 rw [e3] at v3;have t4: ∃b4,((if x.level=0 then b3.doR {page:=x.id,kind:=5,slot:=u} else .ok b3):Res Bt)= .ok b4/\b4.view=b2.view.upd x.id (halfL u x):=by
  by_cases hl:x.level=0
  ·rw [if_pos hl];obtain ⟨b4,t4,v4⟩:=doR_view (b:=b3) (r:={page:=x.id,kind:=5,slot:=u}) (x:={x with ents:=x.ents.take 4}) (.inr ⟨by simp,by rw [v3];exact upd_same _ _ _⟩) rfl;refine ⟨b4,t4, ?_⟩;have e4:effP {x with ents:=x.ents.take 4} {page:=x.id,kind:=5,slot:=u}=halfL u x:=by
    unfold effP halfL;rw [if_neg (by simp),if_neg (by simp),if_neg (by simp),if_neg (by simp),if_pos rfl,if_neg (by simp only [];omega),if_pos hl]
   rw [v4,e4,v3];funext j;by_cases hj:j=x.id
   ·subst hj;simp only [upd_same]
   simp only [upd_other hj]
  rw [if_neg hl];refine ⟨b3,rfl, ?_⟩;rw [v3,halfL,if_neg hl]
 obtain ⟨b4,t4,v4⟩:=t4;have hp4:b4.view p.id=some p:=by rw [v4,upd_other d5,v2,upd_other d4,v1,upd_other d3];exact hp
 obtain ⟨b5,t5,v5⟩:=doR_view (b:=b4) (r:={page:=p.id,kind:=2,slot:=k+1,key:=(x.ents.getD 4 ([], [])).1,val:=twoB u}) (x:=p) (.inr ⟨by simp,hp4⟩) rfl;have e5:effP p {page:=p.id,kind:=2,slot:=k+1,key:=(x.ents.getD 4 ([], [])).1,val:=twoB u}={p with ents:=p.ents.insertIdx (k+1) ((x.ents.getD 4 ([], [])).1,twoB u)}:=by
  unfold effP;rw [if_neg (by simp),if_pos rfl,if_pos hpl];have:(min ((k:Int)+1) (p.ents.length:Nat)).toNat=k+1:=by omega
  rw [this]
 rw [e5] at v5;have huav:u ∉ av:=(List.nodup_cons.1 hav).1;refine ⟨b5,m, ?_,m1, ?_,by rw [v5,v4,v2,v1];rfl⟩
 ·rw [Bt.split,t1];simp only [t2,t3,t4];exact t5
 refine m2.frame ?_ (fun j hj=> ?_)
 ·rw [v5,upd_other (Ne.symm d3),v4,upd_other (Ne.symm d1),v2,upd_other (by omega)]
 rw [v5,upd_other (by rintro rfl;exact d7 hj),v4,upd_other (by rintro rfl;exact d6 hj),v2,upd_other (by rintro rfl;exact huav hj)]
theorem roomA_succ {n:Nat} (IH:RoomNA B n):RoomNA B (n+1):=by
 intro f b av id lo hi fl nx ids kv x key hf hn hnx hg hs hx hl hk;obtain ⟨f,rfl⟩: ∃g,f=g+1+1:=⟨f - 2,by omega⟩;have hs0:=hs;obtain ⟨js,rfl,x',hx',hlv,hxn,hlen,⟨v,r,hes⟩,hch⟩:=hs;rw [hx] at hx';injection hx' with hx';subst hx'
 have hch':=Chs.nxs (N:=256) (fun _ _ _ _ _ _ _ h=>SubT.fl_mem n h) _ hnx (fun j hj=>(hg.rgi (j:=j) (by simp [hj])).2.1) hch;rw [hes] at hch';obtain ⟨pre,c,post,lo',hi',fl',nx',idsL,ids',idsR,kvL,kv',kvR,g1,g2,g3,g4,⟨g5,g5'⟩,rfl,rfl,g8,g9,g10⟩:=Chs.focus r ([],v) hch' hk;have hrise:=Chs.rise _ _ hch';have hcp:childP x key=pre.length:=by rw [childP_cnt hes hrise,g2]
 have hget:x.ents[pre.length]? =some c:=by rw [hes,g1];simp
 have hlt:pre.length<x.ents.length:=by rw [hes,g1];simp
 have hat:atP x (childP x key:Nat)= .ok (numberP c.2):=by
  have hd:x.ents.getD ((pre.length:Int)).toNat ([], [])=c:=by simp [List.getD,hget]
  rw [atP,hcp,if_neg (by omega),hd,if_neg (by simp [g4])]
 obtain ⟨y,js',hy,hyl,hylen,hyids⟩:=SubT.page g5;by_cases hy8:y.ents.length<8
 ·rcases roomA_down IH (f+1) b av x key (by omega) (by omega) hnx hg hs0 hx hk (by
   intro c2 z h1 h2;rw [hcp,hget] at h1;injection h1 with h1;subst h1
   rw [hy] at h2;injection h2 with h2;subst h2
   exact hy8) with h|⟨h1,h2⟩
  ·exact .inl h
  exact .inr ⟨by omega,h2⟩
 have hy8':y.ents.length=8:=by omega
 have hnd2:=List.nodup_cons.1 hg.ids;have hnd3:=List.nodup_append.1 hnd2.2;have hnd4:=List.nodup_append.1 hnd3.1;have hid':id ∉ ids':=fun h=>hnd2.1 (by simp [h]);have hxid:x.id=id:=hg.i _ _ hx;have hyid:y.id=numberP c.2:=hg.i _ _ hy;have hym:y.id∈ids':=by rw [hyid,hyids];simp
 have hyr:=hg.rgi (j:=y.id) (by simp [hym]);have hidr:=hg.rgi (j:=id) (by simp);have hxy:id≠y.id:=fun e=>hid' (by rw [e];exact hym);have hroom: ∀b1,b.split x (childP x key:Nat) y= .ok b1-> ∀x1,b1.view id=some x1->Bt.roomF key (f+1+1) b x=Bt.roomF key (f+1) b1 x1:=by intro b1 t1 x1 hx1;rw [Bt.roomF,if_neg (by omega),hat];simp only [];rw [page_of_view hy];simp only [];rw [if_pos (by omega),t1];simp only [];rw [hxid,page_of_view hx1]
 cases av with
 |nil=>
  refine .inr ⟨by simp, ?_⟩;rw [Bt.roomF,if_neg (by omega),hat];simp only [];rw [page_of_view hy];simp only [];rw [if_pos (by omega),split_full hg.m]
 |cons u av=>
 have hu1:=hg.a1 u (by simp);have hur:=hg.rg u (by simp);have huav:u ∉ av:=(List.nodup_cons.1 hg.avs).1;have hug:u ∉ id::(idsL++ids'++idsR):=fun h=>hg.dis h (by simp);have hin: ∀j∈id::(idsL++ids'++idsR),j≠u/\j ∉ av:=fun j hj=>⟨by rintro rfl;exact hug hj,fun h=>hg.dis hj (by simp [h])⟩;obtain ⟨b1,m,t1,m1,m2,v1⟩:=split_av (k:=pre.length) hg.m hg.i hg.avs hu1 hur.2.1 (p:=x) (x:=y) (by rw [hxid];exact hx) (by rw [hyid];exact hy) hy8' hl (by omega) (by omega) (SubT.next_lt n g5 g5' hy) hyr.2.2 (hin _ (by simp [hym])).1 (by rw [hxid];exact hidr.2.2) (by rw [hxid];exact (hin _ (by simp)).1) (by rw [hxid];exact hxy) (hin _ (by simp [hym])).2 (by rw [hxid];exact (hin _ (by simp)).2) (fun j hj=>hg.a1 j (by simp [hj]));generalize hse:(y.ents.getD 4 ([], [])).1=s at v1;rw [hxid] at v1;have huid:id≠u:=(hin _ (by simp)).1;have huy:y.id≠u:=(hin _ (by simp [hym])).1;have vy:b1.view y.id=some (halfL u y):=by rw [v1,upd_other (Ne.symm hxy),upd_same]
 have vu:b1.view u=some (halfR u y):=by rw [v1,upd_other (Ne.symm huid),upd_other (Ne.symm huy),upd_same]
 have vo: ∀j,j≠id->j≠y.id->j≠u->j≠1->b1.view j=b.view j:=fun j h1 h2 h3 h4=>by rw [v1,upd_other h1,upd_other h2,upd_other h3,upd_other h4]
 have vx:b1.view id=some {x with ents:=x.ents.insertIdx (pre.length+1) (s,twoB u)}:=by rw [v1,upd_same,<-hxid]
 obtain ⟨md,i1,i2,k1,k2,rfl,hperm,q1,q2,S1,S2⟩:=SubT.split n g5 hy hy8' hyid (fun h=>hug (by simp [h])) hnd4.2.1 (W:=b1.view) (u:=u)
  (fun j hj hne=>vo j (fun e=>hid' (by rw [<-e];exact hj)) (by rw [hyid];exact hne) (hin j (by simp [hj])).1 (hg.rgi (j:=j) (by simp [hj])).2.2)
  (by rw [<-hyid];exact vy) vu
 rw [hse] at q1 q2 S1 S2;have htw:numberP (twoB u)=u:=numberP_twoB (by omega) (by omega);have hL: ∀j∈idsL,j ∉ ids':=fun j hj hj'=>hnd4.2.2 j hj j hj' rfl;have hR: ∀j∈idsR,j ∉ ids':=fun j hj hj'=>hnd3.2.2 j (List.mem_append_right _ hj') j hj rfl;have hvo: ∀j,(j∈idsL\/j∈idsR)->b1.view j=b.view j:=by
  intro j hj;have hjm:j∈id::(idsL++ids'++idsR):=by rcases hj with h|h<;>simp [h]
  refine vo j (fun e=> ?_) (fun e=> ?_) (hin j hjm).1 (hg.rgi hjm).2.2
  ·subst e;exact hnd2.1 (by rcases hj with h|h<;>simp [h])
  subst e;rcases hj with h|h
  ·exact hL _ h hym
  exact hR _ h hym
 have hall:=g10 (SubT b1.view n) [(s,twoB u)] (i1++i2) (k1++k2) (fun id' lo hi fl nx is kv hj hs'=>SubT.frame n (fun j hjm=>hvo j (hj j hjm)) hs'.1)
  ⟨g4,q1,q2,md,i1,i2,k1,k2,rfl,rfl,S1,rfl,by rw [htw];exact S2⟩
 have hins:x.ents.insertIdx (pre.length+1) (s,twoB u)=pre++c::(s,twoB u)::post:=by rw [hes,g1];exact insertIdx_mid c (s,twoB u) post pre
 have hins2:x.ents.insertIdx (pre.length+1) (s,twoB u)=([],v)::(r.take (cnt key r)++(s,twoB u)::r.drop (cnt key r)):=by rw [hes,g2,List.insertIdx_succ_cons,insertIdx_take _ _ _ (cnt_le key r)]
 have hinl:(x.ents.insertIdx (pre.length+1) (s,twoB u)).length=x.ents.length+1:=by rw [hins,hes,g1];simp only [List.length_append,List.length_cons];omega
 have hall':Chs (SubT b1.view n) (x.ents.insertIdx (pre.length+1) (s,twoB u)) lo hi fl nx (idsL++(i1++i2)++idsR) (kvL++(k1++k2)++kvR):=by rw [hins];simpa using hall
 have hsub:SubT b1.view (n+1) id lo hi fl nx (id::(idsL++(i1++i2)++idsR)) (kvL++(k1++k2)++kvR):=
  ⟨_,rfl,_,vx,hlv,hxn,by simp only [];omega,⟨v,_,hins2⟩,hall'⟩
 have hp1:(id::(idsL++(i1++i2)++idsR)).Perm (u::id::(idsL++ids'++idsR)):=by
  have a1:(idsL++(i1++i2)++idsR).Perm (u::(idsL++ids'++idsR)):=by
   have a2:(idsL++(i1++i2)++idsR).Perm (idsL++(u::ids')++idsR):=List.Perm.append_right _ (List.Perm.append_left _ hperm);have a3:(idsL++(u::ids')++idsR).Perm (u::(idsL++ids'++idsR)):=by have:=List.perm_middle (a:=u) (l₁:=idsL) (l₂:=ids'++idsR);simpa using this
   exact a2.trans a3
  exact (a1.cons id).trans (List.Perm.swap _ _ _)
 have hmem1: ∀j,j∈id::(idsL++(i1++i2)++idsR)->j=u\/j∈id::(idsL++ids'++idsR):=fun j hj=>List.mem_cons.1 (hp1.mem_iff.1 hj);have hgood:GoodA B b1 av (id::(idsL++(i1++i2)++idsR)):=by
  refine ⟨m2, ?_,List.nodup_append.2 ⟨hp1.nodup_iff.2 (List.nodup_cons.2 ⟨hug,hg.ids⟩),(List.nodup_cons.1 hg.avs).2, ?_⟩, ?_,fun j hj=>hg.a1 j (by simp [hj])⟩
  ·rw [v1];exact IdsOk.upd (IdsOk.upd (IdsOk.upd (hg.i.upd m1) (x:=halfR u y) rfl) (x:=halfL u y) rfl) rfl
  ·rintro a ha c hc rfl;rcases hmem1 a ha with h|h
   ·subst h;exact huav hc
   exact (hin a h).2 hc
  intro j hj;rcases List.mem_append.1 hj with hj|hj
  ·rcases hmem1 j hj with h|h
   ·subst h;exact hur
   exact hg.rgi h
  exact hg.rg j (by simp [hj])
 have hlen4L:(halfL u y).ents.length=4:=by show (y.ents.take 4).length=4;rw [List.length_take,hy8'];rfl
 have hlen4R:(halfR u y).ents.length=4:=by show (clrK y.level (y.ents.drop 4)).length=4;rw [clrK_len,List.length_drop,hy8']
 have hwt:wt b1.view (idsL++(i1++i2)++idsR)+1=wt b.view (idsL++ids'++idsR):=by
  have hnd5:=List.nodup_cons.1 (hyids▸hnd4.2.1);have ejs:=wt_frame (V:=b.view) (V':=b1.view) js' (fun j hj=>by
   have hjm:j∈ids':=by rw [hyids];simp [hj]
   exact vo j (fun e=>hid' (by rw [<-e];exact hjm)) (fun e=>hnd5.1 (by rw [<-hyid,<-e];exact hj)) (hin j (by simp [hjm])).1 (hg.rgi (j:=j) (by simp [hjm])).2.2)
  have eL:=wt_frame (V:=b.view) (V':=b1.view) idsL (fun j hj=>hvo j (.inl hj));have eR:=wt_frame (V:=b.view) (V':=b1.view) idsR (fun j hj=>hvo j (.inr hj));have e1:wt b1.view (i1++i2)=3+(3+wt b.view js'):=by rw [wt_perm hperm,hyids,wt_cons,wt_cons,ejs,pw_some vu,<-hyid,pw_some vy,hlen4L,hlen4R]
  have e2:wt b.view ids'=7+wt b.view js':=by rw [hyids,wt_cons,pw_some hy,hy8']
  rw [wt_append,wt_append,wt_append b.view (idsL++ids'),wt_append b.view idsL,eL,eR,e1,e2];omega
 have hri:=hall';rw [hins2] at hri;have hcp1:childP {x with ents:=x.ents.insertIdx (pre.length+1) (s,twoB u)} key=pre.length+(if ltB key s=true then 0 else 1):=by rw [childP_cnt (x:={x with ents:=x.ents.insertIdx (pre.length+1) (s,twoB u)}) hins2 (Chs.rise _ _ hri),cnt_ins,g2]
 rw [hroom b1 (by rw [hcp];exact t1) _ vx];rcases roomA_down IH f b1 av _ key (by omega) (by omega) hnx hgood hsub vx hk (by
  intro c2 z h1 h2;rw [hcp1] at h1;simp only [hins] at h1;split at h1
  ·have:c2=c:=by simpa using h1.symm
   subst this;rw [<-hyid,vy] at h2;injection h2 with h2;subst h2;omega
  have:c2=(s,twoB u):=by rw [List.getElem?_append_right (by omega)] at h1;simpa using h1.symm
  subst this;rw [htw,vu] at h2;injection h2 with h2;subst h2;omega) with ⟨b',z,hr,av',ids2,p3,p4,p5,pa,p6,p7,p8,⟨x2,p9,p9',p9l,p9w⟩,p10,p11⟩|⟨h1,h2⟩
 rotate_left
 ·exact .inr ⟨by simp only [List.length_cons];omega,h2⟩
 simp only [List.tail_cons] at p9w;refine .inl ⟨b',z,hr,av',ids2,p3, ?_, ?_,fun j hj=>by simp [pa j hj], ?_, ?_, ?_,⟨x2,p9, ?_,p9l, ?_⟩,p10,p11⟩
 ·intro j hj;rcases p4 j hj with h|h
  ·rcases hmem1 j h with h|h
   ·exact .inr (by simp [h])
   exact .inl h
  exact .inr (by simp [h])
 ·intro j hj;exact p5 j (hp1.mem_iff.2 (List.mem_cons_of_mem _ hj))
 ·have:=hp1.length_eq;rw [p6,this];simp only [List.length_cons];omega
 ·intro j h1 h2 h3;simp only [List.mem_cons,not_or] at h3;rw [p7 j h1 (fun h=>by
   rcases hmem1 j h with h|h
   ·exact h3.1 h
   exact h2 h) h3.2]
  exact vo j (fun e=>h2 (by simp [e])) (fun e=>h2 (by rw [e];simp [hym])) h3.1 h1
 ·intro ho;refine p8 (fun j hj hne q hq hl2=> ?_);by_cases hju:j=u
  ·subst hju;rw [vu] at hq;injection hq with hq;subst hq;omega
  by_cases hjy:j=y.id
  ·subst hjy;rw [vy] at hq;injection hq with hq;subst hq;omega
  rcases hmem1 j hj with h|h
  ·exact absurd h hju
  exact ho j h hne q (by rw [<-vo j hne hjy hju (hg.rgi h).2.2];exact hq) hl2
 ·have p:=p9';simp only [] at p;omega
 simp only [List.tail_cons];omega
theorem roomA_n: ∀n,RoomNA B n
 |0=>roomA_zero
 |n+1=>roomA_succ (roomA_n n)
variable {B:Nat}
structure TrA (B:Nat) (b:Bt) (K n:Nat) (av:List Int) (fl:Int) (ids:List Int) (kv:Ens):Prop where
 g:GoodA B b av ids
 s:SubT b.view n 0 [] none fl (-1) ids kv
 o:OccL b.view 0 ids
 c:ids.length+av.length=255
 r: ∀x,b.view 0=some x->0<n->2<=x.ents.length
 w: ∀x,b.view 0=some x->wt b.view ids.tail+(x.ents.length - 2)<=K
theorem TrA.mono {b:Bt} {K K' n:Nat} {av ids:List Int} {fl:Int} {kv:Ens} (h:TrA B b K n av fl ids kv) (hk:K<=K'):TrA B b K' n av fl ids kv:=
 ⟨h.g,h.s,h.o,h.c,h.r,fun x hx=>by have:=h.w x hx;omega⟩
theorem Chs.size {C:CP} {m:Nat}: ∀(es:Ens) {lo hi fl nx ids kv},(∀id lo hi fl nx js kv,(∀j∈js,j∈ids)->C id lo hi fl nx js kv->m<=js.length)->Chs C es lo hi fl nx ids kv->es.length*m<=ids.length
 | [],_,_,_,_,_,_,_,h=>h.elim
 | [e],_,_,_,_,_,_,hC,h=>by have:=hC _ _ _ _ _ _ _ (fun _ hj=>hj) h.2;simpa using this
 |e::e2::r,_,_,_,_,_,_,hC,h=>by
  obtain ⟨h0,h1,h2,md,i1,i2,k1,k2,rfl,rfl,h3,h4⟩:=h;have a:=hC _ _ _ _ _ _ _ (fun _ hj=>by simp [hj]) h3;have b:=Chs.size (m:=m) (e2::r) (fun _ _ _ _ _ _ _ hj hs=>hC _ _ _ _ _ _ _ (fun j hjm=>by simp [hj j hjm]) hs) h4;have e1:(e::e2::r).length*m=(e2::r).length*m+m:=by simp only [List.length_cons,Nat.add_mul,Nat.one_mul]
  rw [e1,List.length_append];omega
theorem SubT.size {V:Vw}: ∀(n:Nat) {id lo hi fl nx ids kv},(∀j∈ids,∀x,V j=some x->2<=x.level->4<=x.ents.length)->SubT V (n+1) id lo hi fl nx ids kv->4^n<=ids.length
 |0,id,_,_,_,_,_,_,ho,h=>by
  obtain ⟨js,rfl,_⟩:=h;simp
 |n+1,id,_,_,_,_,_,_,ho,h=>by
  obtain ⟨js,rfl,x,h2,h3,_,_,_,h7⟩:=h;have hx:=ho id (by simp) x h2 (by omega);have:=Chs.size (m:=4^n) _ (fun _ _ _ _ _ is _ hj hs=>SubT.size n (fun j hjm=>ho j (by simp [hj j hjm])) hs) h7;have e1:4*4^n<=x.ents.length*4^n:=Nat.mul_le_mul_right _ hx;have e2:4^(n+1)=4*4^n:=by rw [Nat.pow_succ];omega
  simp only [List.length_cons];omega
theorem TrA.lvl {b:Bt} {K n:Nat} {av ids:List Int} {fl:Int} {kv:Ens} (h:TrA B b K n av fl ids kv):n<=5:=by
 have hs:=h.s;have hc:=h.c;rcases Nat.lt_or_ge n 6 with q|q
 ·omega
 obtain ⟨k,rfl⟩: ∃k,n=k+2:=⟨n - 2,by omega⟩;obtain ⟨js,rfl,x,hx,_,_,_,_,hch⟩:=hs;have h2:=h.r x hx (by omega);have hnd:=List.nodup_cons.1 h.g.ids;have:=Chs.size (m:=4^k) _ (fun _ _ _ _ _ is _ hj hs=>SubT.size k (fun j hjm=>h.o j (by simp [hj j hjm]) (fun e=>hnd.1 (by rw [<-e];exact hj j hjm))) hs) hch;have e1:2*4^k<=x.ents.length*4^k:=Nat.mul_le_mul_right _ h2;have h3:4^4<=4^k:=Nat.pow_le_pow_right (by decide) (by omega);have h4:4^4=256:=by decide
 simp only [List.length_cons] at hc;omega
theorem wt_len {V:Vw}: ∀(l:List Int),(∀j∈l,∃x,V j=some x)->3*l.length<=wt V l
 | [],_=>by simp [wt]
 |j::l,h=>by
  obtain ⟨x,hx⟩:=h j (by simp);have:=wt_len l (fun k hk=>h k (by simp [hk]));rw [wt_cons,pw_some hx,List.length_cons];omega
theorem Chs.all_some {C:CP} {V:Vw}: ∀(es:Ens) {lo hi fl nx ids kv},(∀id lo hi fl nx js kv,C id lo hi fl nx js kv-> ∀j∈js,∃x,V j=some x)->Chs C es lo hi fl nx ids kv-> ∀j∈ids,∃x,V j=some x
 | [],_,_,_,_,_,_,_,h=>h.elim
 | [e],_,_,_,_,_,_,hC,h=>hC _ _ _ _ _ _ _ h.2
 |e::e2::r,_,_,_,_,_,_,hC,h=>by
  obtain ⟨h0,h1,h2,md,i1,i2,k1,k2,rfl,rfl,h3,h4⟩:=h;intro j hj;rcases List.mem_append.1 hj with q|q
  ·exact hC _ _ _ _ _ _ _ h3 j q
  exact Chs.all_some (e2::r) hC h4 j q
theorem SubT.all_some {V:Vw}: ∀(n:Nat) {id lo hi fl nx ids kv},SubT V n id lo hi fl nx ids kv-> ∀j∈ids,∃x,V j=some x
 |0,id,_,_,_,_,_,_,h=>by
  obtain ⟨_,rfl,x,h3,_⟩:=h;intro j hj;rw [List.mem_singleton] at hj;subst hj;exact ⟨x,h3⟩
 |n+1,id,_,_,_,_,_,_,h=>by
  obtain ⟨js,rfl,x,h2,_,_,_,_,h7⟩:=h;intro j hj;rcases List.mem_cons.1 hj with q|q
  ·subst q;exact ⟨x,h2⟩
  exact Chs.all_some _ (fun _ _ _ _ _ _ _ hs=>SubT.all_some n hs) h7 j q
theorem TrA.pages {b:Bt} {K n:Nat} {av ids:List Int} {fl:Int} {kv:Ens} (h:TrA B b K n av fl ids kv):3*ids.length<=K+3:=by obtain ⟨x,js,hx,_,_,e⟩:=SubT.page h.s;have h1:=h.w x hx;have h2:=wt_len ids.tail (fun j hj=>SubT.all_some n h.s j (List.mem_of_mem_tail hj));rw [e] at h1 h2 ⊢;simp only [List.tail_cons,List.length_cons] at h1 h2 ⊢;omega
theorem splitRoot_full {b:Bt} {x:Pg} {av:List Int} (h:AvV B b.view av) (hi:IdsOk b.view) (hnd:av.Nodup) (hl:av.length<2):b.splitRoot x= .fail 109 none:=by
 cases av with
 |nil=>rw [Bt.splitRoot,take_full h]
 |cons l av=>
  cases av with
  |nil=>
   obtain ⟨b1,m,t1,v1,m1,m2⟩:=take_av h hi hnd;rw [Bt.splitRoot,t1];simp only [];rw [take_full m2]
  |cons r av=>simp at hl;omega
theorem splitRoot_av {b:Bt} {l r:Int} {av:List Int} {x:Pg} (hm:AvV B b.view (l::r::av)) (hi:IdsOk b.view) (hnd:(l::r::av).Nodup) (ha: ∀j∈l::r::av,1<j/\j<256) (hx:b.view 0=some x)
  (hxl:x.ents.length=8) (hv:x.level<16) :
  ∃b' m,b.splitRoot x= .ok b'/\m.id=1/\AvV B b'.view av/\
   b'.view=(((b.view.upd 1 m).upd l ⟨l,0,x.level,if x.level=0 then r else -1,clrK x.level (x.ents.take 4)⟩).upd r ⟨r,0,x.level, -1,clrK x.level (x.ents.drop 4)⟩).upd 0 ⟨0,0,x.level+1, -1, [([],twoB l),((x.ents.getD 4 ([], [])).1,twoB r)]⟩:=by
 have hid:=hi 0 x hx;have hl:=ha l (by simp);have hr:=ha r (by simp);have hnd2:=List.nodup_cons.1 hnd;have hnd3:=List.nodup_cons.1 hnd2.2;have hlr:r≠l:=by rintro rfl;exact hnd2.1 (by simp)
 obtain ⟨b1,m1,t1,v1,m11,m12⟩:=take_av hm hi hnd;obtain ⟨b2,m,t2,v2,m21,m22⟩:=take_av m12 (by rw [v1];exact hi.upd m11) hnd2.2;have v2':b2.view=b.view.upd 1 m:=by
  rw [v2,v1];funext j;by_cases hj:j=1
  ·subst hj;simp only [upd_same]
  simp only [upd_other hj]
 obtain ⟨b3,t3,v3⟩:=fill_view (b:=b2) (id:=l) (level:=x.level) (next:=if x.level=0 then r else -1) (l:=x.ents.take 4) (by rw [List.length_take];omega) (by omega) (by split<;>omega);obtain ⟨b4,t4,v4⟩:=fill_view (b:=b3) (id:=r) (level:=x.level) (next:= -1) (l:=x.ents.drop 4) (by rw [List.length_drop];omega) (by omega) (by omega);generalize hse:(x.ents.getD 4 ([], [])).1=s;obtain ⟨b5,t5,v5⟩:=doR_view (b:=b4) (r:={page:=0,kind:=1,slot:=x.level+1}) (x:=newPg 0) (.inl ⟨rfl,rfl⟩) rfl;have q5:effP (newPg 0) {page:=0,kind:=1,slot:=x.level+1}=⟨0,0,x.level+1, -1, []⟩:=by unfold effP;rw [if_pos rfl];simp only [newPg];congr 1;omega
 rw [q5] at v5;obtain ⟨b6,t6,v6⟩:=doR_view (b:=b5) (r:={page:=0,kind:=2,val:=twoB l}) (x:=⟨0,0,x.level+1, -1, []⟩) (.inr ⟨by simp,by rw [v5,upd_same]⟩) rfl;have q6:effP ⟨0,0,x.level+1, -1, []⟩ {page:=0,kind:=2,val:=twoB l}=⟨0,0,x.level+1, -1, [([],twoB l)]⟩:=by unfold effP;rw [if_neg (by simp),if_pos rfl,if_pos (by simp)];rfl
 rw [q6] at v6;obtain ⟨b7,t7,v7⟩:=doR_view (b:=b6) (r:={page:=0,kind:=2,slot:=1,key:=s,val:=twoB r}) (x:=⟨0,0,x.level+1, -1, [([],twoB l)]⟩) (.inr ⟨by simp,by rw [v6,upd_same]⟩) rfl;have q7:effP ⟨0,0,x.level+1, -1, [([],twoB l)]⟩ {page:=0,kind:=2,slot:=1,key:=s,val:=twoB r}=⟨0,0,x.level+1, -1, [([],twoB l),(s,twoB r)]⟩:=by unfold effP;rw [if_neg (by simp),if_pos rfl,if_pos (by simp)];rfl
 rw [q7] at v7;have v7':b7.view=(((b.view.upd 1 m).upd l ⟨l,0,x.level,if x.level=0 then r else -1,clrK x.level (x.ents.take 4)⟩).upd r ⟨r,0,x.level, -1,clrK x.level (x.ents.drop 4)⟩).upd 0 ⟨0,0,x.level+1, -1, [([],twoB l),(s,twoB r)]⟩:=by
  rw [v7,v6,v5,v4,v3,v2'];funext j;by_cases hj:j=0
  ·subst hj;simp only [upd_same]
  simp only [upd_other hj]
 refine ⟨b7,m, ?_,m21, ?_,v7'⟩
 ·rw [Bt.splitRoot,t1];simp only [t2,t3,t4,hse];rw [Bt.all,t5];simp only [];rw [Bt.all,t6];simp only [];rw [Bt.all,t7];rfl
 refine m22.frame ?_ (fun j hj=> ?_)
 ·rw [v7',upd_other (by omega),upd_other (by omega),upd_other (by omega),v2']
 have:=ha j (by simp [hj]);rw [v7',upd_other (by omega),upd_other (by rintro rfl;exact hnd3.1 hj),upd_other (by rintro rfl;exact hnd2.1 (by simp [hj])),v2']
theorem splitRoot_trA {b:Bt} {K n:Nat} {l r fl:Int} {av ids:List Int} {kv:Ens} {x:Pg} (h:TrA B b K n (l::r::av) fl ids kv) (hx:b.view 0=some x) (hxl:x.ents.length=8) :
  ∃b' fl' ids' x',b.splitRoot x= .ok b'/\TrA B b' K (n+1) av fl' ids' kv/\b'.view 0=some x'/\x'.ents.length=2:=by
 have hn:=h.lvl;obtain ⟨y,_,hy,hlv,_,_⟩:=SubT.page h.s;rw [hx] at hy;injection hy with hy;subst hy
 have hrl:=h.g.rg l (by simp);have hrr:=h.g.rg r (by simp);have h1l:=h.g.a1 l (by simp);have h1r:=h.g.a1 r (by simp);have hnd2:=List.nodup_cons.1 h.g.avs;have hnd3:=List.nodup_cons.1 hnd2.2;have hlr:l≠r:=by rintro rfl;exact hnd2.1 (by simp)
 obtain ⟨b',m,t,m1,m2,v⟩:=splitRoot_av h.g.m h.g.i h.g.avs (fun j hj=>⟨h.g.a1 j hj,(h.g.rg j (by simp only [List.mem_append];exact .inr hj)).2.1⟩) hx hxl (by omega);generalize hse:(x.ents.getD 4 ([], [])).1=s at v;have v0:b'.view 0=some ⟨0,0,x.level+1, -1, [([],twoB l),(s,twoB r)]⟩:=by rw [v,upd_same]
 have vr:b'.view r=some ⟨r,0,x.level, -1,clrK x.level (x.ents.drop 4)⟩:=by rw [v,upd_other (by omega),upd_same]
 have vl:b'.view l=some ⟨l,0,x.level,if x.level=0 then r else -1,clrK x.level (x.ents.take 4)⟩:=by rw [v,upd_other (by omega),upd_other hlr,upd_same]
 have vo: ∀j,j≠0->j≠1->j≠l->j≠r->b'.view j=b.view j:=fun j h1 h2 h3 h4=>by rw [v,upd_other h1,upd_other h4,upd_other h3,upd_other h2]
 have hxnx:x.level=0->x.next= -1:=by
  intro h0;have hs:=h.s;cases n with
  |zero=>
   obtain ⟨_,_,z,hz,_,h2,_⟩:=hs;rw [hx] at hz;injection hz with hz;subst hz;exact h2
  |succ n=>omega
 have hnl: ∀j∈ids,j≠l/\j≠r/\j ∉ av:=fun j hj=>⟨by rintro rfl;exact h.g.dis hj (by simp),by rintro rfl;exact h.g.dis hj (by simp),fun q=>h.g.dis hj (by simp [q])⟩;obtain ⟨js,fl',md,i1,i2,k1,k2,rfl,rfl,hp,q1,q2,S1,S2⟩:=SubT.split2 n h.s hx hxl h.g.ids (W:=b'.view) (l:=l) (r:=r)
  (fun j hj hne=>vo j hne (h.g.rgi hj).2.2 (hnl j hj).1 (hnl j hj).2.1) vl vr rfl rfl rfl (by simp only [];split<;>rename_i hc;exact (hxnx hc).symm;rfl) rfl rfl
 rw [hse] at q1 q2 S1 S2;have hnd:=List.nodup_cons.1 h.g.ids;have hpm: ∀j,j∈i1++i2->j=l\/j=r\/j∈js:=by intro j hj;have:=hp.mem_iff.1 hj;simpa using this
 have hjs: ∀j∈js,j≠0/\j≠1/\j≠l/\j≠r:=fun j hj=>⟨fun e=>hnd.1 (by rw [<-e];exact hj),(h.g.rgi (j:=j) (by simp [hj])).2.2,(hnl j (by simp [hj])).1,(hnl j (by simp [hj])).2.1⟩;refine ⟨b',fl',0::(i1++i2),_,t,⟨⟨m2, ?_, ?_, ?_,fun j hj=>h.g.a1 j (by simp [hj])⟩, ?_, ?_, ?_, ?_, ?_⟩,v0,rfl⟩
 ·rw [v];refine IdsOk.upd (IdsOk.upd (IdsOk.upd (h.g.i.upd m1) ?_) ?_) ?_<;>rfl
 ·refine List.nodup_append.2 ⟨List.nodup_cons.2 ⟨fun h0=> ?_,hp.nodup_iff.2 (List.nodup_cons.2 ⟨fun hh=> ?_,List.nodup_cons.2 ⟨fun hh=>(hjs r hh).2.2.2 rfl,hnd.2⟩⟩)⟩,hnd3.2, ?_⟩
  ·rcases hpm 0 h0 with q|q|q
   ·omega
   ·omega
   exact hnd.1 q
  ·rcases List.mem_cons.1 hh with q|q
   ·exact hlr q
   exact (hjs l q).2.2.1 rfl
  rintro a ha c hc rfl;rcases List.mem_cons.1 ha with q|q
  ·subst q;exact (hnl 0 (by simp)).2.2 hc
  rcases hpm a q with q|q|q
  ·subst q;exact hnd2.1 (by simp [hc])
  ·subst q;exact hnd3.1 hc
  exact (hnl a (by simp [q])).2.2 hc
 ·intro j hj;rcases List.mem_append.1 hj with hj|hj
  ·rcases List.mem_cons.1 hj with q|q
   ·omega
   rcases hpm j q with q|q|q
   ·subst q;exact hrl
   ·subst q;exact hrr
   exact h.g.rgi (by simp [q])
  exact h.g.rg j (by simp [hj])
 ·refine ⟨i1++i2,rfl,_,v0,by simp only [];omega,rfl,by simp,⟨twoB l,_,rfl⟩, ?_⟩;exact ⟨rfl,q1,trivial,md,i1,i2,k1,k2,rfl,rfl,by rw [numberP_twoB (by omega) (by omega)];exact S1,rfl,by rw [numberP_twoB (by omega) (by omega)];exact S2⟩
 ·intro j hj hne q hq hl2;rcases List.mem_cons.1 hj with e|e
  ·exact absurd e hne
  rcases hpm j e with e|e|e
  ·subst e;rw [vl] at hq;injection hq with hq;subst hq;simp only [clrK_len,List.length_take,hxl];omega
  ·subst e;rw [vr] at hq;injection hq with hq;subst hq;simp only [clrK_len,List.length_drop,hxl];omega
  have:=hjs j e;exact h.o j (by simp [e]) hne q (by rw [<-vo j hne this.2.1 this.2.2.1 this.2.2.2];exact hq) hl2
 ·have h1:=hp.length_eq;have h2:=h.c;simp only [List.length_cons] at h1 h2 ⊢;omega
 ·intro z hz _;rw [v0] at hz;injection hz with hz;subst hz;exact Nat.le_refl _
 intro z hz;rw [v0] at hz;injection hz with hz;subst hz
 have h1:=h.w x hx;have ejs:=wt_frame (V:=b.view) (V':=b'.view) js (fun j hj=>by have:=hjs j hj;exact vo j this.1 this.2.1 this.2.2.1 this.2.2.2);simp only [List.tail_cons] at h1 ⊢;rw [wt_perm hp,wt_cons,wt_cons,ejs,pw_some vl,pw_some vr];simp only [clrK_len,List.length_take,List.length_drop,List.length_cons,List.length_nil,hxl] at h1 ⊢;omega
theorem trA_of_post {b b':Bt} {K n:Nat} {av:List Int} {fl:Int} {ids:List Int} {kv:Ens} {key:Bs} {x y:Pg} (h:TrA B b K n av fl ids kv) (hx:b.view 0=some x) (hp:RoomPostA B b n av 0 [] none fl (-1) ids kv key x b' y) :
  ∃av' ids',TrA B b' K n av' fl ids' kv/\y.ents.length<8/\Wand b'.view n 0 [] none fl (-1) ids' kv key y:=by
 obtain ⟨av',ids',p3,p4,p5,pa,p6,p7,p8,⟨x',p9,p9',p9l,p9w⟩,p10,p11⟩:=hp;have hs':=p11.sub (by omega);refine ⟨av',ids',⟨p3,hs',p8 h.o,by have:=h.c;omega, ?_, ?_⟩,p10,p11⟩
 ·intro z hz hn;rw [p9] at hz;injection hz with hz;subst hz
  exact Nat.le_trans (h.r x hx hn) p9'
 intro z hz;rw [p9] at hz;injection hz with hz;subst hz
 have h1:=h.w x hx;cases n with
 |zero=>
  obtain ⟨_,rfl,_⟩:=hs';obtain ⟨_,rfl,_⟩:=h.s;simp only [List.tail_cons,wt_nil] at p9w h1 ⊢;omega
 |succ n=>
  have h2:=h.r x hx (by omega);omega
theorem room_trA {b:Bt} {K n:Nat} {av:List Int} {fl:Int} {ids:List Int} {kv:Ens} (key:Bs) (h:TrA B b K n av fl ids kv) :
  (∃b' y n' av' fl' ids',b.room key= .ok (b',y)/\TrA B b' K n' av' fl' ids' kv/\y.ents.length<8/\Wand b'.view n' 0 [] none fl' (-1) ids' kv key y)\/(av.length<8/\b.room key= .fail 109 none):=by
 have hn:=h.lvl;obtain ⟨x,_,hx,hlv,hl8,_⟩:=SubT.page h.s;have hroom0:b.room key=match ((if 8<=x.ents.length then (match b.splitRoot x with
   | .fail c o=> .fail c o
   | .ok b=>match b.page 0 with
    | .fail c o=> .fail c o
    | .ok x=> .ok (b,x)) else .ok (b,x)):Res (Bt×Pg)) with
  | .fail c o=> .fail c o
  | .ok (b,x)=>Bt.roomF key 34 b x:=by rw [Bt.room,page_of_view hx];rfl
 by_cases h8:8<=x.ents.length
 ·rw [if_pos h8] at hroom0;rcases Nat.lt_or_ge av.length 2 with q|q
  ·rw [splitRoot_full h.g.m h.g.i h.g.avs q] at hroom0;exact .inr ⟨by omega,hroom0⟩
  obtain ⟨l,r,av,rfl⟩: ∃l r av',av=l::r::av':=by
   cases av with
   |nil=>simp at q
   |cons l av=>cases av with
    |nil=>simp at q
    |cons r av=>exact ⟨l,r,av,rfl⟩
  obtain ⟨b1,fl1,ids1,x1,t1,h1,hx1,hl1⟩:=splitRoot_trA h hx (by omega);rw [t1] at hroom0;simp only [] at hroom0;rw [page_of_view hx1] at hroom0;simp only [] at hroom0;rcases roomA_n (n+1) 34 b1 av x1 key (by omega) (by omega) (by omega) h1.g h1.s hx1 (by omega) (InR.all key) with ⟨b',y,hr,hp⟩|⟨e1,e2⟩
  ·obtain ⟨av',ids',p⟩:=trA_of_post h1 hx1 hp;exact .inl ⟨b',y,n+1,av',fl1,ids',by rw [hroom0];exact hr,p⟩
  exact .inr ⟨by simp only [List.length_cons];omega,by rw [hroom0];exact e2⟩
 rw [if_neg h8] at hroom0;simp only [] at hroom0;rcases roomA_n n 34 b av x key (by omega) (by omega) (by omega) h.g h.s hx (by omega) (InR.all key) with ⟨b',y,hr,hp⟩|⟨e1,e2⟩
 ·obtain ⟨av',ids',p⟩:=trA_of_post h hx hp;exact .inl ⟨b',y,n,av',fl,ids',by rw [hroom0];exact hr,p⟩
 exact .inr ⟨by omega,by rw [hroom0];exact e2⟩
end Go.Proofs.YtkknmpkcfpdllaaGreatDoor.B
