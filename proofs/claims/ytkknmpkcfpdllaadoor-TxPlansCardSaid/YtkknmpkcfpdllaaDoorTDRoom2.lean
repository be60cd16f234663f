/- What functions of the program compute, each function once: steps over the model, and the plain law of it. -/
import Derived.Test.YtkknmpkcfpdllaaDoorTDRoom
namespace Go.Proofs.YtkknmpkcfpdllaaDoor.B
open Go
set_option linter.unusedVariables false
set_option linter.unusedSimpArgs false
set_option linter.unnecessarySimpa false
variable {B:Nat}
theorem split_full {b:Bt} {p x:Pg} {k:Int} (h:AvV B b.view []):b.split p k x= .fail 109 none:=by rw [Bt.split,take_full h]
theorem split_av {b:Bt} {u:Int} {av:List Int} {p x:Pg} {k:Nat} (hm:AvV B b.view (u::av)) (hi:IdsOk b.view) (hav:(u::av).Nodup) (h0:1<u) (h1:u<256) (hp:b.view p.id=some p) (hx:b.view x.id=some x)
  (hxl:x.ents.length=8) (hpl:p.ents.length<8) (hk:k+1<=p.ents.length) (hv:x.level<=16) (hn:x.next<256)
  (d1:x.id≠1) (d2:x.id≠u) (d3:p.id≠1) (d4:p.id≠u) (d5:p.id≠x.id) (d6:x.id ∉ av) (d7:p.id ∉ av) (d8: ∀j∈av,1<j) :
  ∃b' m,b.split p k x= .ok b'/\m.id=1/\AvV B b'.view av/\
   b'.view=(((b.view.upd 1 m).upd u (halfR u x)).upd x.id (halfL u x)).upd p.id {p with ents:=p.ents.insertIdx (k+1) ((x.ents.getD 4 ([], [])).1,twoB u)}:=by
 obtain ⟨b1,m,t1,v1,m1,m2⟩:=take_av hm hi hav;have hnx:(if x.level=0 then x.next else -1)<256:=by split<;>omega
 obtain ⟨b2,t2,v2⟩:=fill_view (b:=b1) (id:=u) (level:=x.level) (next:=if x.level=0 then x.next else -1) (l:=x.ents.drop 4) (by simp;omega) hv hnx;have hx2:b2.view x.id=some x:=by rw [v2,upd_other d2,v1,upd_other d1];exact hx
 obtain ⟨b3,t3,v3⟩:=doR_view (b:=b2) (r:={page:=x.id,kind:=6,slot:=4}) (x:=x) (.inr ⟨by simp,hx2⟩) rfl;have e3:effP x {page:=x.id,kind:=6,slot:=4}={x with ents:=x.ents.take 4}:=by unfold effP;rw [if_neg (by simp),if_neg (by simp),if_neg (by simp),if_neg (by simp),if_neg (by simp),if_pos rfl,hxl];rfl
 rw [e3] at v3;have t4: ∃b4,((if x.level=0 then b3.doR {page:=x.id,kind:=5,slot:=u} else .ok b3):Res Bt)= .ok b4/\b4.view=b2.view.upd x.id (halfL u x):=by
  by_cases hl:x.level=0
  ·rw [if_pos hl];obtain ⟨b4,t4,v4⟩:=doR_view (b:=b3) (r:={page:=x.id,kind:=5,slot:=u}) (x:={x with ents:=x.ents.take 4}) (.inr ⟨by simp,by rw [v3];exact upd_same _ _ _⟩) rfl;refine ⟨b4,t4, ?_⟩;have e4:effP {x with ents:=x.ents.take 4} {page:=x.id,kind:=5,slot:=u}=halfL u x:=by
    unfold effP halfL;rw [if_neg (by simp),if_neg (by simp),if_neg (by simp),if_neg (by simp),if_pos rfl,if_neg (by simp only [];omega),if_pos hl]
   rw [v4,e4,v3];funext j;by_cases hj:j=x.id
   ·subst hj;simp only [upd_same]
   simp only [upd_other hj]
  rw [if_neg hl];refine ⟨b3,rfl, ?_⟩;rw [v3,halfL,if_neg hl]
 obtain ⟨b4,t4,v4⟩:=t4;have hp4:b4.view p.id=some p:=by rw [v4,upd_other d5,v2,upd_other d4,v1,upd_other d3];exact hp
 obtain ⟨b5,t5,v5⟩:=doR_view (b:=b4) (r:={page:=p.id,kind:=2,slot:=k+1,key:=(x.ents.getD 4 ([], [])).1,val:=twoB u}) (x:=p) (.inr ⟨by simp,hp4⟩) rfl;have e5:effP p {page:=p.id,kind:=2,slot:=k+1,key:=(x.ents.getD 4 ([], [])).1,val:=twoB u}={p with ents:=p.ents.insertIdx (k+1) ((x.ents.getD 4 ([], [])).1,twoB u)}:=by
  unfold effP;rw [if_neg (by simp),if_pos rfl,if_pos hpl];have:(min ((k:Int)+1) (p.ents.length:Nat)).toNat=k+1:=by omega
  rw [this]
 rw [e5] at v5;have huav:u ∉ av:=(List.nodup_cons.1 hav).1;refine ⟨b5,m, ?_,m1, ?_,by rw [v5,v4,v2,v1];rfl⟩
 ·rw [Bt.split,t1];simp only [t2,t3,t4];exact t5
 refine m2.frame ?_ (fun j hj=> ?_)
 ·rw [v5,upd_other (Ne.symm d3),v4,upd_other (Ne.symm d1),v2,upd_other (by omega)]
 rw [v5,upd_other (by rintro rfl;exact d7 hj),v4,upd_other (by rintro rfl;exact d6 hj),v2,upd_other (by rintro rfl;exact huav hj)]
theorem roomA_succ {n:Nat} (IH:RoomNA B n):RoomNA B (n+1):=by
 intro f b av id lo hi fl nx ids kv x key hf hn hnx hg hs hx hl hk;obtain ⟨f,rfl⟩: ∃g,f=g+1+1:=⟨f - 2,by omega⟩;have hs0:=hs;obtain ⟨js,rfl,x',hx',hlv,hxn,hlen,⟨v,r,hes⟩,hch⟩:=hs;rw [hx] at hx';injection hx' with hx';subst hx'
 have hch':=Chs.nxs (N:=256) (fun _ _ _ _ _ _ _ h=>SubT.fl_mem n h) _ hnx (fun j hj=>(hg.rgi (j:=j) (by simp [hj])).2.1) hch;rw [hes] at hch';obtain ⟨pre,c,post,lo',hi',fl',nx',idsL,ids',idsR,kvL,kv',kvR,g1,g2,g3,g4,⟨g5,g5'⟩,rfl,rfl,g8,g9,g10⟩:=Chs.focus r ([],v) hch' hk;have hrise:=Chs.rise _ _ hch';have hcp:childP x key=pre.length:=by rw [childP_cnt hes hrise,g2]
 have hget:x.ents[pre.length]? =some c:=by rw [hes,g1];simp
 have hlt:pre.length<x.ents.length:=by rw [hes,g1];simp
 have hat:atP x (childP x key:Nat)= .ok (numberP c.2):=by
  have hd:x.ents.getD ((pre.length:Int)).toNat ([], [])=c:=by simp [List.getD,hget]
  rw [atP,hcp,if_neg (by omega),hd,if_neg (by simp [g4])]
 obtain ⟨y,js',hy,hyl,hylen,hyids⟩:=SubT.page g5;by_cases hy8:y.ents.length<8
 ·rcases roomA_down IH (f+1) b av x key (by omega) (by omega) hnx hg hs0 hx hk (by
   intro c2 z h1 h2;rw [hcp,hget] at h1;injection h1 with h1;subst h1
   rw [hy] at h2;injection h2 with h2;subst h2
   exact hy8) with h|⟨h1,h2⟩
  ·exact .inl h
  exact .inr ⟨by omega,h2⟩
 have hy8':y.ents.length=8:=by omega
 have hnd2:=List.nodup_cons.1 hg.ids;have hnd3:=List.nodup_append.1 hnd2.2;have hnd4:=List.nodup_append.1 hnd3.1;have hid':id ∉ ids':=fun h=>hnd2.1 (by simp [h]);have hxid:x.id=id:=hg.i _ _ hx;have hyid:y.id=numberP c.2:=hg.i _ _ hy;have hym:y.id∈ids':=by rw [hyid,hyids];simp
 have hyr:=hg.rgi (j:=y.id) (by simp [hym]);have hidr:=hg.rgi (j:=id) (by simp);have hxy:id≠y.id:=fun e=>hid' (by rw [e];exact hym);have hroom: ∀b1,b.split x (childP x key:Nat) y= .ok b1-> ∀x1,b1.view id=some x1->Bt.roomF key (f+1+1) b x=Bt.roomF key (f+1) b1 x1:=by intro b1 t1 x1 hx1;rw [Bt.roomF,if_neg (by omega),hat];simp only [];rw [page_of_view hy];simp only [];rw [if_pos (by omega),t1];simp only [];rw [hxid,page_of_view hx1]
 cases av with
 |nil=>
  refine .inr ⟨by simp, ?_⟩;rw [Bt.roomF,if_neg (by omega),hat];simp only [];rw [page_of_view hy];simp only [];rw [if_pos (by omega),split_full hg.m]
 |cons u av=>
 have hu1:=hg.a1 u (by simp);have hur:=hg.rg u (by simp);have huav:u ∉ av:=(List.nodup_cons.1 hg.avs).1;have hug:u ∉ id::(idsL++ids'++idsR):=fun h=>hg.dis h (by simp);have hin: ∀j∈id::(idsL++ids'++idsR),j≠u/\j ∉ av:=fun j hj=>⟨by rintro rfl;exact hug hj,fun h=>hg.dis hj (by simp [h])⟩;obtain ⟨b1,m,t1,m1,m2,v1⟩:=split_av (k:=pre.length) hg.m hg.i hg.avs hu1 hur.2.1 (p:=x) (x:=y) (by rw [hxid];exact hx) (by rw [hyid];exact hy) hy8' hl (by omega) (by omega) (SubT.next_lt n g5 g5' hy) hyr.2.2 (hin _ (by simp [hym])).1 (by rw [hxid];exact hidr.2.2) (by rw [hxid];exact (hin _ (by simp)).1) (by rw [hxid];exact hxy) (hin _ (by simp [hym])).2 (by rw [hxid];exact (hin _ (by simp)).2) (fun j hj=>hg.a1 j (by simp [hj]));generalize hse:(y.ents.getD 4 ([], [])).1=s at v1;rw [hxid] at v1;have huid:id≠u:=(hin _ (by simp)).1;have huy:y.id≠u:=(hin _ (by simp [hym])).1;have vy:b1.view y.id=some (halfL u y):=by rw [v1,upd_other (Ne.symm hxy),upd_same]
 have vu:b1.view u=some (halfR u y):=by rw [v1,upd_other (Ne.symm huid),upd_other (Ne.symm huy),upd_same]
 have vo: ∀j,j≠id->j≠y.id->j≠u->j≠1->b1.view j=b.view j:=fun j h1 h2 h3 h4=>by rw [v1,upd_other h1,upd_other h2,upd_other h3,upd_other h4]
 have vx:b1.view id=some {x with ents:=x.ents.insertIdx (pre.length+1) (s,twoB u)}:=by rw [v1,upd_same,<-hxid]
 obtain ⟨md,i1,i2,k1,k2,rfl,hperm,q1,q2,S1,S2⟩:=SubT.split n g5 hy hy8' hyid (fun h=>hug (by simp [h])) hnd4.2.1 (W:=b1.view) (u:=u)
  (fun j hj hne=>vo j (fun e=>hid' (by rw [<-e];exact hj)) (by rw [hyid];exact hne) (hin j (by simp [hj])).1 (hg.rgi (j:=j) (by simp [hj])).2.2)
  (by rw [<-hyid];exact vy) vu
 rw [hse] at q1 q2 S1 S2;have htw:numberP (twoB u)=u:=numberP_twoB (by omega) (by omega);have hL: ∀j∈idsL,j ∉ ids':=fun j hj hj'=>hnd4.2.2 j hj j hj' rfl;have hR: ∀j∈idsR,j ∉ ids':=fun j hj hj'=>hnd3.2.2 j (List.mem_append_right _ hj') j hj rfl;have hvo: ∀j,(j∈idsL\/j∈idsR)->b1.view j=b.view j:=by
  intro j hj;have hjm:j∈id::(idsL++ids'++idsR):=by rcases hj with h|h<;>simp [h]
  refine vo j (fun e=> ?_) (fun e=> ?_) (hin j hjm).1 (hg.rgi hjm).2.2
  ·subst e;exact hnd2.1 (by rcases hj with h|h<;>simp [h])
  subst e;rcases hj with h|h
  ·exact hL _ h hym
  exact hR _ h hym
 have hall:=g10 (SubT b1.view n) [(s,twoB u)] (i1++i2) (k1++k2) (fun id' lo hi fl nx is kv hj hs'=>SubT.frame n (fun j hjm=>hvo j (hj j hjm)) hs'.1)
  ⟨g4,q1,q2,md,i1,i2,k1,k2,rfl,rfl,S1,rfl,by rw [htw];exact S2⟩
 have hins:x.ents.insertIdx (pre.length+1) (s,twoB u)=pre++c::(s,twoB u)::post:=by rw [hes,g1];exact insertIdx_mid c (s,twoB u) post pre
 have hins2:x.ents.insertIdx (pre.length+1) (s,twoB u)=([],v)::(r.take (cnt key r)++(s,twoB u)::r.drop (cnt key r)):=by rw [hes,g2,List.insertIdx_succ_cons,insertIdx_take _ _ _ (cnt_le key r)]
 have hinl:(x.ents.insertIdx (pre.length+1) (s,twoB u)).length=x.ents.length+1:=by rw [hins,hes,g1];simp only [List.length_append,List.length_cons];omega
 have hall':Chs (SubT b1.view n) (x.ents.insertIdx (pre.length+1) (s,twoB u)) lo hi fl nx (idsL++(i1++i2)++idsR) (kvL++(k1++k2)++kvR):=by rw [hins];simpa using hall
 have hsub:SubT b1.view (n+1) id lo hi fl nx (id::(idsL++(i1++i2)++idsR)) (kvL++(k1++k2)++kvR):=
  ⟨_,rfl,_,vx,hlv,hxn,by simp only [];omega,⟨v,_,hins2⟩,hall'⟩
 have hp1:(id::(idsL++(i1++i2)++idsR)).Perm (u::id::(idsL++ids'++idsR)):=by
  have a1:(idsL++(i1++i2)++idsR).Perm (u::(idsL++ids'++idsR)):=by
   have a2:(idsL++(i1++i2)++idsR).Perm (idsL++(u::ids')++idsR):=List.Perm.append_right _ (List.Perm.append_left _ hperm);have a3:(idsL++(u::ids')++idsR).Perm (u::(idsL++ids'++idsR)):=by have:=List.perm_middle (a:=u) (l₁:=idsL) (l₂:=ids'++idsR);simpa using this
   exact a2.trans a3
  exact (a1.cons id).trans (List.Perm.swap _ _ _)
 have hmem1: ∀j,j∈id::(idsL++(i1++i2)++idsR)->j=u\/j∈id::(idsL++ids'++idsR):=fun j hj=>List.mem_cons.1 (hp1.mem_iff.1 hj);have hgood:GoodA B b1 av (id::(idsL++(i1++i2)++idsR)):=by
  refine ⟨m2, ?_,List.nodup_append.2 ⟨hp1.nodup_iff.2 (List.nodup_cons.2 ⟨hug,hg.ids⟩),(List.nodup_cons.1 hg.avs).2, ?_⟩, ?_,fun j hj=>hg.a1 j (by simp [hj])⟩
  ·rw [v1];exact IdsOk.upd (IdsOk.upd (IdsOk.upd (hg.i.upd m1) (x:=halfR u y) rfl) (x:=halfL u y) rfl) rfl
  ·rintro a ha c hc rfl;rcases hmem1 a ha with h|h
   ·subst h;exact huav hc
   exact (hin a h).2 hc
  intro j hj;rcases List.mem_append.1 hj with hj|hj
  ·rcases hmem1 j hj with h|h
   ·subst h;exact hur
   exact hg.rgi h
  exact hg.rg j (by simp [hj])
 have hlen4L:(halfL u y).ents.length=4:=by show (y.ents.take 4).length=4;rw [List.length_take,hy8'];rfl
 have hlen4R:(halfR u y).ents.length=4:=by show (clrK y.level (y.ents.drop 4)).length=4;rw [clrK_len,List.length_drop,hy8']
 have hwt:wt b1.view (idsL++(i1++i2)++idsR)+1=wt b.view (idsL++ids'++idsR):=by
  have hnd5:=List.nodup_cons.1 (hyids▸hnd4.2.1);have ejs:=wt_frame (V:=b.view) (V':=b1.view) js' (fun j hj=>by
   have hjm:j∈ids':=by rw [hyids];simp [hj]
   exact vo j (fun e=>hid' (by rw [<-e];exact hjm)) (fun e=>hnd5.1 (by rw [<-hyid,<-e];exact hj)) (hin j (by simp [hjm])).1 (hg.rgi (j:=j) (by simp [hjm])).2.2)
  have eL:=wt_frame (V:=b.view) (V':=b1.view) idsL (fun j hj=>hvo j (.inl hj));have eR:=wt_frame (V:=b.view) (V':=b1.view) idsR (fun j hj=>hvo j (.inr hj));have e1:wt b1.view (i1++i2)=3+(3+wt b.view js'):=by rw [wt_perm hperm,hyids,wt_cons,wt_cons,ejs,pw_some vu,<-hyid,pw_some vy,hlen4L,hlen4R]
  have e2:wt b.view ids'=7+wt b.view js':=by rw [hyids,wt_cons,pw_some hy,hy8']
  rw [wt_append,wt_append,wt_append b.view (idsL++ids'),wt_append b.view idsL,eL,eR,e1,e2];omega
 have hri:=hall';rw [hins2] at hri;have hcp1:childP {x with ents:=x.ents.insertIdx (pre.length+1) (s,twoB u)} key=pre.length+(if ltB key s=true then 0 else 1):=by rw [childP_cnt (x:={x with ents:=x.ents.insertIdx (pre.length+1) (s,twoB u)}) hins2 (Chs.rise _ _ hri),cnt_ins,g2]
 rw [hroom b1 (by rw [hcp];exact t1) _ vx];rcases roomA_down IH f b1 av _ key (by omega) (by omega) hnx hgood hsub vx hk (by
  intro c2 z h1 h2;rw [hcp1] at h1;simp only [hins] at h1;split at h1
  ·have:c2=c:=by simpa using h1.symm
   subst this;rw [<-hyid,vy] at h2;injection h2 with h2;subst h2;omega
  have:c2=(s,twoB u):=by rw [List.getElem?_append_right (by omega)] at h1;simpa using h1.symm
  subst this;rw [htw,vu] at h2;injection h2 with h2;subst h2;omega) with ⟨b',z,hr,av',ids2,p3,p4,p5,pa,p6,p7,p8,⟨x2,p9,p9',p9l,p9w⟩,p10,p11⟩|⟨h1,h2⟩
 rotate_left
 ·exact .inr ⟨by simp only [List.length_cons];omega,h2⟩
 simp only [List.tail_cons] at p9w;refine .inl ⟨b',z,hr,av',ids2,p3, ?_, ?_,fun j hj=>by simp [pa j hj], ?_, ?_, ?_,⟨x2,p9, ?_,p9l, ?_⟩,p10,p11⟩
 ·intro j hj;rcases p4 j hj with h|h
  ·rcases hmem1 j h with h|h
   ·exact .inr (by simp [h])
   exact .inl h
  exact .inr (by simp [h])
 ·intro j hj;exact p5 j (hp1.mem_iff.2 (List.mem_cons_of_mem _ hj))
 ·have:=hp1.length_eq;rw [p6,this];simp only [List.length_cons];omega
 ·intro j h1 h2 h3;simp only [List.mem_cons,not_or] at h3;rw [p7 j h1 (fun h=>by
   rcases hmem1 j h with h|h
   ·exact h3.1 h
   exact h2 h) h3.2]
  exact vo j (fun e=>h2 (by simp [e])) (fun e=>h2 (by rw [e];simp [hym])) h3.1 h1
 ·intro ho;refine p8 (fun j hj hne q hq hl2=> ?_);by_cases hju:j=u
  ·subst hju;rw [vu] at hq;injection hq with hq;subst hq;omega
  by_cases hjy:j=y.id
  ·subst hjy;rw [vy] at hq;injection hq with hq;subst hq;omega
  rcases hmem1 j hj with h|h
  ·exact absurd h hju
  exact ho j h hne q (by rw [<-vo j hne hjy hju (hg.rgi h).2.2];exact hq) hl2
 ·have p:=p9';simp only [] at p;omega
 simp only [List.tail_cons];omega
theorem roomA_n: ∀n,RoomNA B n
 |0=>roomA_zero
 |n+1=>roomA_succ (roomA_n n)
end Go.Proofs.YtkknmpkcfpdllaaDoor.B
