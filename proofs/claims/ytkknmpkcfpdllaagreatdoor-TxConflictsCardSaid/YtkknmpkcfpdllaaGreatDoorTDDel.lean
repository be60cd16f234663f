/- What functions of the program compute, each function once: steps over the model, and the plain law of it. -/
import Derived.Test.YtkknmpkcfpdllaaGreatDoorTDRoom2
import Derived.Test.YtkknmpkcfpdllaaGreatDoorTTreeLawA
import Derived.Test.YtkknmpkcfpdllaaGreatDoorTTree7
namespace Go.Proofs.YtkknmpkcfpdllaaGreatDoor.B
open Go
set_option linter.unusedVariables false
set_option linter.unusedSimpArgs false
set_option linter.unnecessarySimpa false
variable {B:Nat}
structure TrA (B:Nat) (b:Bt) (K n:Nat) (av:List Int) (fl:Int) (ids:List Int) (kv:Ens):Prop where
 g:GoodA B b av ids
 s:SubT b.view n 0 [] none fl (-1) ids kv
 o:OccL b.view 0 ids
 c:ids.length+av.length=255
 r: ∀x,b.view 0=some x→0<n→2≤x.ents.length
 w: ∀x,b.view 0=some x→wt b.view ids.tail+(x.ents.length - 2)≤K
theorem TrA.mono {b:Bt} {K K' n:Nat} {av ids:List Int} {fl:Int} {kv:Ens} (h:TrA B b K n av fl ids kv) (hk:K≤K'):TrA B b K' n av fl ids kv:=
 ⟨h.g,h.s,h.o,h.c,h.r,fun x hx=>by have:=h.w x hx;omega⟩
theorem Chs.size {C:CP} {m:Nat}: ∀(es:Ens) {lo hi fl nx ids kv},(∀id lo hi fl nx js kv,(∀j∈js,j∈ids)→C id lo hi fl nx js kv→m≤js.length)→Chs C es lo hi fl nx ids kv→es.length*m≤ids.length
 | [],_,_,_,_,_,_,_,h=>h.elim
 | [e],_,_,_,_,_,_,hC,h=>by have:=hC _ _ _ _ _ _ _ (fun _ hj=>hj) h.2;simpa using this
 |e::e2::r,_,_,_,_,_,_,hC,h=>by
  obtain ⟨h0,h1,h2,md,i1,i2,k1,k2,rfl,rfl,h3,h4⟩:=h;have a:=hC _ _ _ _ _ _ _ (fun _ hj=>by simp [hj]) h3;have b:=Chs.size (m:=m) (e2::r) (fun _ _ _ _ _ _ _ hj hs=>hC _ _ _ _ _ _ _ (fun j hjm=>by simp [hj j hjm]) hs) h4;have e1:(e::e2::r).length*m=(e2::r).length*m+m:=by simp only [List.length_cons,Nat.add_mul,Nat.one_mul]
  rw [e1,List.length_append];omega
theorem SubT.size {V:Vw}: ∀(n:Nat) {id lo hi fl nx ids kv},(∀j∈ids,∀x,V j=some x→2≤x.level→4≤x.ents.length)→SubT V (n+1) id lo hi fl nx ids kv→4^n≤ids.length
 |0,id,_,_,_,_,_,_,ho,h=>by
  obtain ⟨js,rfl,_⟩:=h;simp
 |n+1,id,_,_,_,_,_,_,ho,h=>by
  obtain ⟨js,rfl,x,h2,h3,_,_,_,h7⟩:=h;have hx:=ho id (by simp) x h2 (by omega);have:=Chs.size (m:=4^n) _ (fun _ _ _ _ _ is _ hj hs=>SubT.size n (fun j hjm=>ho j (by simp [hj j hjm])) hs) h7;have e1:4*4^n≤x.ents.length*4^n:=Nat.mul_le_mul_right _ hx;have e2:4^(n+1)=4*4^n:=by rw [Nat.pow_succ];omega
  simp only [List.length_cons];omega
theorem TrA.lvl {b:Bt} {K n:Nat} {av ids:List Int} {fl:Int} {kv:Ens} (h:TrA B b K n av fl ids kv):n≤5:=by
 have hs:=h.s;have hc:=h.c;rcases Nat.lt_or_ge n 6 with q|q
 ·omega
 obtain ⟨k,rfl⟩: ∃k,n=k+2:=⟨n - 2,by omega⟩;obtain ⟨js,rfl,x,hx,_,_,_,_,hch⟩:=hs;have h2:=h.r x hx (by omega);have hnd:=List.nodup_cons.1 h.g.ids;have:=Chs.size (m:=4^k) _ (fun _ _ _ _ _ is _ hj hs=>SubT.size k (fun j hjm=>h.o j (by simp [hj j hjm]) (fun e=>hnd.1 (by rw [←e];exact hj j hjm))) hs) hch;have e1:2*4^k≤x.ents.length*4^k:=Nat.mul_le_mul_right _ h2;have h3:4^4≤4^k:=Nat.pow_le_pow_right (by decide) (by omega);have h4:4^4=256:=by decide
 simp only [List.length_cons] at hc;omega
theorem wt_len {V:Vw}: ∀(l:List Int),(∀j∈l,∃x,V j=some x)→3*l.length≤wt V l
 | [],_=>by simp [wt]
 |j::l,h=>by
  obtain ⟨x,hx⟩:=h j (by simp);have:=wt_len l (fun k hk=>h k (by simp [hk]));rw [wt_cons,pw_some hx,List.length_cons];omega
theorem Chs.all_some {C:CP} {V:Vw}: ∀(es:Ens) {lo hi fl nx ids kv},(∀id lo hi fl nx js kv,C id lo hi fl nx js kv→ ∀j∈js,∃x,V j=some x)→Chs C es lo hi fl nx ids kv→ ∀j∈ids,∃x,V j=some x
 | [],_,_,_,_,_,_,_,h=>h.elim
 | [e],_,_,_,_,_,_,hC,h=>hC _ _ _ _ _ _ _ h.2
 |e::e2::r,_,_,_,_,_,_,hC,h=>by
  obtain ⟨h0,h1,h2,md,i1,i2,k1,k2,rfl,rfl,h3,h4⟩:=h;intro j hj;rcases List.mem_append.1 hj with q|q
  ·exact hC _ _ _ _ _ _ _ h3 j q
  exact Chs.all_some (e2::r) hC h4 j q
theorem SubT.all_some {V:Vw}: ∀(n:Nat) {id lo hi fl nx ids kv},SubT V n id lo hi fl nx ids kv→ ∀j∈ids,∃x,V j=some x
 |0,id,_,_,_,_,_,_,h=>by
  obtain ⟨_,rfl,x,h3,_⟩:=h;intro j hj;rw [List.mem_singleton] at hj;subst hj;exact ⟨x,h3⟩
 |n+1,id,_,_,_,_,_,_,h=>by
  obtain ⟨js,rfl,x,h2,_,_,_,_,h7⟩:=h;intro j hj;rcases List.mem_cons.1 hj with q|q
  ·subst q;exact ⟨x,h2⟩
  exact Chs.all_some _ (fun _ _ _ _ _ _ _ hs=>SubT.all_some n hs) h7 j q
theorem TrA.pages {b:Bt} {K n:Nat} {av ids:List Int} {fl:Int} {kv:Ens} (h:TrA B b K n av fl ids kv):3*ids.length≤K+3:=by obtain ⟨x,js,hx,_,_,e⟩:=SubT.page h.s;have h1:=h.w x hx;have h2:=wt_len ids.tail (fun j hj=>SubT.all_some n h.s j (List.mem_of_mem_tail hj));rw [e] at h1 h2 ⊢;simp only [List.tail_cons,List.length_cons] at h1 h2 ⊢;omega
theorem splitRoot_full {b:Bt} {x:Pg} {av:List Int} (h:AvV B b.view av) (hi:IdsOk b.view) (hnd:av.Nodup) (hl:av.length<2):b.splitRoot x= .fail 109 none:=by
 cases av with
 |nil=>rw [Bt.splitRoot,take_full h]
 |cons l av=>
  cases av with
  |nil=>
   obtain ⟨b1,m,t1,v1,m1,m2⟩:=take_av h hi hnd;rw [Bt.splitRoot,t1];simp only [];rw [take_full m2]
  |cons r av=>simp at hl;omega
theorem splitRoot_av {b:Bt} {l r:Int} {av:List Int} {x:Pg} (hm:AvV B b.view (l::r::av)) (hi:IdsOk b.view) (hnd:(l::r::av).Nodup) (ha: ∀j∈l::r::av,1<j∧j<256) (hx:b.view 0=some x)
  (hxl:x.ents.length=8) (hv:x.level<16) :
  ∃b' m,b.splitRoot x= .ok b'∧m.id=1∧AvV B b'.view av∧
   b'.view=(((b.view.upd 1 m).upd l ⟨l,0,x.level,if x.level=0 then r else -1,clrK x.level (x.ents.take 4)⟩).upd r ⟨r,0,x.level, -1,clrK x.level (x.ents.drop 4)⟩).upd 0 ⟨0,0,x.level+1, -1, [([],twoB l),((x.ents.getD 4 ([], [])).1,twoB r)]⟩:=by
 have hid:=hi 0 x hx;have hl:=ha l (by simp);have hr:=ha r (by simp);have hnd2:=List.nodup_cons.1 hnd;have hnd3:=List.nodup_cons.1 hnd2.2;have hlr:r≠l:=by rintro rfl;exact hnd2.1 (by simp)
 obtain ⟨b1,m1,t1,v1,m11,m12⟩:=take_av hm hi hnd;obtain ⟨b2,m,t2,v2,m21,m22⟩:=take_av m12 (by rw [v1];exact hi.upd m11) hnd2.2;have v2':b2.view=b.view.upd 1 m:=by
  rw [v2,v1];funext j;by_cases hj:j=1
  ·subst hj;simp only [upd_same]
  simp only [upd_other hj]
 obtain ⟨b3,t3,v3⟩:=fill_view (b:=b2) (id:=l) (level:=x.level) (next:=if x.level=0 then r else -1) (l:=x.ents.take 4) (by rw [List.length_take];omega) (by omega) (by split<;>omega);obtain ⟨b4,t4,v4⟩:=fill_view (b:=b3) (id:=r) (level:=x.level) (next:= -1) (l:=x.ents.drop 4) (by rw [List.length_drop];omega) (by omega) (by omega);generalize hse:(x.ents.getD 4 ([], [])).1=s;obtain ⟨b5,t5,v5⟩:=doR_view (b:=b4) (r:={page:=0,kind:=1,slot:=x.level+1}) (x:=newPg 0) (.inl ⟨rfl,rfl⟩) rfl;have q5:effP (newPg 0) {page:=0,kind:=1,slot:=x.level+1}=⟨0,0,x.level+1, -1, []⟩:=by unfold effP;rw [if_pos rfl];simp only [newPg];congr 1;omega
 rw [q5] at v5;obtain ⟨b6,t6,v6⟩:=doR_view (b:=b5) (r:={page:=0,kind:=2,val:=twoB l}) (x:=⟨0,0,x.level+1, -1, []⟩) (.inr ⟨by simp,by rw [v5,upd_same]⟩) rfl;have q6:effP ⟨0,0,x.level+1, -1, []⟩ {page:=0,kind:=2,val:=twoB l}=⟨0,0,x.level+1, -1, [([],twoB l)]⟩:=by unfold effP;rw [if_neg (by simp),if_pos rfl,if_pos (by simp)];rfl
 rw [q6] at v6;obtain ⟨b7,t7,v7⟩:=doR_view (b:=b6) (r:={page:=0,kind:=2,slot:=1,key:=s,val:=twoB r}) (x:=⟨0,0,x.level+1, -1, [([],twoB l)]⟩) (.inr ⟨by simp,by rw [v6,upd_same]⟩) rfl;have q7:effP ⟨0,0,x.level+1, -1, [([],twoB l)]⟩ {page:=0,kind:=2,slot:=1,key:=s,val:=twoB r}=⟨0,0,x.level+1, -1, [([],twoB l),(s,twoB r)]⟩:=by unfold effP;rw [if_neg (by simp),if_pos rfl,if_pos (by simp)];rfl
 rw [q7] at v7;have v7':b7.view=(((b.view.upd 1 m).upd l ⟨l,0,x.level,if x.level=0 then r else -1,clrK x.level (x.ents.take 4)⟩).upd r ⟨r,0,x.level, -1,clrK x.level (x.ents.drop 4)⟩).upd 0 ⟨0,0,x.level+1, -1, [([],twoB l),(s,twoB r)]⟩:=by
  rw [v7,v6,v5,v4,v3,v2'];funext j;by_cases hj:j=0
  ·subst hj;simp only [upd_same]
  simp only [upd_other hj]
 refine ⟨b7,m, ?_,m21, ?_,v7'⟩
 ·rw [Bt.splitRoot,t1];simp only [t2,t3,t4,hse];rw [Bt.all,t5];simp only [];rw [Bt.all,t6];simp only [];rw [Bt.all,t7];rfl
 refine m22.frame ?_ (fun j hj=> ?_)
 ·rw [v7',upd_other (by omega),upd_other (by omega),upd_other (by omega),v2']
 have:=ha j (by simp [hj]);rw [v7',upd_other (by omega),upd_other (by rintro rfl;exact hnd3.1 hj),upd_other (by rintro rfl;exact hnd2.1 (by simp [hj])),v2']
theorem splitRoot_trA {b:Bt} {K n:Nat} {l r fl:Int} {av ids:List Int} {kv:Ens} {x:Pg} (h:TrA B b K n (l::r::av) fl ids kv) (hx:b.view 0=some x) (hxl:x.ents.length=8) :
  ∃b' fl' ids' x',b.splitRoot x= .ok b'∧TrA B b' K (n+1) av fl' ids' kv∧b'.view 0=some x'∧x'.ents.length=2:=by
 have hn:=h.lvl;obtain ⟨y,_,hy,hlv,_,_⟩:=SubT.page h.s;rw [hx] at hy;injection hy with hy;subst hy
 have hrl:=h.g.rg l (by simp);have hrr:=h.g.rg r (by simp);have h1l:=h.g.a1 l (by simp);have h1r:=h.g.a1 r (by simp);have hnd2:=List.nodup_cons.1 h.g.avs;have hnd3:=List.nodup_cons.1 hnd2.2;have hlr:l≠r:=by rintro rfl;exact hnd2.1 (by simp)
 obtain ⟨b',m,t,m1,m2,v⟩:=splitRoot_av h.g.m h.g.i h.g.avs (fun j hj=>⟨h.g.a1 j hj,(h.g.rg j (by simp only [List.mem_append];exact .inr hj)).2.1⟩) hx hxl (by omega);generalize hse:(x.ents.getD 4 ([], [])).1=s at v;have v0:b'.view 0=some ⟨0,0,x.level+1, -1, [([],twoB l),(s,twoB r)]⟩:=by rw [v,upd_same]
 have vr:b'.view r=some ⟨r,0,x.level, -1,clrK x.level (x.ents.drop 4)⟩:=by rw [v,upd_other (by omega),upd_same]
 have vl:b'.view l=some ⟨l,0,x.level,if x.level=0 then r else -1,clrK x.level (x.ents.take 4)⟩:=by rw [v,upd_other (by omega),upd_other hlr,upd_same]
 have vo: ∀j,j≠0→j≠1→j≠l→j≠r→b'.view j=b.view j:=fun j h1 h2 h3 h4=>by rw [v,upd_other h1,upd_other h4,upd_other h3,upd_other h2]
 have hxnx:x.level=0→x.next= -1:=by
  intro h0;have hs:=h.s;cases n with
  |zero=>
   obtain ⟨_,_,z,hz,_,h2,_⟩:=hs;rw [hx] at hz;injection hz with hz;subst hz;exact h2
  |succ n=>omega
 have hnl: ∀j∈ids,j≠l∧j≠r∧j ∉ av:=fun j hj=>⟨by rintro rfl;exact h.g.dis hj (by simp),by rintro rfl;exact h.g.dis hj (by simp),fun q=>h.g.dis hj (by simp [q])⟩;obtain ⟨js,fl',md,i1,i2,k1,k2,rfl,rfl,hp,q1,q2,S1,S2⟩:=SubT.split2 n h.s hx hxl h.g.ids (W:=b'.view) (l:=l) (r:=r)
  (fun j hj hne=>vo j hne (h.g.rgi hj).2.2 (hnl j hj).1 (hnl j hj).2.1) vl vr rfl rfl rfl (by simp only [];split<;>rename_i hc;exact (hxnx hc).symm;rfl) rfl rfl
 rw [hse] at q1 q2 S1 S2;have hnd:=List.nodup_cons.1 h.g.ids;have hpm: ∀j,j∈i1++i2→j=l∨j=r∨j∈js:=by intro j hj;have:=hp.mem_iff.1 hj;simpa using this
 have hjs: ∀j∈js,j≠0∧j≠1∧j≠l∧j≠r:=fun j hj=>⟨fun e=>hnd.1 (by rw [←e];exact hj),(h.g.rgi (j:=j) (by simp [hj])).2.2,(hnl j (by simp [hj])).1,(hnl j (by simp [hj])).2.1⟩;refine ⟨b',fl',0::(i1++i2),_,t,⟨⟨m2, ?_, ?_, ?_,fun j hj=>h.g.a1 j (by simp [hj])⟩, ?_, ?_, ?_, ?_, ?_⟩,v0,rfl⟩
 ·rw [v];refine IdsOk.upd (IdsOk.upd (IdsOk.upd (h.g.i.upd m1) ?_) ?_) ?_<;>rfl
 ·refine List.nodup_append.2 ⟨List.nodup_cons.2 ⟨fun h0=> ?_,hp.nodup_iff.2 (List.nodup_cons.2 ⟨fun hh=> ?_,List.nodup_cons.2 ⟨fun hh=>(hjs r hh).2.2.2 rfl,hnd.2⟩⟩)⟩,hnd3.2, ?_⟩
  ·rcases hpm 0 h0 with q|q|q
   ·omega
   ·omega
   exact hnd.1 q
  ·rcases List.mem_cons.1 hh with q|q
   ·exact hlr q
   exact (hjs l q).2.2.1 rfl
  rintro a ha c hc rfl;rcases List.mem_cons.1 ha with q|q
  ·subst q;exact (hnl 0 (by simp)).2.2 hc
  rcases hpm a q with q|q|q
  ·subst q;exact hnd2.1 (by simp [hc])
  ·subst q;exact hnd3.1 hc
  exact (hnl a (by simp [q])).2.2 hc
 ·intro j hj;rcases List.mem_append.1 hj with hj|hj
  ·rcases List.mem_cons.1 hj with q|q
   ·omega
   rcases hpm j q with q|q|q
   ·subst q;exact hrl
   ·subst q;exact hrr
   exact h.g.rgi (by simp [q])
  exact h.g.rg j (by simp [hj])
 ·refine ⟨i1++i2,rfl,_,v0,by simp only [];omega,rfl,by simp,⟨twoB l,_,rfl⟩, ?_⟩;exact ⟨rfl,q1,trivial,md,i1,i2,k1,k2,rfl,rfl,by rw [numberP_twoB (by omega) (by omega)];exact S1,rfl,by rw [numberP_twoB (by omega) (by omega)];exact S2⟩
 ·intro j hj hne q hq hl2;rcases List.mem_cons.1 hj with e|e
  ·exact absurd e hne
  rcases hpm j e with e|e|e
  ·subst e;rw [vl] at hq;injection hq with hq;subst hq;simp only [clrK_len,List.length_take,hxl];omega
  ·subst e;rw [vr] at hq;injection hq with hq;subst hq;simp only [clrK_len,List.length_drop,hxl];omega
  have:=hjs j e;exact h.o j (by simp [e]) hne q (by rw [←vo j hne this.2.1 this.2.2.1 this.2.2.2];exact hq) hl2
 ·have h1:=hp.length_eq;have h2:=h.c;simp only [List.length_cons] at h1 h2 ⊢;omega
 ·intro z hz _;rw [v0] at hz;injection hz with hz;subst hz;exact Nat.le_refl _
 intro z hz;rw [v0] at hz;injection hz with hz;subst hz
 have h1:=h.w x hx;have ejs:=wt_frame (V:=b.view) (V':=b'.view) js (fun j hj=>by have:=hjs j hj;exact vo j this.1 this.2.1 this.2.2.1 this.2.2.2);simp only [List.tail_cons] at h1 ⊢;rw [wt_perm hp,wt_cons,wt_cons,ejs,pw_some vl,pw_some vr];simp only [clrK_len,List.length_take,List.length_drop,List.length_cons,List.length_nil,hxl] at h1 ⊢;omega
theorem trA_of_post {b b':Bt} {K n:Nat} {av:List Int} {fl:Int} {ids:List Int} {kv:Ens} {key:Bs} {x y:Pg} (h:TrA B b K n av fl ids kv) (hx:b.view 0=some x) (hp:RoomPostA B b n av 0 [] none fl (-1) ids kv key x b' y) :
  ∃av' ids',TrA B b' K n av' fl ids' kv∧y.ents.length<8∧Wand b'.view n 0 [] none fl (-1) ids' kv key y:=by
 obtain ⟨av',ids',p3,p4,p5,pa,p6,p7,p8,⟨x',p9,p9',p9l,p9w⟩,p10,p11⟩:=hp;have hs':=p11.sub (by omega);refine ⟨av',ids',⟨p3,hs',p8 h.o,by have:=h.c;omega, ?_, ?_⟩,p10,p11⟩
 ·intro z hz hn;rw [p9] at hz;injection hz with hz;subst hz
  exact Nat.le_trans (h.r x hx hn) p9'
 intro z hz;rw [p9] at hz;injection hz with hz;subst hz
 have h1:=h.w x hx;cases n with
 |zero=>
  obtain ⟨_,rfl,_⟩:=hs';obtain ⟨_,rfl,_⟩:=h.s;simp only [List.tail_cons,wt_nil] at p9w h1 ⊢;omega
 |succ n=>
  have h2:=h.r x hx (by omega);omega
theorem room_trA {b:Bt} {K n:Nat} {av:List Int} {fl:Int} {ids:List Int} {kv:Ens} (key:Bs) (h:TrA B b K n av fl ids kv) :
  (∃b' y n' av' fl' ids',b.room key= .ok (b',y)∧TrA B b' K n' av' fl' ids' kv∧y.ents.length<8∧Wand b'.view n' 0 [] none fl' (-1) ids' kv key y)∨(av.length<8∧b.room key= .fail 109 none):=by
 have hn:=h.lvl;obtain ⟨x,_,hx,hlv,hl8,_⟩:=SubT.page h.s;have hroom0:b.room key=match ((if 8≤x.ents.length then (match b.splitRoot x with
   | .fail c o=> .fail c o
   | .ok b=>match b.page 0 with
    | .fail c o=> .fail c o
    | .ok x=> .ok (b,x)) else .ok (b,x)):Res (Bt×Pg)) with
  | .fail c o=> .fail c o
  | .ok (b,x)=>Bt.roomF key 34 b x:=by rw [Bt.room,page_of_view hx];rfl
 by_cases h8:8≤x.ents.length
 ·rw [if_pos h8] at hroom0;rcases Nat.lt_or_ge av.length 2 with q|q
  ·rw [splitRoot_full h.g.m h.g.i h.g.avs q] at hroom0;exact .inr ⟨by omega,hroom0⟩
  obtain ⟨l,r,av,rfl⟩: ∃l r av',av=l::r::av':=by
   cases av with
   |nil=>simp at q
   |cons l av=>cases av with
    |nil=>simp at q
    |cons r av=>exact ⟨l,r,av,rfl⟩
  obtain ⟨b1,fl1,ids1,x1,t1,h1,hx1,hl1⟩:=splitRoot_trA h hx (by omega);rw [t1] at hroom0;simp only [] at hroom0;rw [page_of_view hx1] at hroom0;simp only [] at hroom0;rcases roomA_n (n+1) 34 b1 av x1 key (by omega) (by omega) (by omega) h1.g h1.s hx1 (by omega) (InR.all key) with ⟨b',y,hr,hp⟩|⟨e1,e2⟩
  ·obtain ⟨av',ids',p⟩:=trA_of_post h1 hx1 hp;exact .inl ⟨b',y,n+1,av',fl1,ids',by rw [hroom0];exact hr,p⟩
  exact .inr ⟨by simp only [List.length_cons];omega,by rw [hroom0];exact e2⟩
 rw [if_neg h8] at hroom0;simp only [] at hroom0;rcases roomA_n n 34 b av x key (by omega) (by omega) (by omega) h.g h.s hx (by omega) (InR.all key) with ⟨b',y,hr,hp⟩|⟨e1,e2⟩
 ·obtain ⟨av',ids',p⟩:=trA_of_post h hx hp;exact .inl ⟨b',y,n,av',fl,ids',by rw [hroom0];exact hr,p⟩
 exact .inr ⟨by omega,by rw [hroom0];exact e2⟩
variable {B:Nat}
theorem wt_upd {V:Vw} {k:Int} {x y:Pg} {d:Nat} (hy:V k=some y) (hl:x.ents.length≤y.ents.length+d): ∀(l:List Int),l.Nodup→wt (V.upd k x) l≤wt V l+d
 | [],_=>by simp [wt]
 |j::l,hn=>by
  have hn':=List.nodup_cons.1 hn;rw [wt_cons,wt_cons];by_cases h:j=k
  ·subst h;have e2:=wt_frame (V:=V) (V':=V.upd j x) l (fun i hi=>upd_other (by rintro rfl;exact hn'.1 hi));rw [pw_some (upd_same _ _ _),pw_some hy,e2];omega
  have:=wt_upd hy hl l hn'.2;have e:pw (V.upd k x) j=pw V j:=by rw [pw,pw,upd_other h]
  omega
theorem TrA.id0 {b:Bt} {K n:Nat} {av ids:List Int} {fl:Int} {kv:Ens} (h:TrA B b K n av fl ids kv): ∃x js,b.view 0=some x∧x.level=(n:Int)∧x.ents.length≤8∧ids=0::js:=SubT.page h.s
theorem leaf_trA {b b'':Bt} {K d n:Nat} {av:List Int} {fl:Int} {ids:List Int} {kvL kvR ents':Ens} {y:Pg} {kv:Ens} (h:TrA B b K n av fl ids kv) (hy:b.view y.id=some y) (hm:y.id∈ids) (hlv:y.level=0)
  (hv:b''.view=b.view.upd y.id {y with ents:=ents'}) (hl:ents'.length≤y.ents.length+d)
  (hs:SubT b''.view n 0 [] none fl (-1) ids (kvL++ents'++kvR)):TrA B b'' (K+d) n av fl ids (kvL++ents'++kvR):=by
 have hy1:=(h.g.rgi hm).2.2;obtain ⟨x0,js,hx0,hx0l,_,hids⟩:=h.id0;have hv0:0<n→(0:Int)≠y.id:=by
  intro hn e;rw [←e,hx0] at hy;injection hy with hy;subst hy
  omega
 refine ⟨⟨?_, ?_,h.g.nd,h.g.rg,h.g.a1⟩,hs, ?_,h.c, ?_, ?_⟩
 ·refine h.g.m.frame (by rw [hv,upd_other (Ne.symm hy1)]) (fun j hj=> ?_);rw [hv,upd_other];rintro rfl;exact h.g.dis hm hj
 ·rw [hv];exact h.g.i.upd rfl
 ·intro j hj hne x hx hl2;rw [hv] at hx;by_cases e:j=y.id
  ·subst e;rw [upd_same] at hx;injection hx with hx;subst hx
   simp only [] at hl2;omega
  rw [upd_other e] at hx;exact h.o j hj hne x hx hl2
 ·intro x hx hn;rw [hv,upd_other (hv0 hn)] at hx;exact h.r x hx hn
 intro x hx;by_cases e:(0:Int)=y.id
 ·rw [hv,e,upd_same] at hx;injection hx with hx;subst hx
  have hn:n=0:=by
   rcases Nat.eq_zero_or_pos n with q|q
   ·exact q
   exact absurd e (hv0 q)
  subst hn;have h1:=h.w y (by rw [e];exact hy);obtain ⟨_,rfl,_⟩:=h.s;simp only [List.tail_cons,wt_nil] at h1 ⊢;omega
 rw [hv,upd_other e] at hx;have h1:=h.w x hx;have h2:=wt_upd (V:=b.view) (k:=y.id) (x:={y with ents:=ents'}) hy hl ids.tail (h.g.ids.sublist (List.tail_sublist _));rw [hv];omega
theorem put_trA {b:Bt} {K n:Nat} {av:List Int} {fl:Int} {ids:List Int} {kv:Ens} {key val:Bs} (h:TrA B b K n av fl ids kv) (hk:rightK key=true) (hv:val.length≤64) :
  (∃b' n' av' fl' ids',b.put key val= .ok b'∧TrA B b' (K+1) n' av' fl' ids' (insKv kv key val))∨(av.length<8∧lookKv kv key=none∧b.put key val= .fail 109 none):=by
 have hn:=h.lvl;have hk0:key≠ []:=by rintro rfl;simp [rightK] at hk
 obtain ⟨l',ks',y,hd,hy8,hw⟩:=down_n (key:=key) h.g.i n 17 [] [] (by omega) h.g.ids h.s (InR.all key);have hlast:lastPg ([]++l'++ [y])=y:=lastPg_end _ _;obtain ⟨w1,w2,w3,kvL,kvR,lo',hi',rfl,w5,w6,w7,w8,w9⟩:=hw.keys hk0 hw.1;have hput:b.put key val=(if (findP y.ents key).2 then b.doR {page:=y.id,kind:=4,slot:=(findP y.ents key).1,val:=val} else match b.room key with
  | .fail c o=> .fail c o
  | .ok (b,y)=>b.doR {page:=y.id,kind:=2,slot:=(findP y.ents key).1,key:=key,val:=val}):=by
  rw [Bt.put,if_neg (by rw [hk];simp;omega),Bt.down,hd];simp only [hlast];rfl
 cases hf:(findP y.ents key).2 with
 |true=>
  rw [hf] at hput;have hlt:=findP_lt hf;obtain ⟨b',t,v⟩:=doR_view (b:=b) (r:={page:=y.id,kind:=4,slot:=(findP y.ents key).1,val:=val}) (x:=y) (.inr ⟨by simp,w1⟩) rfl;have he:effP y {page:=y.id,kind:=4,slot:=(findP y.ents key).1,val:=val}={y with ents:=insKv y.ents key val}:=by unfold effP;rw [if_neg (by simp),if_neg (by simp),if_neg (by simp),if_pos rfl,if_pos (by simp only [];omega)];simp only [Int.toNat_natCast];rw [insKv_found _ hf]
  rw [he] at v;refine .inl ⟨b',n,av,fl,ids,by rw [hput];exact t, ?_⟩;rw [insKv_right w8,insKv_left _ w7];have hlen8:(insKv y.ents key val).length≤8:=by rw [←insKv_found _ hf];simpa using hy8
  exact leaf_trA h w1 w3 w2 v (insKv_len _).2 (w9 _ _ (fun j _ hne=>by rw [v,upd_other hne]) (by rw [v,upd_same]) hlen8 (insKv_ok w6 w5 hk0))
 |false=>
  rw [hf] at hput;rcases room_trA key h with ⟨b1,z,n1,av1,fl1,ids1,hr,h1,hz8,hw1⟩|⟨e1,e2⟩
  rotate_left
  ·refine .inr ⟨e1, ?_,by rw [hput];simp only [Bool.false_eq_true,if_false];rw [e2]⟩;rw [lookKv_right w8,lookKv_left _ w7,←lookKv_find,if_neg (by rw [hf];simp)]
  obtain ⟨z1,z2,z3,kL,kR,lo2,hi2,hkv,z5,z6,z7,z8,z9⟩:=hw1.keys hk0 hw1.1;have hfz:(findP z.ents key).2=false:=by
   cases hq:(findP z.ents key).2 with
   |false=>rfl
   |true=>
    exfalso;obtain ⟨e,he,hek⟩:=findP_mem _ hq;have hmem:e∈kvL++y.ents++kvR:=by rw [hkv];simp [he]
    have hfy:(findP y.ents key).2=true:=by
     refine findP_of_mem _ w6.1 ⟨e, ?_,hek⟩;rcases List.mem_append.1 hmem with q|q
     ·rcases List.mem_append.1 q with q|q
      ·have:=w7 e q;rw [hek,ltB_irrefl] at this;cases this
      exact q
     have:=w8 e q;rw [hek,ltB_irrefl] at this;cases this
    rw [hf] at hfy;cases hfy
  obtain ⟨b',t,v⟩:=doR_view (b:=b1) (r:={page:=z.id,kind:=2,slot:=(findP z.ents key).1,key:=key,val:=val}) (x:=z) (.inr ⟨by simp,z1⟩) rfl;have he:effP z {page:=z.id,kind:=2,slot:=(findP z.ents key).1,key:=key,val:=val}={z with ents:=insKv z.ents key val}:=by unfold effP;rw [if_neg (by simp),if_pos rfl,if_pos hz8];have:=findP_le z.ents key;rw [show (min ((findP z.ents key).1:Int) (z.ents.length:Nat)).toNat=(findP z.ents key).1 by omega,insKv_new _ hfz]
  rw [he] at v;refine .inl ⟨b',n1,av1,fl1,ids1,by rw [hput];simp only [Bool.false_eq_true,if_false];rw [hr];exact t, ?_⟩;rw [hkv,insKv_right z8,insKv_left _ z7];have hlen8:(insKv z.ents key val).length≤8:=by have:=(insKv_len (k:=key) (v:=val) z.ents).2;omega
  exact leaf_trA h1 z1 z3 z2 v (insKv_len _).2 (z9 _ _ (fun j _ hne=>by rw [v,upd_other hne]) (by rw [v,upd_same]) hlen8 (insKv_ok z6 z5 hk0))
theorem get_trA {b:Bt} {K n:Nat} {av:List Int} {fl:Int} {ids:List Int} {kv:Ens} {key:Bs} (h:TrA B b K n av fl ids kv) (hk:rightK key=true):b.get key= .ok (lookKv kv key):=by
 have hn:=h.lvl;have hk0:key≠ []:=by rintro rfl;simp [rightK] at hk
 obtain ⟨l',ks',y,hd,hy8,hw⟩:=down_n (key:=key) h.g.i n 17 [] [] (by omega) h.g.ids h.s (InR.all key);have hlast:lastPg ([]++l'++ [y])=y:=lastPg_end _ _;obtain ⟨w1,w2,w3,kvL,kvR,lo',hi',rfl,w5,w6,w7,w8,w9⟩:=hw.keys hk0 hw.1;rw [lookKv_right w8,lookKv_left _ w7,←lookKv_find,Bt.get,if_neg (by rw [hk];simp),Bt.down,hd];simp only [hlast];split<;>rfl
def HoldsA (B:Nat) (b:Bt) (K:Nat) (kv:Ens):Prop:= ∃n av fl ids,TrA B b K n av fl ids kv
theorem HoldsA.mono {b:Bt} {K K':Nat} {kv:Ens} (h:HoldsA B b K kv) (hk:K≤K'):HoldsA B b K' kv:=by obtain ⟨n,av,fl,ids,h⟩:=h;exact ⟨n,av,fl,ids,h.mono hk⟩
theorem HoldsA.sorted {b:Bt} {K:Nat} {kv:Ens} (h:HoldsA B b K kv):Sorted kv:=by obtain ⟨n,av,fl,ids,h⟩:=h;exact (SubT.kv n h.s).1
theorem HoldsA.put {b:Bt} {K:Nat} {kv:Ens} {key val:Bs} (h:HoldsA B b K kv) (hl:K≤735) (hk:rightK key=true) (hv:val.length≤64): ∃b',b.put key val= .ok b'∧HoldsA B b' (K+1) (insKv kv key val):=by
 obtain ⟨n,av,fl,ids,h⟩:=h;have h1:=h.pages;have h2:=h.c;rcases put_trA h hk hv with ⟨b',n',av',fl',ids',t,h'⟩|⟨e,_⟩
 ·exact ⟨b',t,n',av',fl',ids',h'⟩
 omega
theorem HoldsA.get {b:Bt} {K:Nat} {kv:Ens} {key:Bs} (h:HoldsA B b K kv) (hk:rightK key=true):b.get key= .ok (lookKv kv key):=by obtain ⟨n,av,fl,ids,h⟩:=h;exact get_trA h hk
variable {B:Nat}
def delKv (l:Ens) (k:Bs):Ens:=l.filter fun e=>decide (e.1≠k)
theorem delKv_append (l m:Ens) (k:Bs):delKv (l++m) k=delKv l k++delKv m k:=by simp [delKv]
theorem delKv_id {l:Ens} {k:Bs} (h: ∀e∈l,e.1≠k):delKv l k=l:=by rw [delKv,List.filter_eq_self];intro e he;simpa using h e he
theorem delKv_right {k:Bs} {R:Ens} (hR: ∀e∈R,ltB k e.1=true) (l:Ens):delKv (l++R) k=delKv l k++R:=by rw [delKv_append,delKv_id (l:=R)];intro e he h;have:=hR e he;rw [h,ltB_irrefl] at this;cases this
theorem delKv_left {k:Bs} {l:Ens} (L:Ens) (hL: ∀e∈L,ltB e.1 k=true):delKv (L++l) k=L++delKv l k:=by rw [delKv_append,delKv_id (l:=L)];intro e he h;have:=hL e he;rw [h,ltB_irrefl] at this;cases this
theorem delKv_found {k:Bs}: ∀l:Ens,Sorted l→(findP l k).2=true→l.eraseIdx (findP l k).1=delKv l k
 | [],_,h=>by simp [findP] at h
 |e::r,hs,h=>by
  have hs':=List.pairwise_cons.1 hs;rw [findP] at h ⊢;split at h
  ·rename_i h1;have hne:e.1≠k:=by intro e2;rw [e2,ltB_irrefl] at h1;cases h1
   rw [if_pos h1];simp only [List.eraseIdx_cons_succ];rw [delKv_found r hs'.2 h,delKv,delKv,List.filter_cons_of_pos (by simpa using hne)]
  rename_i h1;have he:e.1=k:=by simpa using h
  rw [if_neg h1];simp only [List.eraseIdx_cons_zero];have:delKv r k=r:=delKv_id (fun q hq h2=>by have:=hs'.1 q hq;rw [h2,he,ltB_irrefl] at this;cases this);rw [delKv,List.filter_cons_of_neg (by simpa using he)];exact this.symm
theorem delKv_none {l:Ens} {k:Bs} (hs:Sorted l) (h:(findP l k).2=false):delKv l k=l:=by refine delKv_id (fun e he h2=> ?_);rw [findP_of_mem l hs ⟨e,he,h2⟩] at h;cases h
theorem delKv_ok {lo:Bs} {hi:Option Bs} {l:Ens} (k:Bs) (h:KvOk lo hi l):KvOk lo hi (delKv l k):=
 ⟨List.Pairwise.sublist List.filter_sublist h.1,fun e he=>h.2 e (List.mem_filter.1 he).1⟩
theorem delKv_len (l:Ens) (k:Bs):(delKv l k).length≤l.length:=List.length_filter_le _ _
theorem insR_view {id:Int}: ∀(l:Ens) (i:Nat) (b:Bt) (x:Pg),b.view id=some x→x.id=id→x.ents.length=i→i+l.length≤8→
  ∃b',b.all (insR id i l)= .ok b'∧b'.view=b.view.upd id {x with ents:=x.ents++l}
 | [],i,b,x,hv,hid,hi,hl=>by
  refine ⟨b,rfl, ?_⟩;funext k;by_cases hk:k=id
  ·subst hk;rw [upd_same,hv,List.append_nil]
  rw [upd_other hk]
 |e::r,i,b,x,hv,hid,hi,hl=>by
  simp only [List.length_cons] at hl;obtain ⟨b1,h1,hv1⟩:=doR_view (b:=b) (r:={page:=id,kind:=2,slot:=(i:Nat),key:=e.1,val:=e.2}) (x:=x) (.inr ⟨by simp,hv⟩) hid;have he:effP x {page:=id,kind:=2,slot:=(i:Nat),key:=e.1,val:=e.2}={x with ents:=x.ents++ [e]}:=by
   unfold effP;rw [if_neg (by simp),if_pos rfl,if_pos (by omega)];have hm:(min ((i:Nat):Int) (x.ents.length:Nat)).toNat=x.ents.length:=by omega
   rw [hm,insertIdx_len]
  rw [he] at hv1;obtain ⟨b2,h2,hv2⟩:=insR_view r (i+1) b1 {x with ents:=x.ents++ [e]} (by rw [hv1,upd_same]) hid (by simp [hi]) (by omega);refine ⟨b2,by rw [insR,Bt.all,h1];exact h2, ?_⟩;rw [hv2,hv1];funext k;by_cases hk:k=id
  ·subst hk;rw [upd_same,upd_same];simp
  rw [upd_other hk,upd_other hk,upd_other hk]
theorem join_view {b:Bt} {av:List Int} {p X Y:Pg} {kk:Nat} (hm:AvV B b.view av) (hi:IdsOk b.view) (hp:b.view p.id=some p) (hX:b.view X.id=some X) (hY:b.view Y.id=some Y) (hs:X.ents.length+Y.ents.length≤6) (hk:kk+1<p.ents.length) (hn:Y.next<256)
  (d1:p.id≠X.id) (d2:X.id≠Y.id) (d3:p.id≠Y.id) (d4:p.id≠1) (d5:X.id≠1) (d6:1<Y.id) (d7:Y.id<256) (a1:p.id ∉ av) (a2:X.id ∉ av) (a3:Y.id ∉ av) (hBd:256≤B+av.length) :
  ∃b' m q,b.joinL p kk X Y= .ok b'∧m.id=1∧q.id=Y.id∧b'.view=(((b.view.upd X.id {X with ents:=X.ents++Y.ents,next:=Y.next}).upd p.id {p with ents:=p.ents.eraseIdx (kk+1)}).upd Y.id q).upd 1 m∧AvV B b'.view (Y.id::av):=by
 obtain ⟨b1,t1,v1⟩:=insR_view (id:=X.id) Y.ents X.ents.length b X hX rfl rfl (by omega);obtain ⟨b2,t2,v2⟩:=doR_view (b:=b1) (r:={page:=X.id,kind:=5,slot:=nextP Y}) (x:={X with ents:=X.ents++Y.ents}) (.inr ⟨by simp,by rw [v1,upd_same]⟩) rfl;have e2:effP {X with ents:=X.ents++Y.ents} {page:=X.id,kind:=5,slot:=nextP Y}={X with ents:=X.ents++Y.ents,next:=Y.next}:=by
  unfold effP;rw [if_neg (by simp),if_neg (by simp),if_neg (by simp),if_neg (by simp),if_pos rfl];by_cases h:Y.next= -1
  ·have h1:nextP Y=256:=by rw [nextP,if_pos h]
   rw [if_pos (by simp only [];omega),h]
  have h1:nextP Y=Y.next:=by rw [nextP,if_neg h]
  rw [if_neg (by simp only [];omega)];simp only [h1]
 rw [e2] at v2;have hp2:b2.view p.id=some p:=by rw [v2,upd_other d1,v1,upd_other d1];exact hp
 obtain ⟨b3,t3,v3⟩:=doR_view (b:=b2) (r:={page:=p.id,kind:=3,slot:=((kk+1:Nat):Int)}) (x:=p) (.inr ⟨by simp,hp2⟩) rfl;have e3:effP p {page:=p.id,kind:=3,slot:=((kk+1:Nat):Int)}={p with ents:=p.ents.eraseIdx (kk+1)}:=by unfold effP;rw [if_neg (by simp),if_neg (by simp),if_pos rfl,if_pos (by simp only [];omega)];simp only [Int.toNat_natCast]
 rw [e3] at v3;have v3':b3.view=(b.view.upd X.id {X with ents:=X.ents++Y.ents,next:=Y.next}).upd p.id {p with ents:=p.ents.eraseIdx (kk+1)}:=by
  rw [v3,v2,v1];funext j;by_cases hj:j=p.id
  ·subst hj;simp only [upd_same]
  rw [upd_other hj,upd_other hj];by_cases h2:j=X.id
  ·subst h2;simp only [upd_same]
  simp only [upd_other h2]
 have hA3:AvV B b3.view av:=hm.frame (by rw [v3',upd_other (Ne.symm d4),upd_other (Ne.symm d5)]) (fun j hj=>by rw [v3',upd_other (by rintro rfl;exact a1 hj),upd_other (by rintro rfl;exact a2 hj)]);have hi3:IdsOk b3.view:=by rw [v3'];refine IdsOk.upd (IdsOk.upd hi ?_) ?_<;>rfl
 obtain ⟨b4,m,t4,m1,⟨q,q1,v4⟩,hA4⟩:=free_av hA3 hi3 d6 d7 a3 hBd;refine ⟨b4,m,q, ?_,m1,q1,by rw [v4,v3'],hA4⟩;rw [Bt.joinL,if_neg (by omega),t1];simp only [];rw [Bt.all,t2];simp only [];rw [Bt.all,t3];simp only [Bt.all];exact t4
theorem Chs.pair {C:CP} {a c:Bs×Bs} {post:Ens}: ∀(pre:Ens) {lo:Bs} {hi:Option Bs} {fl nx:Int} {ids:List Int} {kv:Ens},Chs C (pre++a::c::post) lo hi fl nx ids kv→
  ∃lo1 hi1 f1 m1 n1 iL i1 i2 iR kL k1 k2 kR,a.2.length=2∧c.2.length=2∧ltB lo1 c.1=true∧below c.1 hi1∧C (numberP a.2) lo1 (some c.1) f1 m1 i1 k1∧C (numberP c.2) c.1 hi1 m1 n1 i2 k2∧ids=iL++(i1++i2)++iR∧kv=kL++(k1++k2)++kR∧
   ∀(C':CP) ids'' kv'',(∀id lo hi fl nx js kv,(∀j∈js,j∈iL∨j∈iR)→C id lo hi fl nx js kv→C' id lo hi fl nx js kv)→C' (numberP a.2) lo1 hi1 f1 n1 ids'' kv''→Chs C' (pre++a::post) lo hi fl nx (iL++ids''++iR) (kL++kv''++kR)
 | [],lo,hi,fl,nx,ids,kv,h=>by
  obtain ⟨h0,h1,h2,md,i1,i2,k1,k2,rfl,rfl,h3,h4⟩:=h;cases post with
  |nil=>
   refine ⟨lo,hi,fl,md,nx, [],i1,i2, [], [],k1,k2, [],h0,h4.1,h1,h2,h3,h4.2,by simp,by simp,fun C' ids'' kv'' _ hm=> ?_⟩;simp only [List.nil_append,List.append_nil];exact ⟨h0,hm⟩
  |cons d post=>
   obtain ⟨g0,g1,g2,md2,j1,j2,l1,l2,rfl,rfl,g3,g4⟩:=h4;refine ⟨lo,some d.1,fl,md,md2, [],i1,j1,j2, [],k1,l1,l2,h0,g0,h1,g1,h3,g3,by simp,by simp,fun C' ids'' kv'' hc hm=> ?_⟩;simp only [List.nil_append];exact ⟨h0,ltB_trans h1 g1,g2,md2,ids'',j2,kv'',l2,rfl,rfl,hm,Chs.mono (d::post) (fun id lo hi fl nx js kv hj=>hc id lo hi fl nx js kv (fun j hjm=> .inr (hj j hjm))) g4⟩
 |p::pre,lo,hi,fl,nx,ids,kv,h=>by
  obtain ⟨e2,r,he⟩: ∃e2 r,pre++a::c::post=e2::r:=by cases pre with
   |nil=>exact ⟨_,_,rfl⟩
   |cons q s=>exact ⟨_,_,rfl⟩
  rw [List.cons_append,he] at h;obtain ⟨h0,h1,h2,md,i1,i2,k1,k2,rfl,rfl,h3,h4⟩:=h;rw [←he] at h4;obtain ⟨lo1,hi1,f1,m1,n1,iL,j1,j2,iR,kL,l1,l2,kR,g1,g2,g3,g4,g5,g6,rfl,rfl,g9⟩:=Chs.pair pre h4;refine ⟨lo1,hi1,f1,m1,n1,i1++iL,j1,j2,iR,k1++kL,l1,l2,kR,g1,g2,g3,g4,g5,g6,by simp,by simp,fun C' ids'' kv'' hc hm=> ?_⟩;have h5:=g9 C' ids'' kv'' (fun id lo hi fl nx js kv hj=>hc id lo hi fl nx js kv (fun j hjm=>by rcases hj j hjm with q|q;exact .inl (by simp [q]);exact .inr q)) hm;obtain ⟨r',he'⟩: ∃r',pre++a::post=e2::r':=by
   cases pre with
   |nil=>simp only [List.nil_append,List.cons.injEq] at he;exact ⟨post,by rw [List.nil_append,he.1]⟩
   |cons q s=>simp only [List.cons_append,List.cons.injEq] at he;exact ⟨s++a::post,by rw [List.cons_append,he.1]⟩
  rw [List.cons_append,he'];rw [he'] at h5;refine ⟨h0,h1,h2,md,i1,iL++ids''++iR,k1,kL++kv''++kR,by simp,by simp, ?_,h5⟩;exact hc _ _ _ _ _ _ _ (fun j hj=> .inl (by simp [hj])) h3
def WandP (V:Vw) (n:Nat) (id:Int) (lo:Bs) (hi:Option Bs) (fl nx:Int) (ids:List Int) (kv:Ens) (key:Bs) (p:Pg):Prop:=
 ∃(idsL idsp idsR:List Int) (kvL kvp kvR:Ens) (lo':Bs) (hi':Option Bs) (fl' nx':Int),ids=idsL++idsp++idsR∧kv=kvL++kvp++kvR∧V p.id=some p∧SubT V 1 p.id lo' hi' fl' nx' idsp kvp∧InR lo' hi' key∧
  ((n=1∧p.id=id∧idsL= []∧idsR= [])∨(1<n∧ ∃t,idsL=id::t))∧
  ∀(V'':Vw) idsp'' kvp'',(∀j∈idsL,V'' j=V j)→(∀j∈idsR,V'' j=V j)→SubT V'' 1 p.id lo' hi' fl' nx' idsp'' kvp''→SubT V'' n id lo hi fl nx (idsL++idsp''++idsR) (kvL++kvp''++kvR)
theorem down_p {b:Bt} {key:Bs} (hi0:IdsOk b.view): ∀(m f:Nat) {id lo hi fl nx ids kv} (l:List Pg) (ks:List Nat),m+2≤f→SubT b.view (m+1) id lo hi fl nx ids kv→InR lo hi key→
  ∃l' ks' p y,b.downF key f id l ks= .ok (l++l'++ [p,y],ks++ks'++ [childP p key])∧(∃c,p.ents[childP p key]? =some c∧c.2.length=2∧b.view (numberP c.2)=some y∧y.level=0)∧WandP b.view (m+1) id lo hi fl nx ids kv key p
 |0,f,id,lo,hi,fl,nx,ids,kv,l,ks,hf,hs,hk=>by
  obtain ⟨f,rfl⟩: ∃g,f=g+1+1:=⟨f - 2,by omega⟩;have hs0:=hs;obtain ⟨js,rfl,x,hx,hlv,hxn,hlen,⟨v,r,hes⟩,hch⟩:=hs;have hxid:=hi0 _ x hx;rw [hes] at hch;obtain ⟨pre,c,post,lo',hi',fl',nx',idsL,ids',idsR,kvL,kv',kvR,g1,g2,g3,g4,g5,rfl,rfl,g8,g9,g10⟩:=Chs.focus r ([],v) hch hk;have hcp:childP x key=pre.length:=by rw [childP_cnt hes (Chs.rise _ _ hch),g2]
  have hget:x.ents[pre.length]? =some c:=by rw [hes,g1];simp
  have hlt:pre.length<x.ents.length:=by rw [hes,g1];simp
  have hat:atP x (childP x key:Nat)= .ok (numberP c.2):=by
   have hd:x.ents.getD ((pre.length:Int)).toNat ([], [])=c:=by simp [List.getD,hget]
   rw [atP,hcp,if_neg (by omega),hd,if_neg (by simp [g4])]
  obtain ⟨e1,e2,y,hy,hy0,_⟩:=g5;refine ⟨[], [],x,y, ?_,⟨c,by rw [hcp];exact hget,g4,hy,hy0⟩, ?_⟩
  ·rw [Bt.downF,page_of_view hx];simp only [];rw [if_neg (by omega),hat];simp only [];rw [Bt.downF,page_of_view hy];simp only [];rw [if_pos hy0];simp
  refine ⟨[],id::(idsL++ids'++idsR), [], [],kvL++kv'++kvR, [],lo,hi,fl,nx,by simp,by simp,by rw [hxid];exact hx,by rw [hxid];exact hs0,hk, .inl ⟨rfl,hxid,rfl,rfl⟩,fun V'' idsp'' kvp'' _ _ hS=> ?_⟩;rw [hxid] at hS;simpa using hS
 |m+1,f,id,lo,hi,fl,nx,ids,kv,l,ks,hf,hs,hk=>by
  obtain ⟨f,rfl⟩: ∃g,f=g+1:=⟨f - 1,by omega⟩;obtain ⟨js,rfl,x,hx,hlv,hxn,hlen,⟨v,r,hes⟩,hch⟩:=hs;rw [hes] at hch;obtain ⟨pre,c,post,lo',hi',fl',nx',idsL,ids',idsR,kvL,kv',kvR,g1,g2,g3,g4,g5,rfl,rfl,g8,g9,g10⟩:=Chs.focus r ([],v) hch hk;have hcp:childP x key=pre.length:=by rw [childP_cnt hes (Chs.rise _ _ hch),g2]
  have hget:x.ents[pre.length]? =some c:=by rw [hes,g1];simp
  have hlt:pre.length<x.ents.length:=by rw [hes,g1];simp
  have hat:atP x (childP x key:Nat)= .ok (numberP c.2):=by
   have hd:x.ents.getD ((pre.length:Int)).toNat ([], [])=c:=by simp [List.getD,hget]
   rw [atP,hcp,if_neg (by omega),hd,if_neg (by simp [g4])]
  obtain ⟨l',ks',p,y,hr,hy,iL,ip,iR,kL,kp,kR,lo2,hi2,f2,n2,rfl,rfl,w1,w2,wk,w3,w4⟩:=down_p hi0 m f (l++ [x]) (ks++ [childP x key]) (by omega) g5 g3;refine ⟨x::l',childP x key::ks',p,y, ?_,hy,id::(idsL++iL),ip,iR++idsR,kvL++kL,kp,kR++kvR,lo2,hi2,f2,n2,by simp,by simp,w1,w2,wk, .inr ⟨by omega,_,rfl⟩,fun V'' ip'' kp'' hL hR hS=> ?_⟩
  ·rw [Bt.downF,page_of_view hx];simp only [];rw [if_neg (by omega),hat];simp only [];rw [hr];simp
  have h1:=w4 V'' ip'' kp'' (fun j hj=>hL j (by simp [hj])) (fun j hj=>hR j (by simp [hj])) hS;have hall:=g10 (SubT V'' (m+1)) [] (iL++ip''++iR) (kL++kp''++kR) (fun id' lo hi fl nx is kv hj hs'=>SubT.frame (m+1) (fun j hjm=>by
   rcases hj j hjm with q|q
   ·exact hL j (by simp [q])
   exact hR j (by simp [q])) hs') ⟨g4,h1⟩
  refine ⟨idsL++iL++ip''++(iR++idsR),by simp,x,by rw [hL id (by simp)];exact hx,hlv,hxn,hlen,⟨v,r,hes⟩, ?_⟩;rw [hes,g1];simpa using hall
end Go.Proofs.YtkknmpkcfpdllaaGreatDoor.B
