/- What functions of the program compute, each function once: steps over the model, and the plain law of it. -/
import Derived.Test.YtkknmpkcfpdllaaGreatDoorTDAv
import Derived.Test.YtkknmpkcfpdllaaGreatDoorTTreeLawA
namespace Go.Proofs.YtkknmpkcfpdllaaGreatDoor.B
open Go
set_option linter.unusedVariables false
set_option linter.unusedSimpArgs false
set_option linter.unnecessarySimpa false
variable {B:Nat}
def pw (V:Vw) (j:Int):Nat:=match V j with
 |some x=>(x.ents.length - 4)+3
 |none=>0
def wt (V:Vw) (l:List Int):Nat:=(l.map (pw V)).sum
theorem wt_nil (V:Vw):wt V []=0:=rfl
theorem wt_cons (V:Vw) (j:Int) (l:List Int):wt V (j::l)=pw V j+wt V l:=by simp [wt]
theorem wt_append (V:Vw) (l m:List Int):wt V (l++m)=wt V l+wt V m:=by simp [wt]
theorem pw_some {V:Vw} {j:Int} {x:Pg} (h:V j=some x):pw V j=(x.ents.length - 4)+3:=by rw [pw,h]
theorem wt_frame {V V':Vw}: ∀(l:List Int),(∀j∈l,V' j=V j)→wt V' l=wt V l
 | [],_=>rfl
 |j::l,h=>by rw [wt_cons,wt_cons,wt_frame l (fun k hk=>h k (by simp [hk])),pw,pw,h j (by simp)]
theorem wt_perm {V:Vw} {l m:List Int} (h:l.Perm m):wt V l=wt V m:=by
 induction h with
 |nil=>rfl
 |cons x _ ih=>rw [wt_cons,wt_cons,ih]
 |swap x y l=>simp only [wt_cons];omega
 |trans _ _ h1 h2=>rw [h1,h2]
structure GoodA (B:Nat) (b:Bt) (av ids:List Int):Prop where
 m:AvV B b.view av
 i:IdsOk b.view
 nd:(ids++av).Nodup
 rg: ∀j∈ids++av,0≤j∧j<256∧j≠1
 a1: ∀j∈av,1<j
theorem GoodA.ids {b:Bt} {av ids:List Int} (h:GoodA B b av ids):ids.Nodup:=(List.nodup_append.1 h.nd).1
theorem GoodA.avs {b:Bt} {av ids:List Int} (h:GoodA B b av ids):av.Nodup:=(List.nodup_append.1 h.nd).2.1
theorem GoodA.dis {b:Bt} {av ids:List Int} (h:GoodA B b av ids) {j:Int} (h1:j∈ids) (h2:j∈av):False:=(List.nodup_append.1 h.nd).2.2 j h1 j h2 rfl
theorem GoodA.rgi {b:Bt} {av ids:List Int} (h:GoodA B b av ids) {j:Int} (h1:j∈ids):0≤j∧j<256∧j≠1:=h.rg j (by simp [h1])
theorem GoodA.sub {b:Bt} {av ids ids':List Int} (h:GoodA B b av ids) (h1:ids'.Nodup) (h2: ∀j∈ids',j∈ids):GoodA B b av ids':=by
 refine ⟨h.m,h.i,List.nodup_append.2 ⟨h1,h.avs, ?_⟩,fun j hj=> ?_,h.a1⟩
 ·rintro a ha c hc rfl;exact h.dis (h2 a ha) hc
 rcases List.mem_append.1 hj with q|q
 ·exact h.rgi (h2 j q)
 exact h.rg j (by simp [q])
def OccL (V:Vw) (id:Int) (ids:List Int):Prop:= ∀j∈ids,j≠id→ ∀x,V j=some x→2≤x.level→4≤x.ents.length
def RoomPostA (B:Nat) (b:Bt) (n:Nat) (av:List Int) (id:Int) (lo:Bs) (hi:Option Bs) (fl nx:Int) (ids:List Int) (kv:Ens) (key:Bs) (x:Pg) (b':Bt) (y:Pg):Prop:=
 ∃(av' ids':List Int),GoodA B b' av' ids'∧(∀j∈ids',j∈ids∨j∈av)∧(∀j∈ids,j∈ids')∧(∀j∈av',j∈av)∧ids'.length+av'.length=ids.length+av.length∧
  (∀j,j≠1→j ∉ ids→j ∉ av→b'.view j=b.view j)∧(OccL b.view id ids→OccL b'.view id ids')∧
  (∃x',b'.view id=some x'∧x.ents.length≤x'.ents.length∧x'.level=x.level∧wt b'.view ids'.tail+x'.ents.length≤wt b.view ids.tail+x.ents.length)∧
  y.ents.length<8∧Wand b'.view n id lo hi fl nx ids' kv key y
def RoomNA (B:Nat) (n:Nat):Prop:= ∀(f:Nat) (b:Bt) (av:List Int) {id lo hi fl nx ids kv} (x:Pg) (key:Bs),2*n+1≤f→n≤16→nx<256→GoodA B b av ids→SubT b.view n id lo hi fl nx ids kv→b.view id=some x→x.ents.length<8→InR lo hi key→
 (∃b' y,Bt.roomF key f b x= .ok (b',y)∧RoomPostA B b n av id lo hi fl nx ids kv key x b' y)∨(av.length<n∧Bt.roomF key f b x= .fail 109 none)
theorem Wand.sub {V:Vw} {n:Nat} {id lo hi fl nx ids kv key y} (h:Wand V n id lo hi fl nx ids kv key y) (h8:y.ents.length≤8):SubT V n id lo hi fl nx ids kv:=by obtain ⟨w1,w2,w3,kvL,kvR,lo',hi',rfl,w5,w6,w7,w8,w9⟩:=h;exact w9 V y.ents (fun _ _ _=>rfl) w1 h8 w6
theorem roomA_zero:RoomNA B 0:=by
 intro f b av id lo hi fl nx ids kv x key hf hn hnx hg hs hx hl hk;obtain ⟨f,rfl⟩: ∃g,f=g+1:=⟨f - 1,by omega⟩;obtain ⟨rfl,rfl,y,hy,h1,h2,h3,h4,h5,h6⟩:=hs;rw [hx] at hy;injection hy with hy;subst hy
 have hid:=hg.i _ x hx;subst h3;refine .inl ⟨b,x,by rw [Bt.roomF,if_pos h1],av, [fl],hg,fun j hj=> .inl hj,fun j hj=>hj,fun j hj=>hj,rfl,fun _ _ _ _=>rfl,fun h=>h,⟨x,hx,Nat.le_refl _,rfl,Nat.le_refl _⟩,hl, ?_⟩;refine ⟨by rw [hid];exact hx,h1,by simp [hid], [], [],lo,hi,by simp,hk,⟨h5,h6⟩,ltB_irrefl _,fun h hh=>⟨h,hh,ltB_irrefl _⟩, ?_⟩;intro V'' ents' hf hy hl' hkv;rw [hid] at hy;exact ⟨rfl,rfl,_,hy,h1,h2,by simp,by simpa using hl',by simpa using hkv.1,by simpa using hkv.2⟩
theorem roomA_down {n:Nat} (IH:RoomNA B n) (f:Nat) (b:Bt) (av:List Int) {id lo hi fl nx ids kv} (x:Pg) (key:Bs) (hf:2*n+1≤f) (hn:n≤16) (hnx:nx<256) (hg:GoodA B b av ids)
  (hs:SubT b.view (n+1) id lo hi fl nx ids kv) (hx:b.view id=some x) (hk:InR lo hi key)
  (hc: ∀c z,x.ents[childP x key]? =some c→b.view (numberP c.2)=some z→z.ents.length<8) :
  (∃b' y,Bt.roomF key (f+1) b x= .ok (b',y)∧RoomPostA B b (n+1) av id lo hi fl nx ids kv key x b' y)∨(av.length<n∧Bt.roomF key (f+1) b x= .fail 109 none):=by
 obtain ⟨js,rfl,x',hx',hlv,hxn,hlen,⟨v,r,hes⟩,hch⟩:=hs;rw [hx] at hx';injection hx' with hx';subst hx'
 have hch':=Chs.nxs (N:=256) (fun _ _ _ _ _ _ _ h=>SubT.fl_mem n h) _ hnx (fun j hj=>(hg.rgi (j:=j) (by simp [hj])).2.1) hch;rw [hes] at hch';obtain ⟨pre,c,post,lo',hi',fl',nx',idsL,ids',idsR,kvL,kv',kvR,g1,g2,g3,g4,⟨g5,g5'⟩,rfl,rfl,g8,g9,g10⟩:=Chs.focus r ([],v) hch' hk;have hcp:childP x key=pre.length:=by rw [childP_cnt hes (Chs.rise _ _ hch'),g2]
 have hget:x.ents[pre.length]? =some c:=by rw [hes,g1];simp
 have hat:atP x (childP x key:Nat)= .ok (numberP c.2):=by
  have hlt:pre.length<x.ents.length:=by rw [hes,g1];simp
  have hd:x.ents.getD ((pre.length:Int)).toNat ([], [])=c:=by simp [List.getD,hget]
  rw [atP,hcp,if_neg (by omega),hd,if_neg (by simp [g4])]
 obtain ⟨y,js',hy,hyl,hylen,hyids⟩:=SubT.page g5;have hy8:=hc c y (by rw [hcp];exact hget) hy;have hnd2:=List.nodup_cons.1 hg.ids;have hnd3:=List.nodup_append.1 hnd2.2;have hnd4:=List.nodup_append.1 hnd3.1;have hg':GoodA B b av ids':=hg.sub hnd4.2.1 (fun j hj=>by simp [hj]);have hroom:Bt.roomF key (f+1) b x=Bt.roomF key f b y:=by rw [Bt.roomF,if_neg (by omega),hat];simp only [];rw [page_of_view hy];simp only [];rw [if_neg (by omega)]
 rw [hroom];rcases IH f b av y key hf hn g5' hg' g5 hy hy8 g3 with ⟨b',z,hr,av',ids'',p3,p4,p5,pa,p6,p7,p8,⟨y',p9,p9',p9l,p9w⟩,p10,hw⟩|hfail
 rotate_left
 ·exact .inr hfail
 have hsub':=hw.sub (by omega);obtain ⟨_,js2,_,_,_,hids2⟩:=SubT.page hsub';obtain ⟨w1,w2,w3,kL,kR,lo2,hi2,rfl,w5,w6,w7,w8,w9⟩:=hw;have hL: ∀j∈idsL,j ∉ ids':=fun j hj hj'=>hnd4.2.2 j hj j hj' rfl;have hR: ∀j∈idsR,j ∉ ids':=fun j hj hj'=>hnd3.2.2 j (List.mem_append_right _ hj') j hj rfl;have hid':id ∉ ids':=fun h=>hnd2.1 (by simp [h]);have hav: ∀j∈id::(idsL++ids'++idsR),j ∉ av:=fun j hj h=>hg.dis hj h;have hLR: ∀j,(j∈idsL∨j∈idsR)→j ∉ ids'∧0≤j∧j ∉ av∧j≠1:=by
  rintro j (hj|hj)
  ·have:=hg.rgi (j:=j) (by simp [hj]);exact ⟨hL j hj,this.1,hav j (by simp [hj]),this.2.2⟩
  have:=hg.rgi (j:=j) (by simp [hj]);exact ⟨hR j hj,this.1,hav j (by simp [hj]),this.2.2⟩
 have hidr:=hg.rgi (j:=id) (by simp);have hida:=hav id (by simp);have hnew: ∀j,(j∈idsL∨j∈idsR∨j=id)→j ∉ ids'':=by
  intro j hj hj';rcases p4 j hj' with h|h
  ·rcases hj with q|q|q
   ·exact hL j q h
   ·exact hR j q h
   subst q;exact hid' h
  rcases hj with q|q|q
  ·exact (hLR j (.inl q)).2.2.1 h
  ·exact (hLR j (.inr q)).2.2.1 h
  subst q;exact hida h
 have hvid:b'.view id=some x:=by rw [p7 id hidr.2.2 hid' hida];exact hx
 have hvo: ∀j,(j∈idsL∨j∈idsR)→b'.view j=b.view j:=fun j hj=>p7 j (hLR j hj).2.2.2 (hLR j hj).1 (hLR j hj).2.2.1;refine .inl ⟨b',z,hr,av',id::(idsL++ids''++idsR), ?_, ?_, ?_,pa, ?_, ?_, ?_,⟨x,hvid,Nat.le_refl _,rfl, ?_⟩,p10, ?_⟩
 ·have hnn:(id::(idsL++ids''++idsR)).Nodup:=by
   refine List.nodup_cons.2 ⟨?_,List.nodup_append.2 ⟨List.nodup_append.2 ⟨hnd4.1,p3.ids, ?_⟩,hnd3.2.1, ?_⟩⟩
   ·intro h;rcases List.mem_append.1 h with h|h
    ·rcases List.mem_append.1 h with h|h
     ·exact hnd2.1 (by simp [h])
     exact hnew id (.inr (.inr rfl)) h
    exact hnd2.1 (by simp [h])
   ·rintro a ha c hc rfl;exact hnew a (.inl ha) hc
   rintro a ha c hc rfl;rcases List.mem_append.1 ha with h|h
   ·exact hnd3.2.2 a (List.mem_append_left _ h) a hc rfl
   exact hnew a (.inr (.inl hc)) h
  refine ⟨p3.m,p3.i,List.nodup_append.2 ⟨hnn,p3.avs, ?_⟩, ?_,p3.a1⟩
  ·rintro a ha c hc rfl;rcases List.mem_cons.1 ha with rfl|ha
   ·exact hida (pa _ hc)
   rcases List.mem_append.1 ha with ha|ha
   ·rcases List.mem_append.1 ha with ha|ha
    ·exact (hLR a (.inl ha)).2.2.1 (pa a hc)
    exact p3.dis ha hc
   exact (hLR a (.inr ha)).2.2.1 (pa a hc)
  intro j hj;rcases List.mem_append.1 hj with hj|hj
  ·rcases List.mem_cons.1 hj with rfl|hj
   ·exact hidr
   rcases List.mem_append.1 hj with hj|hj
   ·rcases List.mem_append.1 hj with hj|hj
    ·exact hg.rgi (by simp [hj])
    exact p3.rgi hj
   exact hg.rgi (by simp [hj])
  exact p3.rg j (by simp [hj])
 ·intro j hj;simp only [List.mem_cons,List.mem_append] at hj ⊢;rcases hj with h|(h|h)|h
  ·exact .inl (.inl h)
  ·exact .inl (.inr (.inl (.inl h)))
  ·rcases p4 j h with h|h
   ·exact .inl (.inr (.inl (.inr h)))
   exact .inr h
  exact .inl (.inr (.inr h))
 ·intro j hj;simp only [List.mem_cons,List.mem_append] at hj ⊢;rcases hj with h|(h|h)|h
  ·exact .inl h
  ·exact .inr (.inl (.inl h))
  ·exact .inr (.inl (.inr (p5 j h)))
  exact .inr (.inr h)
 ·simp only [List.length_cons,List.length_append] at p6 ⊢;omega
 ·intro j h1 h2 h3;exact p7 j h1 (fun h=>h2 (by simp [h])) h3
 ·intro ho j hj hne q hq hl2;have hoc:OccL b'.view (numberP c.2) ids'':=p8 (fun j2 hj2 hne q hq=>ho j2 (by simp [hj2]) (fun e=>hid' (by rw [←e];exact hj2)) q hq);rcases List.mem_cons.1 hj with h|hj
  ·exact absurd h hne
  rcases List.mem_append.1 hj with hj|hj
  ·rcases List.mem_append.1 hj with hj|hj
   ·exact ho j (by simp [hj]) hne q (by rw [←hvo j (.inl hj)];exact hq) hl2
   by_cases e:j=numberP c.2
   ·subst e;rw [p9] at hq;injection hq with hq;subst hq
    have hoy:4≤y.ents.length:=ho (numberP c.2) (by simp [hyids]) (fun e=>hid' (by rw [←e,hyids];simp)) y hy (by omega);omega
   exact hoc j hj e q hq hl2
  exact ho j (by simp [hj]) hne q (by rw [←hvo j (.inr hj)];exact hq) hl2
 ·have eL:=wt_frame (V:=b.view) (V':=b'.view) idsL (fun j hj=>hvo j (.inl hj));have eR:=wt_frame (V:=b.view) (V':=b'.view) idsR (fun j hj=>hvo j (.inr hj));rw [hids2,hyids] at p9w;simp only [List.tail_cons] at p9w ⊢;rw [wt_append,wt_append,wt_append,wt_append,eL,eR,hids2,hyids,wt_cons,wt_cons,pw_some p9,pw_some hy];omega
 refine ⟨w1,w2,by simp [w3],kvL++kL,kR++kvR,lo2,hi2,by simp,w5,w6, ?_, ?_, ?_⟩
 ·cases hq:ltB lo2 lo with
  |false=>rfl
  |true=>have h2:=ltB_le_trans hq g8;rw [w7] at h2;cases h2
 ·intro h hh;obtain ⟨h',e1,e2⟩:=g9 h hh;obtain ⟨h'',e3,e4⟩:=w8 h' e1;refine ⟨h'',e3, ?_⟩;cases hq:ltB h h'' with
  |false=>rfl
  |true=>have h2:=ltB_le_trans hq e4;rw [e2] at h2;cases h2
 intro V'' ents' hV hz hl hkv;have hzid:z.id≠id:=fun e=>hnew id (.inr (.inr rfl)) (by rw [←e];exact w3);have hVo: ∀j,(j∈idsL∨j∈idsR)→V'' j=b.view j:=fun j hj=>by
  rw [hV j (by rcases hj with h|h<;>simp [h]) (fun e=>hnew j (by rcases hj with h|h;exact .inl h;exact .inr (.inl h)) (by rw [e];exact w3)),hvo j hj]
 have hsub:=w9 V'' ents' (fun j hj hne=>hV j (by simp [hj]) hne) hz hl hkv;have hall:=g10 (SubT V'' n) [] ids'' (kL++ents'++kR) (fun id' lo hi fl nx is kv hj hs'=>SubT.frame n (fun j hjm=>hVo j (hj j hjm)) hs'.1) ⟨g4,hsub⟩;refine ⟨idsL++ids''++idsR,rfl,x,by rw [hV id (by simp) (Ne.symm hzid)];exact hvid,hlv,hxn,hlen,⟨v,r,hes⟩, ?_⟩;rw [hes,g1];simpa using hall
end Go.Proofs.YtkknmpkcfpdllaaGreatDoor.B
