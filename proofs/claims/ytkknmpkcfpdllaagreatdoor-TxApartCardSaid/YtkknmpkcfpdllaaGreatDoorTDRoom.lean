/- What functions of the program compute, each function once: steps over the model, and the plain law of it. -/
import Derived.Test.YtkknmpkcfpdllaaGreatDoorTTreeLawA
namespace Go.Proofs.YtkknmpkcfpdllaaGreatDoor.B
open Go
set_option linter.unusedVariables false
set_option linter.unusedSimpArgs false
set_option linter.unnecessarySimpa false
variable {B:Nat}
def FreeC (V:Vw):Int->List Int->Prop
 |f, []=>f=0
 |f,j::r=>f=j/\1<j/\j<256/\ ∃y,V j=some y/\y.level=0/\y.ents= []/\FreeC V (max y.next 0) r
def upTo (u:Nat):List Int:=(List.range' u (256 - u)).map fun i=>((i:Nat):Int)
theorem upTo_cons {u:Nat} (h:u<256):upTo u=(u:Int)::upTo (u+1):=by unfold upTo;rw [show 256 - u=(256 - (u+1))+1 by omega,List.range'_succ];rfl
theorem upTo_nil {u:Nat} (h:256<=u):upTo u= []:=by unfold upTo;rw [show 256 - u=0 by omega];rfl
theorem mem_upTo {u:Nat} {j:Int}:j∈upTo u↔(u:Int)<=j/\j<256:=by
 unfold upTo;rw [List.mem_map];constructor
 ·rintro ⟨i,hi,rfl⟩;rw [List.mem_range'_1] at hi;omega
 intro h;exact ⟨j.toNat,by rw [List.mem_range'_1];omega,by omega⟩
structure AvU (V:Vw) (u:Nat) (f:Int) (fr:List Int):Prop where
 m: ∃x,V 1=some x/\x.ents= [([110],twoB u++twoB f)]
 c:FreeC V f fr
 u1:1<u
 u2:u<=256
def AvV (B:Nat) (V:Vw) (av:List Int):Prop:= ∃u f fr,AvU V u f fr/\av=fr++upTo u/\(u<=B\/fr= [])
theorem FreeC.frame {V V':Vw}: ∀(fr:List Int) {f:Int},(∀j∈fr,V' j=V j)->FreeC V f fr->FreeC V' f fr
 | [],_,_,h=>h
 |j::r,_,hf,⟨h1,h2,h3,y,h4,h5,h6,h7⟩=>⟨h1,h2,h3,y,by rw [hf j (by simp)];exact h4,h5,h6,FreeC.frame r (fun k hk=>hf k (by simp [hk])) h7⟩
theorem FreeC.rg {V:Vw}: ∀(fr:List Int) {f:Int},FreeC V f fr->(∀j∈fr,1<j/\j<256)/\0<=f/\f<256
 | [],_,h=>⟨by simp,by have:_=(0:Int):=h;omega⟩
 |j::r,_,⟨h1,h2,h3,y,h4,h5,h6,h7⟩=>⟨fun k hk=>by
   rcases List.mem_cons.1 hk with q|q
   ·subst q;exact ⟨h2,h3⟩
   exact (FreeC.rg r h7).1 k q,by omega⟩
theorem AvV.frame {V V':Vw} {av:List Int} (h:AvV B V av) (h1:V' 1=V 1) (hf: ∀j∈av,V' j=V j):AvV B V' av:=by obtain ⟨u,f,fr,⟨m,c,u1,u2⟩,rfl,hB⟩:=h;exact ⟨u,f,fr,⟨by rw [h1];exact m,c.frame fr (fun j hj=>hf j (by simp [hj])),u1,u2⟩,rfl,hB⟩
theorem AvU.pages {b:Bt} {u:Nat} {f:Int} {fr:List Int} (h:AvU b.view u f fr):b.pages= .ok ((u:Int),f):=by
 obtain ⟨x,hx,hxe⟩:=h.m;have hu:=h.u2;have hf:=(FreeC.rg fr h.c).2;rw [Bt.pages,page_of_view hx];simp only [hxe];rw [if_neg (by simp [twoB])];have e1:numberP (([([110],twoB u++twoB f)]:Ens).getD 0 ([], [])).2=(u:Int):=by have:=numberP_twoB (u:=(u:Int)) (by omega) (by omega);simpa [numberP,twoB] using this
 have e2:numberP ((([([110],twoB u++twoB f)]:Ens).getD 0 ([], [])).2.drop 2)=f:=by have:=numberP_twoB (u:=f) (by omega) (by omega);simpa [numberP,twoB] using this
 rw [e1,e2]
theorem count_view {b:Bt} {u:Nat} {f:Int} {fr:List Int} (h:AvU b.view u f fr) (hi:IdsOk b.view) (a c:Int) :
  ∃b' m,b.count a c= .ok b'/\b'.view=b.view.upd 1 m/\m.id=1/\m.ents= [([110],twoB a++twoB c)]:=by
 obtain ⟨x,hx,hxe⟩:=h.m;have hid:=hi 1 x hx;obtain ⟨b',h2,hv⟩:=doR_view (b:=b) (r:={page:=1,kind:=4,val:=twoB a++twoB c}) (x:=x) (.inr ⟨by simp,hx⟩) hid;have he:effP x {page:=1,kind:=4,val:=twoB a++twoB c}={x with ents:= [([110],twoB a++twoB c)]}:=by unfold effP;rw [if_neg (by simp),if_neg (by simp),if_neg (by simp),if_pos rfl,if_pos (by rw [hxe];simp),hxe];rfl
 rw [he] at hv;exact ⟨b',_,h2,hv,hid,rfl⟩
theorem take_av {b:Bt} {p:Int} {av:List Int} (h:AvV B b.view (p::av)) (hi:IdsOk b.view) (hn:(p::av).Nodup) :
  ∃b' m,b.take= .ok (p,b')/\b'.view=b.view.upd 1 m/\m.id=1/\AvV B b'.view av:=by
 obtain ⟨u,f,fr,h,he,hB⟩:=h;have hp:=h.pages;have hu:=h.u2;have hu1:=h.u1;cases fr with
 |nil=>
  have hf:f=0:=h.c;subst hf;have hlt:u<256:=by
   rcases Nat.lt_or_ge u 256 with q|q
   ·exact q
   rw [List.nil_append,upTo_nil q] at he;cases he
  rw [List.nil_append,upTo_cons hlt] at he;injection he with h1 h2
  subst h1;obtain ⟨b',m,hc,hv,m1,m2⟩:=count_view h hi ((u:Int)+1) 0;refine ⟨b',m, ?_,hv,m1,u+1,0, [],⟨⟨m,by rw [hv,upd_same],m2⟩,rfl,by omega,by omega⟩,h2, .inr rfl⟩;rw [Bt.take,hp];simp only [if_true];rw [if_neg (by omega),hc]
 |cons j r=>
  obtain ⟨rfl,c2,c3,y,c4,c5,c6,c7⟩:=h.c;rw [List.cons_append] at he;injection he with h1 h2
  subst h1;subst h2;obtain ⟨b',m,hc,hv,m1,m2⟩:=count_view h hi u (max y.next 0);have hne: ∀k∈r,k≠1:=fun k hk=>by have:=(FreeC.rg r c7).1 k hk;omega
  refine ⟨b',m, ?_,hv,m1,u,_,r,⟨⟨m,by rw [hv,upd_same],m2⟩,c7.frame r (fun k hk=>by rw [hv,upd_other (hne k hk)]),hu1,hu⟩,rfl, .inl (hB.resolve_right (by simp))⟩;rw [Bt.take,hp];simp only [];rw [if_neg (by omega),page_of_view c4];simp only [];rw [hc]
theorem take_full {b:Bt} (h:AvV B b.view []):b.take= .fail 109 none:=by
 obtain ⟨u,f,fr,h,he,hB⟩:=h;have hp:=h.pages;have hu:=h.u2;obtain ⟨rfl,h2⟩:=List.append_eq_nil_iff.1 he.symm;have hf:f=0:=h.c;subst hf;have hge: ¬u<256:=fun q=>by rw [upTo_cons q] at h2;cases h2
 rw [Bt.take,hp];simp only [if_true];rw [if_pos (by omega)]
theorem free_av {b:Bt} {p:Int} {av:List Int} (h:AvV B b.view av) (hi:IdsOk b.view) (hp1:1<p) (hp2:p<256) (hn:p ∉ av) (hBd:256<=B+av.length) :
  ∃b' m,b.free p= .ok b'/\m.id=1/\(∃q,q.id=p/\b'.view=(b.view.upd p q).upd 1 m)/\AvV B b'.view (p::av):=by
 obtain ⟨u,f,fr,h,rfl,hB⟩:=h;have hB2:u<=B:=by
  rcases hB with hB|hB
  ·exact hB
  subst hB;simp [upTo] at hBd;have:=h.u2;omega
 have hpg:=h.pages;have hf:=(FreeC.rg fr h.c).2;have hu1:=h.u1;have hu2:=h.u2;obtain ⟨b1,t1,v1⟩:=doR_view (b:=b) (r:={page:=p,kind:=1}) (x:=newPg p) (.inl ⟨rfl,rfl⟩) rfl;have e1:effP (newPg p) {page:=p,kind:=1}=⟨p,0,0, -1, []⟩:=by unfold effP;rw [if_pos rfl];rfl
 rw [e1] at v1;obtain ⟨b2,t2,v2⟩:=doR_view (b:=b1) (r:={page:=p,kind:=5,slot:=if f=0 then 256 else f}) (x:=⟨p,0,0, -1, []⟩) (.inr ⟨by simp,by rw [v1];exact upd_same _ _ _⟩) rfl;have e2:effP ⟨p,0,0, -1, []⟩ {page:=p,kind:=5,slot:=if f=0 then 256 else f}=⟨p,0,0,if f=0 then -1 else f, []⟩:=by
  unfold effP;rw [if_neg (by simp),if_neg (by simp),if_neg (by simp),if_neg (by simp),if_pos rfl];simp only [];by_cases h0:f=0
  ·rw [if_pos h0,if_pos h0,if_pos (by omega)]
  rw [if_neg h0,if_neg h0,if_neg (by omega)]
 rw [e2] at v2;have v2':b2.view=b.view.upd p ⟨p,0,0,if f=0 then -1 else f, []⟩:=by
  rw [v2,v1];funext j;by_cases hj:j=p
  ·subst hj;simp only [upd_same]
  simp only [upd_other hj]
 have hA:AvU b2.view u f fr:=by obtain ⟨x,hx,hxe⟩:=h.m;refine ⟨⟨x,by rw [v2',upd_other (by omega)];exact hx,hxe⟩,h.c.frame fr (fun k hk=> ?_),hu1,hu2⟩;rw [v2',upd_other];rintro rfl;exact hn (by simp [hk])
 obtain ⟨b3,m,t3,v3,m1,m2⟩:=count_view hA (by rw [v2'];exact hi.upd rfl) u p;refine ⟨b3,m, ?_,m1,⟨_,rfl,by rw [v3,v2']⟩,u,p,p::fr,⟨⟨m,by rw [v3,upd_same],m2⟩,⟨rfl,hp1,hp2,_,by rw [v3,upd_other (by omega),v2',upd_same],rfl,rfl, ?_⟩,hu1,hu2⟩,by simp, .inl hB2⟩
 ·rw [Bt.free,hpg];simp only [];rw [Bt.all,t1];simp only [];rw [Bt.all,t2];simp only [];rw [Bt.count] at t3;rw [Bt.all,t3];rfl
 have e4:max (if f=0 then -1 else f) 0=f:=by split<;>omega
 simp only [];rw [e4];refine h.c.frame fr (fun k hk=> ?_);have h1:k≠p:=by rintro rfl;exact hn (by simp [hk])
 have h2:=(FreeC.rg fr h.c).1 k hk;rw [v3,upd_other (by omega),v2',upd_other h1]
variable {B:Nat}
def pw (V:Vw) (j:Int):Nat:=match V j with
 |some x=>(x.ents.length - 4)+3
 |none=>0
def wt (V:Vw) (l:List Int):Nat:=(l.map (pw V)).sum
theorem wt_nil (V:Vw):wt V []=0:=rfl
theorem wt_cons (V:Vw) (j:Int) (l:List Int):wt V (j::l)=pw V j+wt V l:=by simp [wt]
theorem wt_append (V:Vw) (l m:List Int):wt V (l++m)=wt V l+wt V m:=by simp [wt]
theorem pw_some {V:Vw} {j:Int} {x:Pg} (h:V j=some x):pw V j=(x.ents.length - 4)+3:=by rw [pw,h]
theorem wt_frame {V V':Vw}: ∀(l:List Int),(∀j∈l,V' j=V j)->wt V' l=wt V l
 | [],_=>rfl
 |j::l,h=>by rw [wt_cons,wt_cons,wt_frame l (fun k hk=>h k (by simp [hk])),pw,pw,h j (by simp)]
theorem wt_perm {V:Vw} {l m:List Int} (h:l.Perm m):wt V l=wt V m:=by
 induction h with
 |nil=>rfl
 |cons x _ ih=>rw [wt_cons,wt_cons,ih]
 |swap x y l=>simp only [wt_cons];omega
 |trans _ _ h1 h2=>rw [h1,h2]
structure GoodA (B:Nat) (b:Bt) (av ids:List Int):Prop where
 m:AvV B b.view av
 i:IdsOk b.view
 nd:(ids++av).Nodup
 rg: ∀j∈ids++av,0<=j/\j<256/\j≠1
 a1: ∀j∈av,1<j
theorem GoodA.ids {b:Bt} {av ids:List Int} (h:GoodA B b av ids):ids.Nodup:=(List.nodup_append.1 h.nd).1
theorem GoodA.avs {b:Bt} {av ids:List Int} (h:GoodA B b av ids):av.Nodup:=(List.nodup_append.1 h.nd).2.1
theorem GoodA.dis {b:Bt} {av ids:List Int} (h:GoodA B b av ids) {j:Int} (h1:j∈ids) (h2:j∈av):False:=(List.nodup_append.1 h.nd).2.2 j h1 j h2 rfl
theorem GoodA.rgi {b:Bt} {av ids:List Int} (h:GoodA B b av ids) {j:Int} (h1:j∈ids):0<=j/\j<256/\j≠1:=h.rg j (by simp [h1])
theorem GoodA.sub {b:Bt} {av ids ids':List Int} (h:GoodA B b av ids) (h1:ids'.Nodup) (h2: ∀j∈ids',j∈ids):GoodA B b av ids':=by
 refine ⟨h.m,h.i,List.nodup_append.2 ⟨h1,h.avs, ?_⟩,fun j hj=> ?_,h.a1⟩
 ·rintro a ha c hc rfl;exact h.dis (h2 a ha) hc
 rcases List.mem_append.1 hj with q|q
 ·exact h.rgi (h2 j q)
 exact h.rg j (by simp [q])
def OccL (V:Vw) (id:Int) (ids:List Int):Prop:= ∀j∈ids,j≠id-> ∀x,V j=some x->2<=x.level->4<=x.ents.length
def RoomPostA (B:Nat) (b:Bt) (n:Nat) (av:List Int) (id:Int) (lo:Bs) (hi:Option Bs) (fl nx:Int) (ids:List Int) (kv:Ens) (key:Bs) (x:Pg) (b':Bt) (y:Pg):Prop:=
 ∃(av' ids':List Int),GoodA B b' av' ids'/\(∀j∈ids',j∈ids\/j∈av)/\(∀j∈ids,j∈ids')/\(∀j∈av',j∈av)/\ids'.length+av'.length=ids.length+av.length/\
  (∀j,j≠1->j ∉ ids->j ∉ av->b'.view j=b.view j)/\(OccL b.view id ids->OccL b'.view id ids')/\
  (∃x',b'.view id=some x'/\x.ents.length<=x'.ents.length/\x'.level=x.level/\wt b'.view ids'.tail+x'.ents.length<=wt b.view ids.tail+x.ents.length)/\
  y.ents.length<8/\Wand b'.view n id lo hi fl nx ids' kv key y
def RoomNA (B:Nat) (n:Nat):Prop:= ∀(f:Nat) (b:Bt) (av:List Int) {id lo hi fl nx ids kv} (x:Pg) (key:Bs),2*n+1<=f->n<=16->nx<256->GoodA B b av ids->SubT b.view n id lo hi fl nx ids kv->b.view id=some x->x.ents.length<8->InR lo hi key->
 (∃b' y,Bt.roomF key f b x= .ok (b',y)/\RoomPostA B b n av id lo hi fl nx ids kv key x b' y)\/(av.length<n/\Bt.roomF key f b x= .fail 109 none)
theorem Wand.sub {V:Vw} {n:Nat} {id lo hi fl nx ids kv key y} (h:Wand V n id lo hi fl nx ids kv key y) (h8:y.ents.length<=8):SubT V n id lo hi fl nx ids kv:=by obtain ⟨w1,w2,w3,kvL,kvR,lo',hi',rfl,w5,w6,w7,w8,w9⟩:=h;exact w9 V y.ents (fun _ _ _=>rfl) w1 h8 w6
theorem roomA_zero:RoomNA B 0:=by
 intro f b av id lo hi fl nx ids kv x key hf hn hnx hg hs hx hl hk;obtain ⟨f,rfl⟩: ∃g,f=g+1:=⟨f - 1,by omega⟩;obtain ⟨rfl,rfl,y,hy,h1,h2,h3,h4,h5,h6⟩:=hs;rw [hx] at hy;injection hy with hy;subst hy
 have hid:=hg.i _ x hx;subst h3;refine .inl ⟨b,x,by rw [Bt.roomF,if_pos h1],av, [fl],hg,fun j hj=> .inl hj,fun j hj=>hj,fun j hj=>hj,rfl,fun _ _ _ _=>rfl,fun h=>h,⟨x,hx,Nat.le_refl _,rfl,Nat.le_refl _⟩,hl, ?_⟩;refine ⟨by rw [hid];exact hx,h1,by simp [hid], [], [],lo,hi,by simp,hk,⟨h5,h6⟩,ltB_irrefl _,fun h hh=>⟨h,hh,ltB_irrefl _⟩, ?_⟩;intro V'' ents' hf hy hl' hkv;rw [hid] at hy;exact ⟨rfl,rfl,_,hy,h1,h2,by simp,by simpa using hl',by simpa using hkv.1,by simpa using hkv.2⟩
theorem roomA_down {n:Nat} (IH:RoomNA B n) (f:Nat) (b:Bt) (av:List Int) {id lo hi fl nx ids kv} (x:Pg) (key:Bs) (hf:2*n+1<=f) (hn:n<=16) (hnx:nx<256) (hg:GoodA B b av ids)
  (hs:SubT b.view (n+1) id lo hi fl nx ids kv) (hx:b.view id=some x) (hk:InR lo hi key)
  (hc: ∀c z,x.ents[childP x key]? =some c->b.view (numberP c.2)=some z->z.ents.length<8) :
  (∃b' y,Bt.roomF key (f+1) b x= .ok (b',y)/\RoomPostA B b (n+1) av id lo hi fl nx ids kv key x b' y)\/(av.length<n/\Bt.roomF key (f+1) b x= .fail 109 none):=by
 obtain ⟨js,rfl,x',hx',hlv,hxn,hlen,⟨v,r,hes⟩,hch⟩:=hs;rw [hx] at hx';injection hx' with hx';subst hx'
 have hch':=Chs.nxs (N:=256) (fun _ _ _ _ _ _ _ h=>SubT.fl_mem n h) _ hnx (fun j hj=>(hg.rgi (j:=j) (by simp [hj])).2.1) hch;rw [hes] at hch';obtain ⟨pre,c,post,lo',hi',fl',nx',idsL,ids',idsR,kvL,kv',kvR,g1,g2,g3,g4,⟨g5,g5'⟩,rfl,rfl,g8,g9,g10⟩:=Chs.focus r ([],v) hch' hk;have hcp:childP x key=pre.length:=by rw [childP_cnt hes (Chs.rise _ _ hch'),g2]
 have hget:x.ents[pre.length]? =some c:=by rw [hes,g1];simp
 have hat:atP x (childP x key:Nat)= .ok (numberP c.2):=by
  have hlt:pre.length<x.ents.length:=by rw [hes,g1];simp
  have hd:x.ents.getD ((pre.length:Int)).toNat ([], [])=c:=by simp [List.getD,hget]
  rw [atP,hcp,if_neg (by omega),hd,if_neg (by simp [g4])]
 obtain ⟨y,js',hy,hyl,hylen,hyids⟩:=SubT.page g5;have hy8:=hc c y (by rw [hcp];exact hget) hy;have hnd2:=List.nodup_cons.1 hg.ids;have hnd3:=List.nodup_append.1 hnd2.2;have hnd4:=List.nodup_append.1 hnd3.1;have hg':GoodA B b av ids':=hg.sub hnd4.2.1 (fun j hj=>by simp [hj]);have hroom:Bt.roomF key (f+1) b x=Bt.roomF key f b y:=by rw [Bt.roomF,if_neg (by omega),hat];simp only [];rw [page_of_view hy];simp only [];rw [if_neg (by omega)]
 rw [hroom];rcases IH f b av y key hf hn g5' hg' g5 hy hy8 g3 with ⟨b',z,hr,av',ids'',p3,p4,p5,pa,p6,p7,p8,⟨y',p9,p9',p9l,p9w⟩,p10,hw⟩|hfail
 rotate_left
 ·exact .inr hfail
 have hsub':=hw.sub (by omega);obtain ⟨_,js2,_,_,_,hids2⟩:=SubT.page hsub';obtain ⟨w1,w2,w3,kL,kR,lo2,hi2,rfl,w5,w6,w7,w8,w9⟩:=hw;have hL: ∀j∈idsL,j ∉ ids':=fun j hj hj'=>hnd4.2.2 j hj j hj' rfl;have hR: ∀j∈idsR,j ∉ ids':=fun j hj hj'=>hnd3.2.2 j (List.mem_append_right _ hj') j hj rfl;have hid':id ∉ ids':=fun h=>hnd2.1 (by simp [h]);have hav: ∀j∈id::(idsL++ids'++idsR),j ∉ av:=fun j hj h=>hg.dis hj h;have hLR: ∀j,(j∈idsL\/j∈idsR)->j ∉ ids'/\0<=j/\j ∉ av/\j≠1:=by
  rintro j (hj|hj)
  ·have:=hg.rgi (j:=j) (by simp [hj]);exact ⟨hL j hj,this.1,hav j (by simp [hj]),this.2.2⟩
  have:=hg.rgi (j:=j) (by simp [hj]);exact ⟨hR j hj,this.1,hav j (by simp [hj]),this.2.2⟩
 have hidr:=hg.rgi (j:=id) (by simp);have hida:=hav id (by simp);have hnew: ∀j,(j∈idsL\/j∈idsR\/j=id)->j ∉ ids'':=by
  intro j hj hj';rcases p4 j hj' with h|h
  ·rcases hj with q|q|q
   ·exact hL j q h
   ·exact hR j q h
   subst q;exact hid' h
  rcases hj with q|q|q
  ·exact (hLR j (.inl q)).2.2.1 h
  ·exact (hLR j (.inr q)).2.2.1 h
  subst q;exact hida h
 have hvid:b'.view id=some x:=by rw [p7 id hidr.2.2 hid' hida];exact hx
 have hvo: ∀j,(j∈idsL\/j∈idsR)->b'.view j=b.view j:=fun j hj=>p7 j (hLR j hj).2.2.2 (hLR j hj).1 (hLR j hj).2.2.1;refine .inl ⟨b',z,hr,av',id::(idsL++ids''++idsR), ?_, ?_, ?_,pa, ?_, ?_, ?_,⟨x,hvid,Nat.le_refl _,rfl, ?_⟩,p10, ?_⟩
 ·have hnn:(id::(idsL++ids''++idsR)).Nodup:=by
   refine List.nodup_cons.2 ⟨?_,List.nodup_append.2 ⟨List.nodup_append.2 ⟨hnd4.1,p3.ids, ?_⟩,hnd3.2.1, ?_⟩⟩
   ·intro h;rcases List.mem_append.1 h with h|h
    ·rcases List.mem_append.1 h with h|h
     ·exact hnd2.1 (by simp [h])
     exact hnew id (.inr (.inr rfl)) h
    exact hnd2.1 (by simp [h])
   ·rintro a ha c hc rfl;exact hnew a (.inl ha) hc
   rintro a ha c hc rfl;rcases List.mem_append.1 ha with h|h
   ·exact hnd3.2.2 a (List.mem_append_left _ h) a hc rfl
   exact hnew a (.inr (.inl hc)) h
  refine ⟨p3.m,p3.i,List.nodup_append.2 ⟨hnn,p3.avs, ?_⟩, ?_,p3.a1⟩
  ·rintro a ha c hc rfl;rcases List.mem_cons.1 ha with rfl|ha
   ·exact hida (pa _ hc)
   rcases List.mem_append.1 ha with ha|ha
   ·rcases List.mem_append.1 ha with ha|ha
    ·exact (hLR a (.inl ha)).2.2.1 (pa a hc)
    exact p3.dis ha hc
   exact (hLR a (.inr ha)).2.2.1 (pa a hc)
  intro j hj;rcases List.mem_append.1 hj with hj|hj
  ·rcases List.mem_cons.1 hj with rfl|hj
   ·exact hidr
   rcases List.mem_append.1 hj with hj|hj
   ·rcases List.mem_append.1 hj with hj|hj
    ·exact hg.rgi (by simp [hj])
    exact p3.rgi hj
   exact hg.rgi (by simp [hj])
  exact p3.rg j (by simp [hj])
 ·intro j hj;simp only [List.mem_cons,List.mem_append] at hj ⊢;rcases hj with h|(h|h)|h
  ·exact .inl (.inl h)
  ·exact .inl (.inr (.inl (.inl h)))
  ·rcases p4 j h with h|h
   ·exact .inl (.inr (.inl (.inr h)))
   exact .inr h
  exact .inl (.inr (.inr h))
 ·intro j hj;simp only [List.mem_cons,List.mem_append] at hj ⊢;rcases hj with h|(h|h)|h
  ·exact .inl h
  ·exact .inr (.inl (.inl h))
  ·exact .inr (.inl (.inr (p5 j h)))
  exact .inr (.inr h)
 ·simp only [List.length_cons,List.length_append] at p6 ⊢;omega
 ·intro j h1 h2 h3;exact p7 j h1 (fun h=>h2 (by simp [h])) h3
 ·intro ho j hj hne q hq hl2;have hoc:OccL b'.view (numberP c.2) ids'':=p8 (fun j2 hj2 hne q hq=>ho j2 (by simp [hj2]) (fun e=>hid' (by rw [<-e];exact hj2)) q hq);rcases List.mem_cons.1 hj with h|hj
  ·exact absurd h hne
  rcases List.mem_append.1 hj with hj|hj
  ·rcases List.mem_append.1 hj with hj|hj
   ·exact ho j (by simp [hj]) hne q (by rw [<-hvo j (.inl hj)];exact hq) hl2
   by_cases e:j=numberP c.2
   ·subst e;rw [p9] at hq;injection hq with hq;subst hq
    have hoy:4<=y.ents.length:=ho (numberP c.2) (by simp [hyids]) (fun e=>hid' (by rw [<-e,hyids];simp)) y hy (by omega);omega
   exact hoc j hj e q hq hl2
  exact ho j (by simp [hj]) hne q (by rw [<-hvo j (.inr hj)];exact hq) hl2
 ·have eL:=wt_frame (V:=b.view) (V':=b'.view) idsL (fun j hj=>hvo j (.inl hj));have eR:=wt_frame (V:=b.view) (V':=b'.view) idsR (fun j hj=>hvo j (.inr hj));rw [hids2,hyids] at p9w;simp only [List.tail_cons] at p9w ⊢;rw [wt_append,wt_append,wt_append,wt_append,eL,eR,hids2,hyids,wt_cons,wt_cons,pw_some p9,pw_some hy];omega
 refine ⟨w1,w2,by simp [w3],kvL++kL,kR++kvR,lo2,hi2,by simp,w5,w6, ?_, ?_, ?_⟩
 ·cases hq:ltB lo2 lo with
  |false=>rfl
  |true=>have h2:=ltB_le_trans hq g8;rw [w7] at h2;cases h2
 ·intro h hh;obtain ⟨h',e1,e2⟩:=g9 h hh;obtain ⟨h'',e3,e4⟩:=w8 h' e1;refine ⟨h'',e3, ?_⟩;cases hq:ltB h h'' with
  |false=>rfl
  |true=>have h2:=ltB_le_trans hq e4;rw [e2] at h2;cases h2
 intro V'' ents' hV hz hl hkv;have hzid:z.id≠id:=fun e=>hnew id (.inr (.inr rfl)) (by rw [<-e];exact w3);have hVo: ∀j,(j∈idsL\/j∈idsR)->V'' j=b.view j:=fun j hj=>by
  rw [hV j (by rcases hj with h|h<;>simp [h]) (fun e=>hnew j (by rcases hj with h|h;exact .inl h;exact .inr (.inl h)) (by rw [e];exact w3)),hvo j hj]
 have hsub:=w9 V'' ents' (fun j hj hne=>hV j (by simp [hj]) hne) hz hl hkv;have hall:=g10 (SubT V'' n) [] ids'' (kL++ents'++kR) (fun id' lo hi fl nx is kv hj hs'=>SubT.frame n (fun j hjm=>hVo j (hj j hjm)) hs'.1) ⟨g4,hsub⟩;refine ⟨idsL++ids''++idsR,rfl,x,by rw [hV id (by simp) (Ne.symm hzid)];exact hvid,hlv,hxn,hlen,⟨v,r,hes⟩, ?_⟩;rw [hes,g1];simpa using hall
end Go.Proofs.YtkknmpkcfpdllaaGreatDoor.B
