/- What functions of the program compute, each function once: steps over the model, and the plain law of it. -/
import Derived.Test.YtkknmpkcfpdllaaGreatDoorTTreeLaid
import Derived.Test.YtkknmpkcfpdllaaGreatDoorTTreeLawA
namespace Go.Proofs.YtkknmpkcfpdllaaGreatDoor.B
open Go
set_option linter.unusedVariables false
set_option linter.unusedSimpArgs false
set_option linter.unnecessarySimpa false
def Chn (V:Vw):Nat→Int→Int→Ens→Prop
 |0,fl,nx,kv=>fl=nx∧kv= []
 |m+1,fl,nx,kv=> ∃x kv2,V fl=some x∧kv=x.ents++kv2∧Chn V m x.next nx kv2
theorem Chn.append {V:Vw} {md nx:Int} {kv2:Ens} {m2:Nat} (h2:Chn V m2 md nx kv2): ∀(m:Nat) {fl:Int} {kv1:Ens},Chn V m fl md kv1→Chn V (m+m2) fl nx (kv1++kv2)
 |0,fl,kv1,h=>by obtain ⟨rfl,rfl⟩:=h;simpa using h2
 |m+1,fl,kv1,h=>by
  obtain ⟨x,k,h3,rfl,h4⟩:=h;rw [show m+1+m2=(m+m2)+1 by omega];exact ⟨x,k++kv2,h3,by rw [List.append_assoc],Chn.append h2 m h4⟩
theorem Chs.chain {C:CP} {V:Vw}: ∀(es:Ens) {lo hi fl nx ids kv},(∀id lo hi fl nx js kv,C id lo hi fl nx js kv→ ∃m,m≤js.length∧Chn V m fl nx kv)→Chs C es lo hi fl nx ids kv→ ∃m,m≤ids.length∧Chn V m fl nx kv
 | [],_,_,_,_,_,_,_,h=>h.elim
 | [e],_,_,_,_,_,_,hC,h=>hC _ _ _ _ _ _ _ h.2
 |e::e2::r,_,_,_,_,_,_,hC,h=>by
  obtain ⟨h0,h1,h2,md,i1,i2,k1,k2,rfl,rfl,h3,h4⟩:=h;obtain ⟨m1,l1,c1⟩:=hC _ _ _ _ _ _ _ h3;obtain ⟨m2,l2,c2⟩:=Chs.chain (e2::r) hC h4;exact ⟨m1+m2,by rw [List.length_append];omega,Chn.append c2 m1 c1⟩
theorem SubT.chain {V:Vw}: ∀(n:Nat) {id lo hi fl nx ids kv},SubT V n id lo hi fl nx ids kv→ ∃m,m≤ids.length∧Chn V m fl nx kv
 |0,id,_,_,_,_,_,_,h=>by
  obtain ⟨rfl,rfl,x,h3,h4,h5,h6,_⟩:=h;exact ⟨1,by simp,x, [],h3,by rw [h6];simp,by rw [h5];exact ⟨rfl,rfl⟩⟩
 |n+1,id,_,_,_,_,_,_,h=>by
  obtain ⟨js,rfl,x,_,_,_,_,_,h7⟩:=h;obtain ⟨m,l,c⟩:=Chs.chain _ (fun _ _ _ _ _ _ _ hs=>SubT.chain n hs) h7;exact ⟨m,by simp only [List.length_cons];omega,c⟩
theorem Chs.sides {C:CP} {V:Vw} (hK: ∀id lo hi fl nx js kv,C id lo hi fl nx js kv→KvOk lo hi kv) (hC: ∀id lo hi fl nx js kv,C id lo hi fl nx js kv→ ∃m,m≤js.length∧Chn V m fl nx kv) :
  ∀(es:Ens) (e:Bs×Bs) {lo hi fl nx ids kv} {key:Bs},Chs C (e::es) lo hi fl nx ids kv→InR lo hi key→
  ∃pre c post lo' hi' fl' nx' ids' kvL kv' kvR m mi,e::es=pre++c::post∧pre.length=cnt key es∧InR lo' hi' key∧c.2.length=2∧C (numberP c.2) lo' hi' fl' nx' ids' kv'∧kv=kvL++kv'++kvR∧
   (∀e∈kvL,ltB e.1 key=true)∧(∀e∈kvR,ltB key e.1=true)∧Chn V m nx' nx kvR∧m+ids'.length+mi=ids.length
 | [],e,lo,hi,fl,nx,ids,kv,key,h,hk=>⟨[],e, [],lo,hi,fl,nx,ids, [],kv, [],0,0,rfl,rfl,hk,h.1,h.2,by simp,by simp,by simp,⟨rfl,rfl⟩,by omega⟩
 |e2::r,e,lo,hi,fl,nx,ids,kv,key,h,hk=>by
  obtain ⟨h0,h1,h2,md,i1,i2,k1,k2,rfl,rfl,h3,h4⟩:=h;by_cases hlt:ltB key e2.1=true
  ·obtain ⟨m,lm,cm⟩:=Chs.chain (e2::r) hC h4;refine ⟨[],e,e2::r,lo,some e2.1,fl,md,i1, [],k1,k2,m,i2.length - m,rfl,by simp [cnt,hlt],⟨hk.1,hlt⟩,h0,h3,by simp,by simp,fun q hq=> ?_,cm,by rw [List.length_append];omega⟩;exact ltB_le_trans hlt ((Chs.kv hK (e2::r) h4).2 q hq).2.1
  have hge:ltB key e2.1=false:=by simpa using hlt
  obtain ⟨pre,c,post,lo',hi',fl',nx',ids',kvL,kv',kvR,m,mi,g1,g2,g3,g4,g5,rfl,g7,g8,g9,g10⟩:=Chs.sides hK hC r e2 h4 ⟨hge,hk.2⟩;refine ⟨e::pre,c,post,lo',hi',fl',nx',ids',k1++kvL,kv',kvR,m,mi+i1.length,by rw [g1];rfl,by simp [cnt,hlt,g2],g3,g4,g5,by simp,fun q hq=> ?_,g8,g9,by rw [List.length_append];omega⟩;rcases List.mem_append.1 hq with q1|q1
  ·have:=((hK _ _ _ _ _ _ _ h3).2 q q1).2.2;exact ltB_le_trans this hge
  exact g7 q q1
theorem down_sides {b:Bt} {key:Bs} (hi0:IdsOk b.view): ∀(n f:Nat) {id lo hi fl nx ids kv} (l:List Pg) (ks:List Nat),n+1≤f→SubT b.view n id lo hi fl nx ids kv→InR lo hi key→
  ∃l' ks' y kvL kvR m,b.downF key f id l ks= .ok (l++l'++ [y],ks++ks')∧kv=kvL++y.ents++kvR∧Sorted y.ents∧(∀e∈kvL,ltB e.1 key=true)∧(∀e∈kvR,ltB key e.1=true)∧Chn b.view m y.next nx kvR∧m+1≤ids.length
 |0,f,id,lo,hi,fl,nx,ids,kv,l,ks,hf,hs,hk=>by
  obtain ⟨f,rfl⟩: ∃g,f=g+1:=⟨f - 1,by omega⟩;obtain ⟨rfl,rfl,y,hy,h1,h2,h3,h4,h5,h6⟩:=hs;subst h3;exact ⟨[], [],y, [], [],0,by rw [Bt.downF,page_of_view hy];simp only [];rw [if_pos h1];simp,by simp,h5,by simp,by simp,⟨h2,rfl⟩,by simp⟩
 |n+1,f,id,lo,hi,fl,nx,ids,kv,l,ks,hf,hs,hk=>by
  obtain ⟨f,rfl⟩: ∃g,f=g+1:=⟨f - 1,by omega⟩;obtain ⟨js,rfl,x,hx,hlv,hxn,hlen,⟨v,r,hes⟩,hch⟩:=hs;rw [hes] at hch;obtain ⟨pre,c,post,lo',hi',fl',nx',ids',kvL,kv',kvR,m,mi,g1,g2,g3,g4,g5,rfl,g7,g8,g9,g10⟩:=Chs.sides (V:=b.view) (fun _ _ _ _ _ _ _ hs=>SubT.kv n hs) (fun _ _ _ _ _ _ _ hs=>SubT.chain n hs) r ([],v) hch hk;have hcp:childP x key=pre.length:=by rw [childP_cnt hes (Chs.rise _ _ hch),g2]
  have hget:x.ents[pre.length]? =some c:=by rw [hes,g1];simp
  have hlt:pre.length<x.ents.length:=by rw [hes,g1];simp
  have hat:atP x (childP x key:Nat)= .ok (numberP c.2):=by
   have hd:x.ents.getD ((pre.length:Int)).toNat ([], [])=c:=by simp [List.getD,hget]
   rw [atP,hcp,if_neg (by omega),hd,if_neg (by simp [g4])]
  obtain ⟨l',ks',z,kL,kR,m2,hr,rfl,w1,w2,w3,w4,w5⟩:=down_sides hi0 n f (l++ [x]) (ks++ [childP x key]) (by omega) g5 g3;refine ⟨x::l',childP x key::ks',z,kvL++kL,kR++kvR,m2+m, ?_,by simp,w1,fun q hq=> ?_,fun q hq=> ?_,Chn.append g9 m2 w4,by simp only [List.length_cons];omega⟩
  ·rw [Bt.downF,page_of_view hx];simp only [];rw [if_neg (by omega),hat];simp only [];rw [hr];simp
  ·rcases List.mem_append.1 hq with q1|q1
   ·exact g7 q q1
   exact w2 q q1
  rcases List.mem_append.1 hq with q1|q1
  ·exact w3 q q1
  exact g8 q q1
def fromKv (key:Bs) (above:Bool):Ens→Option (Bs×Bs)
 | []=>none
 |e::r=>if ltB e.1 key=true∨(above=true∧e.1=key) then fromKv key above r else some e
theorem fromKv_append (key:Bs) (above:Bool) (R:Ens): ∀l:Ens,fromKv key above (l++R)=match fromKv key above l with
  |some e=>some e
  |none=>fromKv key above R
 | []=>rfl
 |e::r=>by
  rw [List.cons_append,fromKv,fromKv];split
  ·exact fromKv_append key above R r
  rfl
theorem fromKv_left {key:Bs} {above:Bool} {l:Ens}: ∀L:Ens,(∀e∈L,ltB e.1 key=true)→fromKv key above (L++l)=fromKv key above l
 | [],_=>rfl
 |e::r,h=>by rw [List.cons_append,fromKv,if_pos (.inl (h e (by simp))),fromKv_left r (fun q hq=>h q (by simp [hq]))]
theorem fromKv_right {key:Bs} {above:Bool} {R:Ens} (h: ∀e∈R,ltB key e.1=true):fromKv key above R=R[0]? :=by
 cases R with
 |nil=>rfl
 |cons e r=>
  have h1:=h e (by simp);rw [fromKv,if_neg]
  ·rfl
  rintro (q|⟨_,q⟩)
  ·rw [ltB_asymm h1] at q;cases q
  rw [q,ltB_irrefl] at h1;cases h1
def fromK (key:Bs) (above:Bool) (l:Ens):Nat:=if (findP l key).2 && above then (findP l key).1+1 else (findP l key).1
theorem fromKv_at {key:Bs} {above:Bool}: ∀l:Ens,Sorted l→fromKv key above l=l[fromK key above l]?
 | [],_=>by simp [fromKv]
 |e::r,hs=>by
  have hs':=List.pairwise_cons.1 hs;have ih:=fromKv_at (key:=key) (above:=above) r hs'.2;rw [fromKv,fromK,findP];by_cases h1:ltB e.1 key=true
  ·rw [if_pos (.inl h1),if_pos h1,ih,fromK];simp only [];split<;>rfl
  rw [if_neg h1];by_cases h2:e.1=key
  ·cases above with
   |true=>
    rw [if_pos (.inr ⟨rfl,h2⟩),fromKv_right (fun q hq=>by rw [←h2];exact hs'.1 q hq)];simp [h2]
   |false=>
    rw [if_neg (by rintro (q|⟨q,_⟩);exact h1 q;cases q)];simp
  rw [if_neg (by rintro (q|⟨_,q⟩);exact h1 q;exact h2 q)];simp [h2]
theorem fromF_law {b:Bt} (ha:AllOk b) {key:Bs} {above:Bool}: ∀(m f:Nat) {x:Pg} {kvR:Ens},m+1≤f→Chn b.view m x.next (-1) kvR→Sorted x.ents→(∀e∈kvR,ltB key e.1=true)→Sorted kvR→
  b.fromF key above f x= .ok (fromKv key above (x.ents++kvR))
 |m,0,x,kvR,hf,_,_,_,_=>by omega
 |m,f+1,x,kvR,hf,hc,hs,hR,hsR=>by
  have hat:=fromKv_at (key:=key) (above:=above) x.ents hs;rw [fromKv_append,hat,Bt.fromF];have hk:(if ((findP x.ents key).2 && above)=true then (findP x.ents key).1+1 else (findP x.ents key).1)=fromK key above x.ents:=rfl;rw [hk];by_cases hlt:fromK key above x.ents<x.ents.length
  ·rw [if_pos hlt,List.getElem?_eq_getElem hlt];simp [List.getD,List.getElem?_eq_getElem hlt]
  rw [if_neg hlt,List.getElem?_eq_none (by omega)];simp only [];cases m with
  |zero=>
   obtain ⟨h1,rfl⟩:=hc;rw [if_pos h1];rfl
  |succ m=>
   obtain ⟨y,k2,hy,rfl,hc2⟩:=hc;have hp:=page_of_view hy;have hrg:=page_lt ha hp;rw [if_neg (by omega),hp];have hsy:=(List.pairwise_append.1 hsR);exact fromF_law ha m f (by omega) hc2 hsy.1 (fun e he=>hR e (by simp [he])) hsy.2.1
theorem Holds.from_ {b:Bt} {kv:Ens} {key:Bs} (h:Holds b kv) (ha:AllOk b) (hl:kv.length≤700) (above:Bool) (hk:key.length≤32):b.from_ key above= .ok (fromKv key above kv):=by have hso:=h.sorted;obtain ⟨n,u,fl,ids,h⟩:=h;obtain ⟨h1,h2⟩:=tr_small h hl;have hc:=h.c;obtain ⟨l',ks',y,kvL,kvR,m,hd,rfl,w1,w2,w3,w4,w5⟩:=down_sides (key:=key) h.g.i n 17 [] [] (by omega) h.s (InR.all key);have hlast:lastPg ([]++l'++ [y])=y:=lastPg_end _ _;have hsR:Sorted kvR:=(List.pairwise_append.1 hso).2.1;rw [Bt.from_,if_neg (by omega),Bt.down,hd];simp only [hlast];rw [List.append_assoc,fromKv_left _ w2];exact fromF_law ha m 256 (by omega) w4 w1 w3 hsR
variable {B:Nat}
def FreeC (V:Vw):Int→List Int→Prop
 |f, []=>f=0
 |f,j::r=>f=j∧1<j∧j<256∧ ∃y,V j=some y∧y.level=0∧y.ents= []∧FreeC V (max y.next 0) r
def upTo (u:Nat):List Int:=(List.range' u (256 - u)).map fun i=>((i:Nat):Int)
theorem upTo_cons {u:Nat} (h:u<256):upTo u=(u:Int)::upTo (u+1):=by unfold upTo;rw [show 256 - u=(256 - (u+1))+1 by omega,List.range'_succ];rfl
theorem upTo_nil {u:Nat} (h:256≤u):upTo u= []:=by unfold upTo;rw [show 256 - u=0 by omega];rfl
theorem mem_upTo {u:Nat} {j:Int}:j∈upTo u↔(u:Int)≤j∧j<256:=by
 unfold upTo;rw [List.mem_map];constructor
 ·rintro ⟨i,hi,rfl⟩;rw [List.mem_range'_1] at hi;omega
 intro h;exact ⟨j.toNat,by rw [List.mem_range'_1];omega,by omega⟩
structure AvU (V:Vw) (u:Nat) (f:Int) (fr:List Int):Prop where
 m: ∃x,V 1=some x∧x.ents= [([110],twoB u++twoB f)]
 c:FreeC V f fr
 u1:1<u
 u2:u≤256
def AvV (B:Nat) (V:Vw) (av:List Int):Prop:= ∃u f fr,AvU V u f fr∧av=fr++upTo u∧(u≤B∨fr= [])
theorem FreeC.frame {V V':Vw}: ∀(fr:List Int) {f:Int},(∀j∈fr,V' j=V j)→FreeC V f fr→FreeC V' f fr
 | [],_,_,h=>h
 |j::r,_,hf,⟨h1,h2,h3,y,h4,h5,h6,h7⟩=>⟨h1,h2,h3,y,by rw [hf j (by simp)];exact h4,h5,h6,FreeC.frame r (fun k hk=>hf k (by simp [hk])) h7⟩
theorem FreeC.rg {V:Vw}: ∀(fr:List Int) {f:Int},FreeC V f fr→(∀j∈fr,1<j∧j<256)∧0≤f∧f<256
 | [],_,h=>⟨by simp,by have:_=(0:Int):=h;omega⟩
 |j::r,_,⟨h1,h2,h3,y,h4,h5,h6,h7⟩=>⟨fun k hk=>by
   rcases List.mem_cons.1 hk with q|q
   ·subst q;exact ⟨h2,h3⟩
   exact (FreeC.rg r h7).1 k q,by omega⟩
theorem AvV.frame {V V':Vw} {av:List Int} (h:AvV B V av) (h1:V' 1=V 1) (hf: ∀j∈av,V' j=V j):AvV B V' av:=by obtain ⟨u,f,fr,⟨m,c,u1,u2⟩,rfl,hB⟩:=h;exact ⟨u,f,fr,⟨by rw [h1];exact m,c.frame fr (fun j hj=>hf j (by simp [hj])),u1,u2⟩,rfl,hB⟩
theorem AvU.pages {b:Bt} {u:Nat} {f:Int} {fr:List Int} (h:AvU b.view u f fr):b.pages= .ok ((u:Int),f):=by
 obtain ⟨x,hx,hxe⟩:=h.m;have hu:=h.u2;have hf:=(FreeC.rg fr h.c).2;rw [Bt.pages,page_of_view hx];simp only [hxe];rw [if_neg (by simp [twoB])];have e1:numberP (([([110],twoB u++twoB f)]:Ens).getD 0 ([], [])).2=(u:Int):=by have:=numberP_twoB (u:=(u:Int)) (by omega) (by omega);simpa [numberP,twoB] using this
 have e2:numberP ((([([110],twoB u++twoB f)]:Ens).getD 0 ([], [])).2.drop 2)=f:=by have:=numberP_twoB (u:=f) (by omega) (by omega);simpa [numberP,twoB] using this
 rw [e1,e2]
theorem count_view {b:Bt} {u:Nat} {f:Int} {fr:List Int} (h:AvU b.view u f fr) (hi:IdsOk b.view) (a c:Int) :
  ∃b' m,b.count a c= .ok b'∧b'.view=b.view.upd 1 m∧m.id=1∧m.ents= [([110],twoB a++twoB c)]:=by
 obtain ⟨x,hx,hxe⟩:=h.m;have hid:=hi 1 x hx;obtain ⟨b',h2,hv⟩:=doR_view (b:=b) (r:={page:=1,kind:=4,val:=twoB a++twoB c}) (x:=x) (.inr ⟨by simp,hx⟩) hid;have he:effP x {page:=1,kind:=4,val:=twoB a++twoB c}={x with ents:= [([110],twoB a++twoB c)]}:=by unfold effP;rw [if_neg (by simp),if_neg (by simp),if_neg (by simp),if_pos rfl,if_pos (by rw [hxe];simp),hxe];rfl
 rw [he] at hv;exact ⟨b',_,h2,hv,hid,rfl⟩
theorem take_av {b:Bt} {p:Int} {av:List Int} (h:AvV B b.view (p::av)) (hi:IdsOk b.view) (hn:(p::av).Nodup) :
  ∃b' m,b.take= .ok (p,b')∧b'.view=b.view.upd 1 m∧m.id=1∧AvV B b'.view av:=by
 obtain ⟨u,f,fr,h,he,hB⟩:=h;have hp:=h.pages;have hu:=h.u2;have hu1:=h.u1;cases fr with
 |nil=>
  have hf:f=0:=h.c;subst hf;have hlt:u<256:=by
   rcases Nat.lt_or_ge u 256 with q|q
   ·exact q
   rw [List.nil_append,upTo_nil q] at he;cases he
  rw [List.nil_append,upTo_cons hlt] at he;injection he with h1 h2
  subst h1;obtain ⟨b',m,hc,hv,m1,m2⟩:=count_view h hi ((u:Int)+1) 0;refine ⟨b',m, ?_,hv,m1,u+1,0, [],⟨⟨m,by rw [hv,upd_same],m2⟩,rfl,by omega,by omega⟩,h2, .inr rfl⟩;rw [Bt.take,hp];simp only [if_true];rw [if_neg (by omega),hc]
 |cons j r=>
  obtain ⟨rfl,c2,c3,y,c4,c5,c6,c7⟩:=h.c;rw [List.cons_append] at he;injection he with h1 h2
  subst h1;subst h2;obtain ⟨b',m,hc,hv,m1,m2⟩:=count_view h hi u (max y.next 0);have hne: ∀k∈r,k≠1:=fun k hk=>by have:=(FreeC.rg r c7).1 k hk;omega
  refine ⟨b',m, ?_,hv,m1,u,_,r,⟨⟨m,by rw [hv,upd_same],m2⟩,c7.frame r (fun k hk=>by rw [hv,upd_other (hne k hk)]),hu1,hu⟩,rfl, .inl (hB.resolve_right (by simp))⟩;rw [Bt.take,hp];simp only [];rw [if_neg (by omega),page_of_view c4];simp only [];rw [hc]
theorem take_full {b:Bt} (h:AvV B b.view []):b.take= .fail 109 none:=by
 obtain ⟨u,f,fr,h,he,hB⟩:=h;have hp:=h.pages;have hu:=h.u2;obtain ⟨rfl,h2⟩:=List.append_eq_nil_iff.1 he.symm;have hf:f=0:=h.c;subst hf;have hge: ¬u<256:=fun q=>by rw [upTo_cons q] at h2;cases h2
 rw [Bt.take,hp];simp only [if_true];rw [if_pos (by omega)]
theorem free_av {b:Bt} {p:Int} {av:List Int} (h:AvV B b.view av) (hi:IdsOk b.view) (hp1:1<p) (hp2:p<256) (hn:p ∉ av) (hBd:256≤B+av.length) :
  ∃b' m,b.free p= .ok b'∧m.id=1∧(∃q,q.id=p∧b'.view=(b.view.upd p q).upd 1 m)∧AvV B b'.view (p::av):=by
 obtain ⟨u,f,fr,h,rfl,hB⟩:=h;have hB2:u≤B:=by
  rcases hB with hB|hB
  ·exact hB
  subst hB;simp [upTo] at hBd;have:=h.u2;omega
 have hpg:=h.pages;have hf:=(FreeC.rg fr h.c).2;have hu1:=h.u1;have hu2:=h.u2;obtain ⟨b1,t1,v1⟩:=doR_view (b:=b) (r:={page:=p,kind:=1}) (x:=newPg p) (.inl ⟨rfl,rfl⟩) rfl;have e1:effP (newPg p) {page:=p,kind:=1}=⟨p,0,0, -1, []⟩:=by unfold effP;rw [if_pos rfl];rfl
 rw [e1] at v1;obtain ⟨b2,t2,v2⟩:=doR_view (b:=b1) (r:={page:=p,kind:=5,slot:=if f=0 then 256 else f}) (x:=⟨p,0,0, -1, []⟩) (.inr ⟨by simp,by rw [v1];exact upd_same _ _ _⟩) rfl;have e2:effP ⟨p,0,0, -1, []⟩ {page:=p,kind:=5,slot:=if f=0 then 256 else f}=⟨p,0,0,if f=0 then -1 else f, []⟩:=by
  unfold effP;rw [if_neg (by simp),if_neg (by simp),if_neg (by simp),if_neg (by simp),if_pos rfl];simp only [];by_cases h0:f=0
  ·rw [if_pos h0,if_pos h0,if_pos (by omega)]
  rw [if_neg h0,if_neg h0,if_neg (by omega)]
 rw [e2] at v2;have v2':b2.view=b.view.upd p ⟨p,0,0,if f=0 then -1 else f, []⟩:=by
  rw [v2,v1];funext j;by_cases hj:j=p
  ·subst hj;simp only [upd_same]
  simp only [upd_other hj]
 have hA:AvU b2.view u f fr:=by obtain ⟨x,hx,hxe⟩:=h.m;refine ⟨⟨x,by rw [v2',upd_other (by omega)];exact hx,hxe⟩,h.c.frame fr (fun k hk=> ?_),hu1,hu2⟩;rw [v2',upd_other];rintro rfl;exact hn (by simp [hk])
 obtain ⟨b3,m,t3,v3,m1,m2⟩:=count_view hA (by rw [v2'];exact hi.upd rfl) u p;refine ⟨b3,m, ?_,m1,⟨_,rfl,by rw [v3,v2']⟩,u,p,p::fr,⟨⟨m,by rw [v3,upd_same],m2⟩,⟨rfl,hp1,hp2,_,by rw [v3,upd_other (by omega),v2',upd_same],rfl,rfl, ?_⟩,hu1,hu2⟩,by simp, .inl hB2⟩
 ·rw [Bt.free,hpg];simp only [];rw [Bt.all,t1];simp only [];rw [Bt.all,t2];simp only [];rw [Bt.count] at t3;rw [Bt.all,t3];rfl
 have e4:max (if f=0 then -1 else f) 0=f:=by split<;>omega
 simp only [];rw [e4];refine h.c.frame fr (fun k hk=> ?_);have h1:k≠p:=by rintro rfl;exact hn (by simp [hk])
 have h2:=(FreeC.rg fr h.c).1 k hk;rw [v3,upd_other (by omega),v2',upd_other h1]
end Go.Proofs.YtkknmpkcfpdllaaGreatDoor.B
