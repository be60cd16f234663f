/- What functions of the program compute, each function once: steps over the model, and the plain law of it. -/
import Derived.Test.YtkknmpkcfpdllaaGreatDoorTTreeLaid
import Derived.Test.YtkknmpkcfpdllaaGreatDoorSIter
import Derived.Test.YtkknmpkcfpdllaaGreatDoorTRow
namespace Go.Proofs.YtkknmpkcfpdllaaGreatDoor.B
open Go
set_option linter.unusedVariables false
set_option linter.unusedSimpArgs false
set_option linter.unnecessarySimpa false
def Chn (V:Vw):Nat->Int->Int->Ens->Prop
 |0,fl,nx,kv=>fl=nx/\kv= []
 |m+1,fl,nx,kv=> ∃x kv2,V fl=some x/\kv=x.ents++kv2/\Chn V m x.next nx kv2
theorem Chn.append {V:Vw} {md nx:Int} {kv2:Ens} {m2:Nat} (h2:Chn V m2 md nx kv2): ∀(m:Nat) {fl:Int} {kv1:Ens},Chn V m fl md kv1->Chn V (m+m2) fl nx (kv1++kv2)
 |0,fl,kv1,h=>by obtain ⟨rfl,rfl⟩:=h;simpa using h2
 |m+1,fl,kv1,h=>by
  obtain ⟨x,k,h3,rfl,h4⟩:=h;rw [show m+1+m2=(m+m2)+1 by omega];exact ⟨x,k++kv2,h3,by rw [List.append_assoc],Chn.append h2 m h4⟩
theorem Chs.chain {C:CP} {V:Vw}: ∀(es:Ens) {lo hi fl nx ids kv},(∀id lo hi fl nx js kv,C id lo hi fl nx js kv-> ∃m,m<=js.length/\Chn V m fl nx kv)->Chs C es lo hi fl nx ids kv-> ∃m,m<=ids.length/\Chn V m fl nx kv
 | [],_,_,_,_,_,_,_,h=>h.elim
 | [e],_,_,_,_,_,_,hC,h=>hC _ _ _ _ _ _ _ h.2
 |e::e2::r,_,_,_,_,_,_,hC,h=>by
  obtain ⟨h0,h1,h2,md,i1,i2,k1,k2,rfl,rfl,h3,h4⟩:=h;obtain ⟨m1,l1,c1⟩:=hC _ _ _ _ _ _ _ h3;obtain ⟨m2,l2,c2⟩:=Chs.chain (e2::r) hC h4;exact ⟨m1+m2,by rw [List.length_append];omega,Chn.append c2 m1 c1⟩
theorem SubT.chain {V:Vw}: ∀(n:Nat) {id lo hi fl nx ids kv},SubT V n id lo hi fl nx ids kv-> ∃m,m<=ids.length/\Chn V m fl nx kv
 |0,id,_,_,_,_,_,_,h=>by
  obtain ⟨rfl,rfl,x,h3,h4,h5,h6,_⟩:=h;exact ⟨1,by simp,x, [],h3,by rw [h6];simp,by rw [h5];exact ⟨rfl,rfl⟩⟩
 |n+1,id,_,_,_,_,_,_,h=>by
  obtain ⟨js,rfl,x,_,_,_,_,_,h7⟩:=h;obtain ⟨m,l,c⟩:=Chs.chain _ (fun _ _ _ _ _ _ _ hs=>SubT.chain n hs) h7;exact ⟨m,by simp only [List.length_cons];omega,c⟩
theorem Chs.sides {C:CP} {V:Vw} (hK: ∀id lo hi fl nx js kv,C id lo hi fl nx js kv->KvOk lo hi kv) (hC: ∀id lo hi fl nx js kv,C id lo hi fl nx js kv-> ∃m,m<=js.length/\Chn V m fl nx kv) :
  ∀(es:Ens) (e:Bs×Bs) {lo hi fl nx ids kv} {key:Bs},Chs C (e::es) lo hi fl nx ids kv->InR lo hi key->
  ∃pre c post lo' hi' fl' nx' ids' kvL kv' kvR m mi,e::es=pre++c::post/\pre.length=cnt key es/\InR lo' hi' key/\c.2.length=2/\C (numberP c.2) lo' hi' fl' nx' ids' kv'/\kv=kvL++kv'++kvR/\
   (∀e∈kvL,ltB e.1 key=true)/\(∀e∈kvR,ltB key e.1=true)/\Chn V m nx' nx kvR/\m+ids'.length+mi=ids.length
 | [],e,lo,hi,fl,nx,ids,kv,key,h,hk=>⟨[],e, [],lo,hi,fl,nx,ids, [],kv, [],0,0,rfl,rfl,hk,h.1,h.2,by simp,by simp,by simp,⟨rfl,rfl⟩,by omega⟩
 |e2::r,e,lo,hi,fl,nx,ids,kv,key,h,hk=>by
  obtain ⟨h0,h1,h2,md,i1,i2,k1,k2,rfl,rfl,h3,h4⟩:=h;by_cases hlt:ltB key e2.1=true
  ·obtain ⟨m,lm,cm⟩:=Chs.chain (e2::r) hC h4;refine ⟨[],e,e2::r,lo,some e2.1,fl,md,i1, [],k1,k2,m,i2.length - m,rfl,by simp [cnt,hlt],⟨hk.1,hlt⟩,h0,h3,by simp,by simp,fun q hq=> ?_,cm,by rw [List.length_append];omega⟩;exact ltB_le_trans hlt ((Chs.kv hK (e2::r) h4).2 q hq).2.1
  have hge:ltB key e2.1=false:=by simpa using hlt
  obtain ⟨pre,c,post,lo',hi',fl',nx',ids',kvL,kv',kvR,m,mi,g1,g2,g3,g4,g5,rfl,g7,g8,g9,g10⟩:=Chs.sides hK hC r e2 h4 ⟨hge,hk.2⟩;refine ⟨e::pre,c,post,lo',hi',fl',nx',ids',k1++kvL,kv',kvR,m,mi+i1.length,by rw [g1];rfl,by simp [cnt,hlt,g2],g3,g4,g5,by simp,fun q hq=> ?_,g8,g9,by rw [List.length_append];omega⟩;rcases List.mem_append.1 hq with q1|q1
  ·have:=((hK _ _ _ _ _ _ _ h3).2 q q1).2.2;exact ltB_le_trans this hge
  exact g7 q q1
theorem down_sides {b:Bt} {key:Bs} (hi0:IdsOk b.view): ∀(n f:Nat) {id lo hi fl nx ids kv} (l:List Pg) (ks:List Nat),n+1<=f->SubT b.view n id lo hi fl nx ids kv->InR lo hi key->
  ∃l' ks' y kvL kvR m,b.downF key f id l ks= .ok (l++l'++ [y],ks++ks')/\kv=kvL++y.ents++kvR/\Sorted y.ents/\(∀e∈kvL,ltB e.1 key=true)/\(∀e∈kvR,ltB key e.1=true)/\Chn b.view m y.next nx kvR/\m+1<=ids.length
 |0,f,id,lo,hi,fl,nx,ids,kv,l,ks,hf,hs,hk=>by
  obtain ⟨f,rfl⟩: ∃g,f=g+1:=⟨f - 1,by omega⟩;obtain ⟨rfl,rfl,y,hy,h1,h2,h3,h4,h5,h6⟩:=hs;subst h3;exact ⟨[], [],y, [], [],0,by rw [Bt.downF,page_of_view hy];simp only [];rw [if_pos h1];simp,by simp,h5,by simp,by simp,⟨h2,rfl⟩,by simp⟩
 |n+1,f,id,lo,hi,fl,nx,ids,kv,l,ks,hf,hs,hk=>by
  obtain ⟨f,rfl⟩: ∃g,f=g+1:=⟨f - 1,by omega⟩;obtain ⟨js,rfl,x,hx,hlv,hxn,hlen,⟨v,r,hes⟩,hch⟩:=hs;rw [hes] at hch;obtain ⟨pre,c,post,lo',hi',fl',nx',ids',kvL,kv',kvR,m,mi,g1,g2,g3,g4,g5,rfl,g7,g8,g9,g10⟩:=Chs.sides (V:=b.view) (fun _ _ _ _ _ _ _ hs=>SubT.kv n hs) (fun _ _ _ _ _ _ _ hs=>SubT.chain n hs) r ([],v) hch hk;have hcp:childP x key=pre.length:=by rw [childP_cnt hes (Chs.rise _ _ hch),g2]
  have hget:x.ents[pre.length]? =some c:=by rw [hes,g1];simp
  have hlt:pre.length<x.ents.length:=by rw [hes,g1];simp
  have hat:atP x (childP x key:Nat)= .ok (numberP c.2):=by
   have hd:x.ents.getD ((pre.length:Int)).toNat ([], [])=c:=by simp [List.getD,hget]
   rw [atP,hcp,if_neg (by omega),hd,if_neg (by simp [g4])]
  obtain ⟨l',ks',z,kL,kR,m2,hr,rfl,w1,w2,w3,w4,w5⟩:=down_sides hi0 n f (l++ [x]) (ks++ [childP x key]) (by omega) g5 g3;refine ⟨x::l',childP x key::ks',z,kvL++kL,kR++kvR,m2+m, ?_,by simp,w1,fun q hq=> ?_,fun q hq=> ?_,Chn.append g9 m2 w4,by simp only [List.length_cons];omega⟩
  ·rw [Bt.downF,page_of_view hx];simp only [];rw [if_neg (by omega),hat];simp only [];rw [hr];simp
  ·rcases List.mem_append.1 hq with q1|q1
   ·exact g7 q q1
   exact w2 q q1
  rcases List.mem_append.1 hq with q1|q1
  ·exact w3 q q1
  exact g8 q q1
def fromKv (key:Bs) (above:Bool):Ens->Option (Bs×Bs)
 | []=>none
 |e::r=>if ltB e.1 key=true\/(above=true/\e.1=key) then fromKv key above r else some e
theorem fromKv_append (key:Bs) (above:Bool) (R:Ens): ∀l:Ens,fromKv key above (l++R)=match fromKv key above l with
  |some e=>some e
  |none=>fromKv key above R
 | []=>rfl
 |e::r=>by
  rw [List.cons_append,fromKv,fromKv];split
  ·exact fromKv_append key above R r
  rfl
theorem fromKv_left {key:Bs} {above:Bool} {l:Ens}: ∀L:Ens,(∀e∈L,ltB e.1 key=true)->fromKv key above (L++l)=fromKv key above l
 | [],_=>rfl
 |e::r,h=>by rw [List.cons_append,fromKv,if_pos (.inl (h e (by simp))),fromKv_left r (fun q hq=>h q (by simp [hq]))]
theorem fromKv_right {key:Bs} {above:Bool} {R:Ens} (h: ∀e∈R,ltB key e.1=true):fromKv key above R=R[0]? :=by
 cases R with
 |nil=>rfl
 |cons e r=>
  have h1:=h e (by simp);rw [fromKv,if_neg]
  ·rfl
  rintro (q|⟨_,q⟩)
  ·rw [ltB_asymm h1] at q;cases q
  rw [q,ltB_irrefl] at h1;cases h1
def fromK (key:Bs) (above:Bool) (l:Ens):Nat:=if (findP l key).2 && above then (findP l key).1+1 else (findP l key).1
theorem fromKv_at {key:Bs} {above:Bool}: ∀l:Ens,Sorted l->fromKv key above l=l[fromK key above l]?
 | [],_=>by simp [fromKv]
 |e::r,hs=>by
  have hs':=List.pairwise_cons.1 hs;have ih:=fromKv_at (key:=key) (above:=above) r hs'.2;rw [fromKv,fromK,findP];by_cases h1:ltB e.1 key=true
  ·rw [if_pos (.inl h1),if_pos h1,ih,fromK];simp only [];split<;>rfl
  rw [if_neg h1];by_cases h2:e.1=key
  ·cases above with
   |true=>
    rw [if_pos (.inr ⟨rfl,h2⟩),fromKv_right (fun q hq=>by rw [<-h2];exact hs'.1 q hq)];simp [h2]
   |false=>
    rw [if_neg (by rintro (q|⟨q,_⟩);exact h1 q;cases q)];simp
  rw [if_neg (by rintro (q|⟨_,q⟩);exact h1 q;exact h2 q)];simp [h2]
theorem fromF_law {b:Bt} (ha:AllOk b) {key:Bs} {above:Bool}: ∀(m f:Nat) {x:Pg} {kvR:Ens},m+1<=f->Chn b.view m x.next (-1) kvR->Sorted x.ents->(∀e∈kvR,ltB key e.1=true)->Sorted kvR->
  b.fromF key above f x= .ok (fromKv key above (x.ents++kvR))
 |m,0,x,kvR,hf,_,_,_,_=>by omega
 |m,f+1,x,kvR,hf,hc,hs,hR,hsR=>by
  have hat:=fromKv_at (key:=key) (above:=above) x.ents hs;rw [fromKv_append,hat,Bt.fromF];have hk:(if ((findP x.ents key).2 && above)=true then (findP x.ents key).1+1 else (findP x.ents key).1)=fromK key above x.ents:=rfl;rw [hk];by_cases hlt:fromK key above x.ents<x.ents.length
  ·rw [if_pos hlt,List.getElem?_eq_getElem hlt];simp [List.getD,List.getElem?_eq_getElem hlt]
  rw [if_neg hlt,List.getElem?_eq_none (by omega)];simp only [];cases m with
  |zero=>
   obtain ⟨h1,rfl⟩:=hc;rw [if_pos h1];rfl
  |succ m=>
   obtain ⟨y,k2,hy,rfl,hc2⟩:=hc;have hp:=page_of_view hy;have hrg:=page_lt ha hp;rw [if_neg (by omega),hp];have hsy:=(List.pairwise_append.1 hsR);exact fromF_law ha m f (by omega) hc2 hsy.1 (fun e he=>hR e (by simp [he])) hsy.2.1
open Go Go.Proofs
theorem Next_ok {w0 w:World} {D:Sto} {ss:List Seg} {sb sp:Seg} {vb vp:Value} {b:Bt} {P:Pl} (I:Inv w0 D (sb::sp::ss) w) {ad:Nat->Addr} (hS:TSents D ad) (hB:BatchS D vb vp b sb) (hP:PoolS D vp P sp) (hpool:b.pool=P.f) {vk:Value} {key:Bs} (hk:RB D vk key) {res:Option (Bs×Bs)} (hok:b.from_ key false= .ok res) :
  Calls Tryz.prog 127 #[vb,vk] w (Ret fun r w'=> ∃D' k v sb' sp',Le D D'/\r= .tuple #[.agg #[k,v], .bool res.isSome, .nilIface]/\RB D' k (res.getD ([], [])).1/\RB D' v (res.getD ([], [])).2/\PoolS D' vp P sp'/\Inv w0 D' (sb'::sp'::ss) w'):=by
 refine (Next_spec I.merge hS (TreeS.join hB hP hpool) hk).mono fun e w' h=> ?_;obtain ⟨r,he,h⟩:=h;refine ⟨r,he, ?_⟩;rcases h with ⟨res',h1,D',k,v,hD,rfl,hk',hv',hT,hI'⟩|⟨c,o,h1,_⟩
 ·rw [hok] at h1;injection h1 with h1;subst h1
  obtain ⟨sb',sp',hs,hB',hP',_⟩:=hT;rw [hs] at hI';exact ⟨D',k,v,sb',sp',hD,rfl,hk',hv',hP',hI'.parted⟩
 rw [hok] at h1;cases h1
theorem Above_ok {w0 w:World} {D:Sto} {ss:List Seg} {sb sp:Seg} {vb vp:Value} {b:Bt} {P:Pl} (I:Inv w0 D (sb::sp::ss) w) {ad:Nat->Addr} (hS:TSents D ad) (hB:BatchS D vb vp b sb) (hP:PoolS D vp P sp) (hpool:b.pool=P.f) {vk:Value} {key:Bs} (hk:RB D vk key) {res:Option (Bs×Bs)} (hok:b.from_ key true= .ok res) :
  Calls Tryz.prog 174 #[vb,vk] w (Ret fun r w'=> ∃D' k v sb' sp',Le D D'/\r= .tuple #[.agg #[k,v], .bool res.isSome, .nilIface]/\RB D' k (res.getD ([], [])).1/\RB D' v (res.getD ([], [])).2/\PoolS D' vp P sp'/\Inv w0 D' (sb'::sp'::ss) w'):=by
 refine (Above_spec I.merge hS (TreeS.join hB hP hpool) hk).mono fun e w' h=> ?_;obtain ⟨r,he,h⟩:=h;refine ⟨r,he, ?_⟩;rcases h with ⟨res',h1,D',k,v,hD,rfl,hk',hv',hT,hI'⟩|⟨c,o,h1,_⟩
 ·rw [hok] at h1;injection h1 with h1;subst h1
  obtain ⟨sb',sp',hs,hB',hP',_⟩:=hT;rw [hs] at hI';exact ⟨D',k,v,sb',sp',hD,rfl,hk',hv',hP',hI'.parted⟩
 rw [hok] at h1;cases h1
def ToldOk (D:Sto) (vt:Value) (told:Bs->Bool):Prop:= ∃f cap,vt= .func (.func f) #[] cap/\enters Tryz.prog f=true/\
 ∀(w0 w:World) (D':Sto) (ss:List Seg) (vk:Value) (key:Bs),Le D D'->Inv w0 D' ss w->RB D' vk key->key.length<=100000->Calls Tryz.prog f (#[]++ #[vk]++cap) w (Ret fun r w'=>(r= .bool true/\told key=true/\Inv w0 D' ss w')\/(r= .bool false/\ ¬told key=true/\Inv w0 D' ss w'))
def YieldOk (l:Nat) (vs:Array Value) (w:World) (R:Ending->World->Prop):Prop:= ∃r,w.heap[l]? =some (.loop r)/\vs.size=r.params.size/\RoundAt Tryz.prog l r vs w R
structure Rounds (w0:World) (D0:Sto) (vp:Value) (P:Pl) (l:Nat) (kv:Ens) (s:Nat) (told:Bs->Bool) (J Jx:Nat->Sto->List Seg->Prop):Prop where
 mono: ∀i D D' ms,Le D D'->J i D ms->J i D' ms
 round: ∀i e D ms sp rest w vk vv,kv[s+i]? =some e->told e.1=true->Le D0 D->J i D ms->PoolS D vp P sp->RB D vk e.1->RB D vv e.2->Inv w0 D (sp::(ms++rest)) w->
  YieldOk l #[.agg #[vk,vv], .nilIface] w fun en w'=> ∃b D' ms' sp',en= .returned (.bool b)/\Le D D'/\(b=true->J (i+1) D' ms')/\(b=false->Jx (i+1) D' ms')/\PoolS D' vp P sp'/\Inv w0 D' (sp'::(ms'++rest)) w'
def Done (kv:Ens) (s:Nat) (told:Bs->Bool) (i:Nat):Prop:=(∀j,j<i-> ∃x,kv[s+j]? =some x/\told x.1=true)/\ ∀x,kv[s+i]? =some x-> ¬told x.1=true
def IterPost (w0:World) (D:Sto) (ss:List Seg) (vp:Value) (P:Pl) (kv:Ens) (s:Nat) (told:Bs->Bool) (J Jx:Nat->Sto->List Seg->Prop) (w':World):Prop:=
 ∃i D' ms' sp',Le D D'/\((J i D' ms'/\Done kv s told i)\/Jx i D' ms')/\PoolS D' vp P sp'/\Inv w0 D' (sp'::(ms'++ss)) w'
def SeqOk (D:Sto) (v vp:Value) (P:Pl) (kv:Ens) (s:Nat) (told:Bs->Bool):Prop:= ∃f cap,v= .func (.func f) #[] cap/\enters Tryz.prog f=true/\
 ∀(w0 w:World) (D':Sto) (ms ss:List Seg) (sp:Seg) (l:Nat) (J Jx:Nat->Sto->List Seg->Prop),Le D D'->Inv w0 D' (sp::(ms++ss)) w->PoolS D' vp P sp->Rounds w0 D' vp P l kv s told J Jx->J 0 D' ms->
  Calls Tryz.prog f (#[.func (.yield l) #[] #[]]++cap) w (Ret fun _ w'=>IterPost w0 D' ss vp P kv s told J Jx w')
theorem Inv.give {w0 w:World} {D:Sto} {ms ss:List Seg} {c sp:Seg} (h:Inv w0 D (c::sp::(ms++ss)) w):Inv w0 D (sp::(ms++(c::ss))) w:=
 h.perm ((List.Perm.trans (List.perm_middle.cons sp) (List.Perm.swap c sp _)).flatten)
theorem Inv.fetch {w0 w:World} {D:Sto} {ms ss:List Seg} {c sp:Seg} (h:Inv w0 D (sp::(ms++(c::ss))) w):Inv w0 D (c::sp::(ms++ss)) w:=
 h.perm ((List.Perm.trans (List.Perm.swap sp c _) (List.perm_middle.symm.cons sp)).flatten)
def curE (kv:Ens) (n:Nat):Bs×Bs:=(kv[n]?).getD ([], [])
theorem findP_at {kv:Ens} (hs:Sorted kv): ∀{j:Nat} {e:Bs×Bs},kv[j]? =some e->findP kv e.1=(j,true):=by
 induction kv with
 |nil=>intro j e h;simp at h
 |cons x r ih=>
  intro j e h;have hs':=List.pairwise_cons.1 hs;rw [findP];cases j with
  |zero=>
   obtain rfl:x=e:=by simpa using h
   rw [ltB_irrefl];simp
  |succ j=>
   have h2:r[j]? =some e:=by simpa using h
   have hlt:=hs'.1 e (List.mem_of_getElem? h2);rw [if_pos hlt,ih hs'.2 h2]
theorem from_next {kv:Ens} (hs:Sorted kv) {j:Nat} {e:Bs×Bs} (h:kv[j]? =some e):fromKv e.1 true kv=kv[j+1]? :=by rw [fromKv_at kv hs,fromK,findP_at hs h];rfl
structure PoolOk (P:Pl) (kv:Ens):Prop where
 sorted:Sorted kv
 from9: ∀key above,key.length<=32->(newBt P).from_ key above= .ok (fromKv key above kv)
 len:kv.length<=2040
 keys: ∀e∈kv,e.1.length<=32
 vals: ∀e∈kv,e.2.length<=64
theorem PoolOk.next {P:Pl} {kv:Ens} (h:PoolOk P kv) {key:Bs} (hk:key.length<=32):(newBt P).from_ key false= .ok (kv[fromK key false kv]?):=by rw [h.from9 _ false hk,fromKv_at kv h.sorted]
theorem PoolOk.above {P:Pl} {kv:Ens} (h:PoolOk P kv) {j:Nat} {e:Bs×Bs} (he:kv[j]? =some e):(newBt P).from_ e.1 true= .ok (kv[j+1]?):=by rw [h.from9 _ true (h.keys e (List.mem_of_getElem? he)),from_next h.sorted he]
section
variable {α:Type} {size:Nat} {R:Sto->List Value->α->Prop} {P:Program} {ops:Array Oper} {Q:Exit->Act->World->Prop} {a:Act} {w0 w w':World} {D:Sto} {ss:List Seg} {rest:List Oper} {o:Oper} {N:Nat} {env:Env} {K:Act->World->Prop}
theorem At.cells {cs:Array Value} {off:Nat} {xs:List α} (h:At size R D cs off xs) (h1: ∀vs x,R D vs x-> ∀u∈vs,u.oneCell'=true) (hz:0<size) :
    ∃news:List Value,news.length=xs.length*size/\(∀j,j<xs.length*size->news[j]? =cs[off+j]?)/\ ∀u∈news,u.oneCell'=true:=by
  have hone: ∀p,p<xs.length*size-> ∃u,cs[off+p]? =some u/\u.oneCell'=true:=fun p hp=>by
    have hq:p / size<xs.length:=Nat.div_lt_of_lt_mul (by rw [Nat.mul_comm];exact hp);obtain ⟨vs,hl,hr,hc⟩:=h (p / size) xs[p / size] (List.getElem?_eq_getElem hq);have hm:p % size<vs.length:=by rw [hl];exact Nat.mod_lt _ hz
    have h2:=hc (p % size) vs[p % size] (List.getElem?_eq_getElem hm);have h3:p / size*size+p % size=p:=by rw [Nat.mul_comm];exact Nat.div_add_mod p size
    exact ⟨_,by rw [Nat.add_assoc,h3] at h2;exact h2,h1 _ _ hr _ (List.getElem_mem hm)⟩
  have hget: ∀j,j<xs.length*size->((cs.toList.drop off).take (xs.length*size))[j]? =cs[off+j]? :=fun j hj=>by
    rw [List.getElem?_take_of_lt hj,List.getElem?_drop,Array.getElem?_toList]
  have hlen:((cs.toList.drop off).take (xs.length*size)).length=xs.length*size:=by
    rcases Nat.eq_zero_or_pos (xs.length*size) with h0|h0
    ·rw [h0];simp
    ·obtain ⟨u,hu,_⟩:=hone (xs.length*size - 1) (by omega);have h1:=(Array.getElem?_eq_some_iff.1 hu).1;have h2:cs.toList.length=cs.size:=Array.length_toList;simp;omega
  refine ⟨_,hlen,hget,fun u hu=> ?_⟩;obtain ⟨j,hj,rfl⟩:=List.getElem_of_mem hu;have h1:((cs.toList.drop off).take (xs.length*size))[j]? =some _:=List.getElem?_eq_getElem hj;rw [hget j (by omega)] at h1;obtain ⟨u,hu,h2⟩:=hone j (by omega);rw [hu] at h1;injection h1 with h1
  rw [<-h1];exact h2
theorem At.append {cs:Array Value} {off:Nat} {xs ys':List α} {ys news:List Value} (hx: ∀cs:List Value,At size R D (ys++cs).toArray 0 xs) (hl:ys.length=xs.length*size)
    (hy:At size R D cs off ys') (hn: ∀j,j<ys'.length*size->news[j]? =cs[off+j]?) (hnl:news.length=ys'.length*size) (tail:List Value):At size R D ((ys++news)++tail).toArray 0 (xs++ys'):=fun i x hix=>by
  by_cases hi:i<xs.length
  ·rw [List.getElem?_append_left hi] at hix;have h2:=hx (news++tail) i x hix;rw [<-List.append_assoc] at h2;exact h2
  ·rw [List.getElem?_append_right (by omega)] at hix;obtain ⟨vs,h1,h2,h3⟩:=hy _ x hix;refine ⟨vs,h1,h2,fun j u hj=> ?_⟩;have hj':=(List.getElem?_eq_some_iff.1 hj).1;have hi':=(List.getElem?_eq_some_iff.1 hix).1;have hm:=mul_le_of_lt (size:=size) hi';have hs:(i - xs.length)*size=i*size - xs.length*size:=Nat.sub_mul _ _ _;have hle:xs.length*size<=i*size:=Nat.mul_le_mul_right _ (by omega);have h4:=h3 j u hj;rw [Nat.add_assoc,<-hn _ (by omega)] at h4;show ((ys++news)++tail).toArray[0+i*size+j]? =some u;rw [List.getElem?_toArray,List.append_assoc,List.getElem?_append_right (by omega),List.getElem?_append_left (by omega)];rw [<-h4];congr 1;omega
theorem o_appendDR {x y:Operand} {t e bytes d:Nat} {z v vy:Value} {xs ys:List α} {s:Seg} (i:Nat) (Z:EnvOk N env a) (I:Inv w0 D ss w) (hd:o.dst=some d) (hN:Nat.blt d N=true)
    (ho:o.op= .call {callee:= .builtin .append,args:= #[x,y],argTypes:= #[t,t]}) (hx:ev env x=some v) (hy:ev env y=some vy) (ht:P.underlying t=some (.slice e))
    (hinfo:(P.info? e).map (fun i=>(i.zero,i.size,i.bytes))=some (some z,size,bytes)) (hz:z.cells.size=size) (hsz:Nat.blt 0 size=true) (hi:ss[i]? =some s) (hO:OR size R D e v xs s) (hY:DR size R D vy ys)
    (h1: ∀vs x,R D vs x-> ∀u∈vs,u.oneCell'=true) (hb:(xs.length+ys.length)*bytes<=140737488355328) (hm:xs.length+ys.length<=9223372036854775807)
    (k: ∀v' s' w',OR size R D e v' (xs++ys) s'->Inv w0 D (ss.set i s') w'-> ∀a',EnvOk N ((d,v')::env) a'->K a' w'):o.wp P a w K Q:=by
  obtain ⟨zs,hrow,hat⟩:=hO.row;have hsz':=Nat.le_of_ble_eq_true hsz;obtain ⟨A,c,rfl,hc1,hc2,hc3⟩:=hY;cases A with
  |none=>
    have h0:=hc2 rfl;have hys:ys= []:=List.length_eq_zero_iff.1 (by omega);subst hys;subst h0;refine o_appendNil Z I hd hN ho hx hy ht (by obtain ⟨inf,hi0,hzz⟩:=Option.map_eq_some_iff.1 hinfo;simp only [Prod.mk.injEq] at hzz;rw [hi0,Option.map_some,hzz.2.1]) hrow (I.segs i hi) ?_;intro a' hE';have hset:ss.set i s=ss:=List.ext_getElem? fun j=>by
      rw [List.getElem?_set];split
      ·rename_i h;subst h;have:=(List.getElem?_eq_some_iff.1 hi).1;rw [if_pos this,hi]
      ·rfl
    exact k v s w (by rw [List.append_nil];exact hO) (by rw [hset];exact I) a' hE'
  |some ad=>
    have key: ∃news:List Value,news.length=ys.length*size/\(∀j u,news[j]? =some u->w.cell? (ad.add j)=some u)/\(∀u∈news,u.oneCell'=true)/\ ∀tail:List Value,At size R D ((zs++news)++tail).toArray 0 (xs++ys):=by
      by_cases hys:ys= []
      ·subst hys;exact ⟨[],by simp,by simp,by simp,fun tail=>by simpa using hat tail⟩
      ·obtain ⟨b,off,cs,T,fr,h2,h3,h4⟩:=hc3 hys;injection h2 with h2;subst h2
       obtain ⟨news,hn1,hn2,hn3⟩:=h4.cells h1 hsz';refine ⟨news,hn1,fun j u hj=> ?_,hn3,fun tail=>At.append hat hrow.len h4 hn2 hn1 tail⟩;have hj':=(List.getElem?_eq_some_iff.1 hj).1;rw [hn2 j (by omega)] at hj;have h5:=I.data _ _ h3;show w.cell? ((⟨b,off,none⟩:Addr).add j)=some u;rw [addr_add,cell_of h5];exact hj
    obtain ⟨news,hn1,hn2,hn3,hn4⟩:=key;refine o_append (n:=xs.length) (news:=news) i Z I hd hN ho hx hy ht hinfo hz hsz hi hrow hn1 hn2 hn3 hb hm ?_;intro v' s' w' hR' hI' a' hE';exact k v' s' w' (OR.ofRow hR' (by simp) hn4) hI' a' hE'
theorem Inv.shutOR {T:Nat} {v:Value} {xs:List α} {s:Seg} (i:Nat) (I:Inv w0 D ss w) (hi:ss[i]? =some s) (hR:Keeps R) (hO:OR size R D T v xs s): ∃D',Le D D'/\Inv w0 D' (ss.eraseIdx i) w/\DR size R D' v xs:=
  ⟨_,(I.shut_at i hi).2,(I.shut_at i hi).1,hO.shut hR (I.shut_at i hi).2⟩
end
theorem findP_ge {k:Bs}: ∀(l:Ens) {e:Bs×Bs},l[(findP l k).1]? =some e->ltB e.1 k=false
 | [],e,h=>by simp [findP] at h
 |x::r,e,h=>by
  rw [findP] at h;by_cases hx:ltB x.1 k=true
  ·rw [if_pos hx] at h;exact findP_ge r (by simpa using h)
  rw [if_neg hx] at h;obtain rfl:x=e:=by simpa using h
  simpa using hx
theorem findP_all {k:Bs}: ∀(l:Ens),∀e∈l.take (findP l k).1,ltB e.1 k=true
 | [],e,h=>by simp [findP] at h
 |x::r,e,h=>by
  rw [findP] at h;by_cases hx:ltB x.1 k=true
  ·rw [if_pos hx] at h;simp only [List.take_succ_cons,List.mem_cons] at h;rcases h with rfl|h
   ·exact hx
   exact findP_all r e h
  rw [if_neg hx] at h;simp at h
theorem fromK_false (k:Bs) (l:Ens):fromK k false l=(findP l k).1:=by simp [fromK]
theorem all_len: ∀(rs:List Rc) {b b':Bt},b.all rs= .ok b'->b'.recs.length=b.recs.length+rs.length/\b'.pool=b.pool
 | [],b,b',h=>by rw [Bt.all] at h;injection h with h;subst h;exact ⟨rfl,rfl⟩
 |r::rs,b,b',h=>by
  rw [Bt.all] at h;split at h
  ·cases h
  rename_i b1 hb;have:=all_len rs h;rw [Bt.doR] at hb;split at hb
  ·cases hb
  injection hb with hb;subst hb
  simp only [List.length_append,List.length_cons,List.length_nil] at this ⊢;exact ⟨by omega,this.2⟩
theorem Runs.len {b b':Bt} {k:Nat} (h:Runs b b' k):b'.recs.length<=b.recs.length+k/\b'.pool=b.pool:=by obtain ⟨rs,h1,_,h3⟩:=h;have:=all_len rs h3;exact ⟨by omega,this.2⟩
theorem EnR.one {D:Sto} {vs:List Value} {x:Bs×Bs} (h:EnR D vs x): ∀u∈vs,u.oneCell'=true:=by
 obtain ⟨k,v,rfl,hk,hv,_⟩:=h;intro u hu;simp only [List.mem_cons,List.not_mem_nil,or_false] at hu;rcases hu with rfl|rfl
 ·exact hk.one
 exact hv.one
structure Ck where
 seen:List Int
 leaves:List Pg
 keys:Int
section
variable {b:Bt} {f:Nat} {id level:Int} {low:Bs} {high:Option Bs} {c:Ck} {x:Pg}
end
set_option maxRecDepth 20000
set_option maxHeartbeats 8000000
theorem strOf_fold: ∀(l:List Int) (b:ByteArray),(l.foldl (fun r n=>r.push (UInt8.ofNat n.toNat)) b).data.toList=b.data.toList++l.map (fun n=>UInt8.ofNat n.toNat)
 | [],b=>by simp
 |n::r,b=>by
  rw [List.foldl_cons,strOf_fold r];simp
theorem strOf_list (bs:List Nat):(strOf bs).data.toList=bs.map UInt8.ofNat:=by rw [strOf,strOf_fold];simp [Function.comp_def]
theorem ofNat_inj {x y:Nat} (hx:x<256) (hy:y<256) (h:UInt8.ofNat x=UInt8.ofNat y):x=y:=by have:=congrArg UInt8.toNat h;simp only [UInt8.toNat_ofNat'] at this;omega
theorem map_inj: ∀{xs ys:List Nat},(∀x∈xs,x<256)->(∀y∈ys,y<256)->xs.map UInt8.ofNat=ys.map UInt8.ofNat->xs=ys
 | [], [],_,_,_=>rfl
 | [],_::_,_,_,h=>by simp at h
 |_::_, [],_,_,h=>by simp at h
 |x::xs,y::ys,hx,hy,h=>by
  simp only [List.map_cons,List.cons.injEq] at h;rw [ofNat_inj (hx x (by simp)) (hy y (by simp)) h.1,map_inj (fun q hq=>hx q (by simp [hq])) (fun q hq=>hy q (by simp [hq])) h.2]
theorem strOf_eq {xs ys:List Nat} (hx: ∀x∈xs,x<256) (hy: ∀y∈ys,y<256):((strOf xs).toList==(strOf ys).toList)=decide (xs=ys):=by
 rw [ByteArray.toList_eq,ByteArray.toList_eq,strOf_list,strOf_list];by_cases h:xs=ys
 ·subst h;simp
 rw [decide_eq_false h];exact beq_eq_false_iff_ne.2 fun h2=>h (map_inj hx hy h2)
theorem lit_data {w0 w:World} {D:Sto} {ss:List Seg} {b T:Nat} {fr:Nat×Nat} (bs:List Nat) (i:Nat) (I:Inv w0 D ss w) (hi:ss[i]? =some [(b, .cells (bytesV bs).toArray T fr)]) (hb: ∀x∈bs,x<256) :
  ∃D',Le D D'/\Inv w0 D' (ss.eraseIdx i) w/\RB D' (.slice (some ⟨b,0,none⟩) bs.length bs.length) bs:=by
 obtain ⟨h1,h2⟩:=I.shut_at i hi;exact ⟨_,h2,h1,RB.lit hb⟩
end Go.Proofs.YtkknmpkcfpdllaaGreatDoor.B
