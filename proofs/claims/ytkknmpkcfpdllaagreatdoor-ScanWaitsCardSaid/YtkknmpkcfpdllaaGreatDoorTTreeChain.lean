/- What functions of the program compute, each function once: steps over the model, and the plain law of it. -/
import Derived.Test.YtkknmpkcfpdllaaGreatDoorTTreeLaid
namespace Go.Proofs.YtkknmpkcfpdllaaGreatDoor.B
open Go
set_option linter.unusedVariables false
set_option linter.unusedSimpArgs false
set_option linter.unnecessarySimpa false
def Chn (V:Vw):Nat→Int→Int→Ens→Prop
 |0,fl,nx,kv=>fl=nx∧kv= []
 |m+1,fl,nx,kv=> ∃x kv2,V fl=some x∧kv=x.ents++kv2∧Chn V m x.next nx kv2
theorem Chn.append {V:Vw} {md nx:Int} {kv2:Ens} {m2:Nat} (h2:Chn V m2 md nx kv2): ∀(m:Nat) {fl:Int} {kv1:Ens},Chn V m fl md kv1→Chn V (m+m2) fl nx (kv1++kv2)
 |0,fl,kv1,h=>by obtain ⟨rfl,rfl⟩:=h;simpa using h2
 |m+1,fl,kv1,h=>by
  obtain ⟨x,k,h3,rfl,h4⟩:=h;rw [show m+1+m2=(m+m2)+1 by omega];exact ⟨x,k++kv2,h3,by rw [List.append_assoc],Chn.append h2 m h4⟩
theorem Chs.chain {C:CP} {V:Vw}: ∀(es:Ens) {lo hi fl nx ids kv},(∀id lo hi fl nx js kv,C id lo hi fl nx js kv→ ∃m,m≤js.length∧Chn V m fl nx kv)→Chs C es lo hi fl nx ids kv→ ∃m,m≤ids.length∧Chn V m fl nx kv
 | [],_,_,_,_,_,_,_,h=>h.elim
 | [e],_,_,_,_,_,_,hC,h=>hC _ _ _ _ _ _ _ h.2
 |e::e2::r,_,_,_,_,_,_,hC,h=>by
  obtain ⟨h0,h1,h2,md,i1,i2,k1,k2,rfl,rfl,h3,h4⟩:=h;obtain ⟨m1,l1,c1⟩:=hC _ _ _ _ _ _ _ h3;obtain ⟨m2,l2,c2⟩:=Chs.chain (e2::r) hC h4;exact ⟨m1+m2,by rw [List.length_append];omega,Chn.append c2 m1 c1⟩
theorem SubT.chain {V:Vw}: ∀(n:Nat) {id lo hi fl nx ids kv},SubT V n id lo hi fl nx ids kv→ ∃m,m≤ids.length∧Chn V m fl nx kv
 |0,id,_,_,_,_,_,_,h=>by
  obtain ⟨rfl,rfl,x,h3,h4,h5,h6,_⟩:=h;exact ⟨1,by simp,x, [],h3,by rw [h6];simp,by rw [h5];exact ⟨rfl,rfl⟩⟩
 |n+1,id,_,_,_,_,_,_,h=>by
  obtain ⟨js,rfl,x,_,_,_,_,_,h7⟩:=h;obtain ⟨m,l,c⟩:=Chs.chain _ (fun _ _ _ _ _ _ _ hs=>SubT.chain n hs) h7;exact ⟨m,by simp only [List.length_cons];omega,c⟩
theorem Chs.sides {C:CP} {V:Vw} (hK: ∀id lo hi fl nx js kv,C id lo hi fl nx js kv→KvOk lo hi kv) (hC: ∀id lo hi fl nx js kv,C id lo hi fl nx js kv→ ∃m,m≤js.length∧Chn V m fl nx kv) :
  ∀(es:Ens) (e:Bs×Bs) {lo hi fl nx ids kv} {key:Bs},Chs C (e::es) lo hi fl nx ids kv→InR lo hi key→
  ∃pre c post lo' hi' fl' nx' ids' kvL kv' kvR m mi,e::es=pre++c::post∧pre.length=cnt key es∧InR lo' hi' key∧c.2.length=2∧C (numberP c.2) lo' hi' fl' nx' ids' kv'∧kv=kvL++kv'++kvR∧
   (∀e∈kvL,ltB e.1 key=true)∧(∀e∈kvR,ltB key e.1=true)∧Chn V m nx' nx kvR∧m+ids'.length+mi=ids.length
 | [],e,lo,hi,fl,nx,ids,kv,key,h,hk=>⟨[],e, [],lo,hi,fl,nx,ids, [],kv, [],0,0,rfl,rfl,hk,h.1,h.2,by simp,by simp,by simp,⟨rfl,rfl⟩,by omega⟩
 |e2::r,e,lo,hi,fl,nx,ids,kv,key,h,hk=>by
  obtain ⟨h0,h1,h2,md,i1,i2,k1,k2,rfl,rfl,h3,h4⟩:=h;by_cases hlt:ltB key e2.1=true
  ·obtain ⟨m,lm,cm⟩:=Chs.chain (e2::r) hC h4;refine ⟨[],e,e2::r,lo,some e2.1,fl,md,i1, [],k1,k2,m,i2.length - m,rfl,by simp [cnt,hlt],⟨hk.1,hlt⟩,h0,h3,by simp,by simp,fun q hq=> ?_,cm,by rw [List.length_append];omega⟩;exact ltB_le_trans hlt ((Chs.kv hK (e2::r) h4).2 q hq).2.1
  have hge:ltB key e2.1=false:=by simpa using hlt
  obtain ⟨pre,c,post,lo',hi',fl',nx',ids',kvL,kv',kvR,m,mi,g1,g2,g3,g4,g5,rfl,g7,g8,g9,g10⟩:=Chs.sides hK hC r e2 h4 ⟨hge,hk.2⟩;refine ⟨e::pre,c,post,lo',hi',fl',nx',ids',k1++kvL,kv',kvR,m,mi+i1.length,by rw [g1];rfl,by simp [cnt,hlt,g2],g3,g4,g5,by simp,fun q hq=> ?_,g8,g9,by rw [List.length_append];omega⟩;rcases List.mem_append.1 hq with q1|q1
  ·have:=((hK _ _ _ _ _ _ _ h3).2 q q1).2.2;exact ltB_le_trans this hge
  exact g7 q q1
theorem down_sides {b:Bt} {key:Bs} (hi0:IdsOk b.view): ∀(n f:Nat) {id lo hi fl nx ids kv} (l:List Pg) (ks:List Nat),n+1≤f→SubT b.view n id lo hi fl nx ids kv→InR lo hi key→
  ∃l' ks' y kvL kvR m,b.downF key f id l ks= .ok (l++l'++ [y],ks++ks')∧kv=kvL++y.ents++kvR∧Sorted y.ents∧(∀e∈kvL,ltB e.1 key=true)∧(∀e∈kvR,ltB key e.1=true)∧Chn b.view m y.next nx kvR∧m+1≤ids.length
 |0,f,id,lo,hi,fl,nx,ids,kv,l,ks,hf,hs,hk=>by
  obtain ⟨f,rfl⟩: ∃g,f=g+1:=⟨f - 1,by omega⟩;obtain ⟨rfl,rfl,y,hy,h1,h2,h3,h4,h5,h6⟩:=hs;subst h3;exact ⟨[], [],y, [], [],0,by rw [Bt.downF,page_of_view hy];simp only [];rw [if_pos h1];simp,by simp,h5,by simp,by simp,⟨h2,rfl⟩,by simp⟩
 |n+1,f,id,lo,hi,fl,nx,ids,kv,l,ks,hf,hs,hk=>by
  obtain ⟨f,rfl⟩: ∃g,f=g+1:=⟨f - 1,by omega⟩;obtain ⟨js,rfl,x,hx,hlv,hxn,hlen,⟨v,r,hes⟩,hch⟩:=hs;rw [hes] at hch;obtain ⟨pre,c,post,lo',hi',fl',nx',ids',kvL,kv',kvR,m,mi,g1,g2,g3,g4,g5,rfl,g7,g8,g9,g10⟩:=Chs.sides (V:=b.view) (fun _ _ _ _ _ _ _ hs=>SubT.kv n hs) (fun _ _ _ _ _ _ _ hs=>SubT.chain n hs) r ([],v) hch hk;have hcp:childP x key=pre.length:=by rw [childP_cnt hes (Chs.rise _ _ hch),g2]
  have hget:x.ents[pre.length]? =some c:=by rw [hes,g1];simp
  have hlt:pre.length<x.ents.length:=by rw [hes,g1];simp
  have hat:atP x (childP x key:Nat)= .ok (numberP c.2):=by
   have hd:x.ents.getD ((pre.length:Int)).toNat ([], [])=c:=by simp [List.getD,hget]
   rw [atP,hcp,if_neg (by omega),hd,if_neg (by simp [g4])]
  obtain ⟨l',ks',z,kL,kR,m2,hr,rfl,w1,w2,w3,w4,w5⟩:=down_sides hi0 n f (l++ [x]) (ks++ [childP x key]) (by omega) g5 g3;refine ⟨x::l',childP x key::ks',z,kvL++kL,kR++kvR,m2+m, ?_,by simp,w1,fun q hq=> ?_,fun q hq=> ?_,Chn.append g9 m2 w4,by simp only [List.length_cons];omega⟩
  ·rw [Bt.downF,page_of_view hx];simp only [];rw [if_neg (by omega),hat];simp only [];rw [hr];simp
  ·rcases List.mem_append.1 hq with q1|q1
   ·exact g7 q q1
   exact w2 q q1
  rcases List.mem_append.1 hq with q1|q1
  ·exact w3 q q1
  exact g8 q q1
def fromKv (key:Bs) (above:Bool):Ens→Option (Bs×Bs)
 | []=>none
 |e::r=>if ltB e.1 key=true∨(above=true∧e.1=key) then fromKv key above r else some e
theorem fromKv_append (key:Bs) (above:Bool) (R:Ens): ∀l:Ens,fromKv key above (l++R)=match fromKv key above l with
  |some e=>some e
  |none=>fromKv key above R
 | []=>rfl
 |e::r=>by
  rw [List.cons_append,fromKv,fromKv];split
  ·exact fromKv_append key above R r
  rfl
theorem fromKv_left {key:Bs} {above:Bool} {l:Ens}: ∀L:Ens,(∀e∈L,ltB e.1 key=true)→fromKv key above (L++l)=fromKv key above l
 | [],_=>rfl
 |e::r,h=>by rw [List.cons_append,fromKv,if_pos (.inl (h e (by simp))),fromKv_left r (fun q hq=>h q (by simp [hq]))]
theorem fromKv_right {key:Bs} {above:Bool} {R:Ens} (h: ∀e∈R,ltB key e.1=true):fromKv key above R=R[0]? :=by
 cases R with
 |nil=>rfl
 |cons e r=>
  have h1:=h e (by simp);rw [fromKv,if_neg]
  ·rfl
  rintro (q|⟨_,q⟩)
  ·rw [ltB_asymm h1] at q;cases q
  rw [q,ltB_irrefl] at h1;cases h1
def fromK (key:Bs) (above:Bool) (l:Ens):Nat:=if (findP l key).2 && above then (findP l key).1+1 else (findP l key).1
theorem fromKv_at {key:Bs} {above:Bool}: ∀l:Ens,Sorted l→fromKv key above l=l[fromK key above l]?
 | [],_=>by simp [fromKv]
 |e::r,hs=>by
  have hs':=List.pairwise_cons.1 hs;have ih:=fromKv_at (key:=key) (above:=above) r hs'.2;rw [fromKv,fromK,findP];by_cases h1:ltB e.1 key=true
  ·rw [if_pos (.inl h1),if_pos h1,ih,fromK];simp only [];split<;>rfl
  rw [if_neg h1];by_cases h2:e.1=key
  ·cases above with
   |true=>
    rw [if_pos (.inr ⟨rfl,h2⟩),fromKv_right (fun q hq=>by rw [←h2];exact hs'.1 q hq)];simp [h2]
   |false=>
    rw [if_neg (by rintro (q|⟨q,_⟩);exact h1 q;cases q)];simp
  rw [if_neg (by rintro (q|⟨_,q⟩);exact h1 q;exact h2 q)];simp [h2]
theorem fromF_law {b:Bt} (ha:AllOk b) {key:Bs} {above:Bool}: ∀(m f:Nat) {x:Pg} {kvR:Ens},m+1≤f→Chn b.view m x.next (-1) kvR→Sorted x.ents→(∀e∈kvR,ltB key e.1=true)→Sorted kvR→
  b.fromF key above f x= .ok (fromKv key above (x.ents++kvR))
 |m,0,x,kvR,hf,_,_,_,_=>by omega
 |m,f+1,x,kvR,hf,hc,hs,hR,hsR=>by
  have hat:=fromKv_at (key:=key) (above:=above) x.ents hs;rw [fromKv_append,hat,Bt.fromF];have hk:(if ((findP x.ents key).2 && above)=true then (findP x.ents key).1+1 else (findP x.ents key).1)=fromK key above x.ents:=rfl;rw [hk];by_cases hlt:fromK key above x.ents<x.ents.length
  ·rw [if_pos hlt,List.getElem?_eq_getElem hlt];simp [List.getD,List.getElem?_eq_getElem hlt]
  rw [if_neg hlt,List.getElem?_eq_none (by omega)];simp only [];cases m with
  |zero=>
   obtain ⟨h1,rfl⟩:=hc;rw [if_pos h1];rfl
  |succ m=>
   obtain ⟨y,k2,hy,rfl,hc2⟩:=hc;have hp:=page_of_view hy;have hrg:=page_lt ha hp;rw [if_neg (by omega),hp];have hsy:=(List.pairwise_append.1 hsR);exact fromF_law ha m f (by omega) hc2 hsy.1 (fun e he=>hR e (by simp [he])) hsy.2.1
theorem Holds.from_ {b:Bt} {kv:Ens} {key:Bs} (h:Holds b kv) (ha:AllOk b) (hl:kv.length≤700) (above:Bool) (hk:key.length≤32):b.from_ key above= .ok (fromKv key above kv):=by have hso:=h.sorted;obtain ⟨n,u,fl,ids,h⟩:=h;obtain ⟨h1,h2⟩:=tr_small h hl;have hc:=h.c;obtain ⟨l',ks',y,kvL,kvR,m,hd,rfl,w1,w2,w3,w4,w5⟩:=down_sides (key:=key) h.g.i n 17 [] [] (by omega) h.s (InR.all key);have hlast:lastPg ([]++l'++ [y])=y:=lastPg_end _ _;have hsR:Sorted kvR:=(List.pairwise_append.1 hso).2.1;rw [Bt.from_,if_neg (by omega),Bt.down,hd];simp only [hlast];rw [List.append_assoc,fromKv_left _ w2];exact fromF_law ha m 256 (by omega) w4 w1 w3 hsR
end Go.Proofs.YtkknmpkcfpdllaaGreatDoor.B
