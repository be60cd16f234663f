/- What functions of the program compute, each function once: steps over the model, and the plain law of it. -/
import Derived.Test.YtkknmpkcfpdllaaDoorTTreeLaid
import Derived.Test.YtkknmpkcfpdllaaDoorTDDel3
namespace Go.Proofs.YtkknmpkcfpdllaaDoor.B
open Go
set_option linter.unusedVariables false
set_option linter.unusedSimpArgs false
set_option linter.unnecessarySimpa false
def Chn (V:Vw):Nat→Int→Int→Ens→Prop
 |0,fl,nx,kv=>fl=nx∧kv= []
 |m+1,fl,nx,kv=> ∃x kv2,V fl=some x∧kv=x.ents++kv2∧Chn V m x.next nx kv2
theorem Chn.append {V:Vw} {md nx:Int} {kv2:Ens} {m2:Nat} (h2:Chn V m2 md nx kv2): ∀(m:Nat) {fl:Int} {kv1:Ens},Chn V m fl md kv1→Chn V (m+m2) fl nx (kv1++kv2)
 |0,fl,kv1,h=>by obtain ⟨rfl,rfl⟩:=h;simpa using h2
 |m+1,fl,kv1,h=>by
  obtain ⟨x,k,h3,rfl,h4⟩:=h;rw [show m+1+m2=(m+m2)+1 by omega];exact ⟨x,k++kv2,h3,by rw [List.append_assoc],Chn.append h2 m h4⟩
theorem Chs.chain {C:CP} {V:Vw}: ∀(es:Ens) {lo hi fl nx ids kv},(∀id lo hi fl nx js kv,C id lo hi fl nx js kv→ ∃m,m≤js.length∧Chn V m fl nx kv)→Chs C es lo hi fl nx ids kv→ ∃m,m≤ids.length∧Chn V m fl nx kv
 | [],_,_,_,_,_,_,_,h=>h.elim
 | [e],_,_,_,_,_,_,hC,h=>hC _ _ _ _ _ _ _ h.2
 |e::e2::r,_,_,_,_,_,_,hC,h=>by
  obtain ⟨h0,h1,h2,md,i1,i2,k1,k2,rfl,rfl,h3,h4⟩:=h;obtain ⟨m1,l1,c1⟩:=hC _ _ _ _ _ _ _ h3;obtain ⟨m2,l2,c2⟩:=Chs.chain (e2::r) hC h4;exact ⟨m1+m2,by rw [List.length_append];omega,Chn.append c2 m1 c1⟩
theorem SubT.chain {V:Vw}: ∀(n:Nat) {id lo hi fl nx ids kv},SubT V n id lo hi fl nx ids kv→ ∃m,m≤ids.length∧Chn V m fl nx kv
 |0,id,_,_,_,_,_,_,h=>by
  obtain ⟨rfl,rfl,x,h3,h4,h5,h6,_⟩:=h;exact ⟨1,by simp,x, [],h3,by rw [h6];simp,by rw [h5];exact ⟨rfl,rfl⟩⟩
 |n+1,id,_,_,_,_,_,_,h=>by
  obtain ⟨js,rfl,x,_,_,_,_,_,h7⟩:=h;obtain ⟨m,l,c⟩:=Chs.chain _ (fun _ _ _ _ _ _ _ hs=>SubT.chain n hs) h7;exact ⟨m,by simp only [List.length_cons];omega,c⟩
theorem Chs.sides {C:CP} {V:Vw} (hK: ∀id lo hi fl nx js kv,C id lo hi fl nx js kv→KvOk lo hi kv) (hC: ∀id lo hi fl nx js kv,C id lo hi fl nx js kv→ ∃m,m≤js.length∧Chn V m fl nx kv) :
  ∀(es:Ens) (e:Bs×Bs) {lo hi fl nx ids kv} {key:Bs},Chs C (e::es) lo hi fl nx ids kv→InR lo hi key→
  ∃pre c post lo' hi' fl' nx' ids' kvL kv' kvR m mi,e::es=pre++c::post∧pre.length=cnt key es∧InR lo' hi' key∧c.2.length=2∧C (numberP c.2) lo' hi' fl' nx' ids' kv'∧kv=kvL++kv'++kvR∧
   (∀e∈kvL,ltB e.1 key=true)∧(∀e∈kvR,ltB key e.1=true)∧Chn V m nx' nx kvR∧m+ids'.length+mi=ids.length
 | [],e,lo,hi,fl,nx,ids,kv,key,h,hk=>⟨[],e, [],lo,hi,fl,nx,ids, [],kv, [],0,0,rfl,rfl,hk,h.1,h.2,by simp,by simp,by simp,⟨rfl,rfl⟩,by omega⟩
 |e2::r,e,lo,hi,fl,nx,ids,kv,key,h,hk=>by
  obtain ⟨h0,h1,h2,md,i1,i2,k1,k2,rfl,rfl,h3,h4⟩:=h;by_cases hlt:ltB key e2.1=true
  ·obtain ⟨m,lm,cm⟩:=Chs.chain (e2::r) hC h4;refine ⟨[],e,e2::r,lo,some e2.1,fl,md,i1, [],k1,k2,m,i2.length - m,rfl,by simp [cnt,hlt],⟨hk.1,hlt⟩,h0,h3,by simp,by simp,fun q hq=> ?_,cm,by rw [List.length_append];omega⟩;exact ltB_le_trans hlt ((Chs.kv hK (e2::r) h4).2 q hq).2.1
  have hge:ltB key e2.1=false:=by simpa using hlt
  obtain ⟨pre,c,post,lo',hi',fl',nx',ids',kvL,kv',kvR,m,mi,g1,g2,g3,g4,g5,rfl,g7,g8,g9,g10⟩:=Chs.sides hK hC r e2 h4 ⟨hge,hk.2⟩;refine ⟨e::pre,c,post,lo',hi',fl',nx',ids',k1++kvL,kv',kvR,m,mi+i1.length,by rw [g1];rfl,by simp [cnt,hlt,g2],g3,g4,g5,by simp,fun q hq=> ?_,g8,g9,by rw [List.length_append];omega⟩;rcases List.mem_append.1 hq with q1|q1
  ·have:=((hK _ _ _ _ _ _ _ h3).2 q q1).2.2;exact ltB_le_trans this hge
  exact g7 q q1
theorem FreeC.frameL {V V':Vw}: ∀(fr:List Int) {f:Int},(∀j∈fr,(V' j).map noL=(V j).map noL)→FreeC V f fr→FreeC V' f fr
 | [],_,_,h=>h
 |j::r,_,hf,⟨h1,h2,h3,y,h4,h5,h6,h7⟩=>by
  obtain ⟨z,hz,e⟩:=map_noL (hf j (by simp)) h4;obtain ⟨_,e1,e2,e3⟩:=noL_eq e;exact ⟨h1,h2,h3,z,hz,by rw [e1];exact h5,by rw [e3];exact h6,by rw [e2];exact FreeC.frameL r (fun k hk=>hf k (by simp [hk])) h7⟩
theorem pw_noL {V V':Vw} {j:Int} (h:(V' j).map noL=(V j).map noL):pw V' j=pw V j:=by
 cases hv:V j with
 |none=>
  rw [hv] at h;have:V' j=none:=by simpa using h
  rw [pw,pw,hv,this]
 |some x=>
  obtain ⟨z,hz,e⟩:=map_noL h hv;rw [pw_some hv,pw_some hz,(noL_eq e).2.2.2]
theorem HoldsA.laid {b b':Bt} {K:Nat} {kv:Ens} (h:HoldsA b K kv) (hi:IdsOk b'.view) (hv: ∀id,0≤id→id<256→(b'.view id).map noL=(b.view id).map noL):HoldsA b' K kv:=by
 obtain ⟨n,av,fl,ids,h⟩:=h;have hids: ∀j∈ids,(b'.view j).map noL=(b.view j).map noL:=fun j hj=>by have:=h.g.rgi hj;exact hv j this.1 this.2.1
 have hback: ∀j∈ids,∀x,b'.view j=some x→ ∃y,b.view j=some y∧y.ents=x.ents∧y.level=x.level:=fun j hj x hx=>by
  obtain ⟨y,hy,e⟩:=map_noL (hids j hj).symm hx;exact ⟨y,hy,(noL_eq e).2.2.2,(noL_eq e).2.1⟩
 have h0:(0:Int)∈ids:=by obtain ⟨x,js,_,_,_,e⟩:=h.id0;rw [e];simp
 refine ⟨n,av,fl,ids,⟨⟨?_,hi,h.g.nd,h.g.rg,h.g.a1⟩,SubT.frameL n hids h.s, ?_,h.c, ?_, ?_⟩⟩
 ·obtain ⟨u,f,fr,⟨⟨x,hx,he⟩,c,u1,u2⟩,hav⟩:=h.g.m;obtain ⟨y,hy,e⟩:=map_noL (hv 1 (by omega) (by omega)) hx;exact ⟨u,f,fr,⟨⟨y,hy,by rw [(noL_eq e).2.2.2];exact he⟩,c.frameL fr (fun j hj=>by have:=(FreeC.rg fr c).1 j hj;exact hv j (by omega) this.2),u1,u2⟩,hav⟩
 ·intro j hj hne x hx hl2;obtain ⟨y,hy,e,e2⟩:=hback j hj x hx;rw [←e];exact h.o j hj hne y hy (by omega)
 ·intro x hx hn;obtain ⟨y,hy,e,_⟩:=hback 0 h0 x hx;rw [←e];exact h.r y hy hn
 intro x hx;obtain ⟨y,hy,e,_⟩:=hback 0 h0 x hx;have h1:=h.w y hy;have h2:wt b'.view ids.tail=wt b.view ids.tail:=by
  have: ∀l:List Int,(∀j∈l,j∈ids)→wt b'.view l=wt b.view l:=by
   intro l;induction l with
   |nil=>intro _;rfl
   |cons j l ih=>intro hl;rw [wt_cons,wt_cons,ih (fun k hk=>hl k (by simp [hk])),pw_noL (hids j (hl j (by simp)))]
  exact this _ (fun j hj=>List.mem_of_mem_tail hj)
 rw [h2,←e];exact h1
def PHoldsA (P:Pl) (n:Int) (K:Nat) (kv:Ens):Prop:=PlOk P n∧HoldsA (newBt P) K kv
theorem laid_holdsA {P:Pl} {n:Int} {b:Bt} {K:Nat} {kv:Ens} {k:Nat} (hP:PlOk P n) (h1:1≤n) (hr:Runs (newBt P) b k) (hk:n+k≤1099511627777) (hb:HoldsA b K kv) :
  b.recs.length≤k∧ ∃P',laidP P b.recs n=some (P',n+b.recs.length)∧PHoldsA P' (n+b.recs.length) K kv:=by
 obtain ⟨rs,r1,r2,r3⟩:=hr;have e0:(newBt P).recs.length=0:=rfl;obtain ⟨⟨P',l1,l2,l3⟩,e1⟩:=LInv.all h1 rs (LInv.new hP) (AllOk.new hP) (by rw [e0];omega) r2 r3;refine ⟨by omega,P',l1,l2,hb.laid (IdsOk.new l2) (fun id i1 i2=> ?_)⟩;rw [newBt_view i1 i2];exact l3 id i1 i2
theorem upTo_nodup (u:Nat):(upTo u).Nodup:=by unfold upTo;refine List.Pairwise.map _ (fun a b h=> ?_) (List.nodup_range' (step:=1) (by omega));simp only [ne_eq] at h ⊢;omega
theorem upTo_len (u:Nat):(upTo u).length=256 - u:=by simp [upTo]
theorem E0_holdsA:PHoldsA E0 4 0 []:=by
 refine ⟨E0_ok,0,upTo 2,0, [0],⟨⟨?_,IdsOk.new E0_ok, ?_, ?_, ?_⟩, ?_, ?_,by rw [upTo_len];rfl, ?_, ?_⟩⟩
 ·obtain ⟨x,h1,h2⟩:=E0_1;exact ⟨2,0, [],⟨⟨x,by rw [newBt_view (by omega) (by omega)];exact h1,h2⟩,rfl,by omega,by omega⟩,rfl⟩
 ·refine List.nodup_cons.2 ⟨?_,upTo_nodup 2⟩;show (0:Int) ∉ upTo 2;rw [mem_upTo];omega
 ·intro j hj;rcases List.mem_cons.1 hj with e|e
  ·omega
  have:j∈upTo 2:=e;rw [mem_upTo] at this;omega
 ·intro j hj;rw [mem_upTo] at hj;omega
 ·obtain ⟨x,h1,h2,h3,h4⟩:=E0_0;exact ⟨rfl,rfl,x,by rw [newBt_view (by omega) (by omega)];exact h1,h2,h3,h4,by simp,by simp [Sorted],by simp⟩
 ·intro j hj hne;simp at hj;exact absurd hj hne
 ·intro x _ h;omega
 intro x hx;obtain ⟨y,h1,_,_,h4⟩:=E0_0;rw [newBt_view (by omega) (by omega),h1] at hx;injection hx with hx;subst hx
 simp [h4,wt]
open Go Go.Proofs
structure Ck where
 seen:List Int
 leaves:List Pg
 keys:Int
def entB (level:Int) (low:Bs) (high:Option Bs) (l:Ens) (i:Nat):Bool:=
 if 0<level∧i=0 then decide ((l.getD i ([], [])).1= [])
 else (!(decide ((l.getD i ([], [])).1= []) ||ltB (l.getD i ([], [])).1 low ||(match high with|none=>false|some h=> !ltB (l.getD i ([], [])).1 h))) && (decide (i=0) ||ltB (l.getD (i - 1) ([], [])).1 (l.getD i ([], [])).1)
def entsOk (level:Int) (low:Bs) (high:Option Bs) (l:Ens):Bool:=(List.range l.length).all (entB level low high l)
def belowL (w:Int→Bs→Option Bs→Ck→Res Ck) (x:Pg) (low:Bs) (high:Option Bs):Nat→Nat→Ck→Res Ck
 |0,_,c=> .ok c
 |n+1,i,c=>match atP x i with
  | .fail e o=> .fail e o
  | .ok id=>match w id (if 0<i then (x.ents.getD i ([], [])).1 else low) (if i+1<x.ents.length then some (x.ents.getD (i+1) ([], [])).1 else high) c with
   | .fail e o=> .fail e o
   | .ok c=>belowL w x low high n (i+1) c
def Bt.walkF (b:Bt):Nat→Int→Int→Bs→Option Bs→Ck→Res Ck
 |0,_,_,_,_,_=> .fail 103 none
 |f+1,id,level,low,high,c=>if id∈c.seen∨level<0 then .fail 103 none else match b.page id with
  | .fail e o=> .fail e o
  | .ok x=>if x.level≠level∨(0<level∧x.ents= []) then .fail 103 none
   else if entsOk level low high x.ents=false then .fail 103 none
   else if level=0 then .ok ⟨id::c.seen,c.leaves++ [x],c.keys+x.ents.length⟩
   else if x.next≠ -1 then .fail 103 none
   else belowL (fun id low high c=>b.walkF f id (level - 1) low high c) x low high x.ents.length 0 ⟨id::c.seen,c.leaves,c.keys⟩
def Bt.belowF (b:Bt) (f:Nat) (x:Pg) (low:Bs) (high:Option Bs) (c:Ck):Res Ck:=
 if x.next≠ -1 then .fail 103 none else belowL (fun id low high c=>b.walkF f id (x.level - 1) low high c) x low high x.ents.length 0 c
theorem entB_first {level:Int} {low:Bs} {high:Option Bs} {l:Ens} {e:Bs×Bs} (hl:0<level) (he:l[0]? =some e):entB level low high l 0=true↔e.1= []:=by
 have:l.getD 0 ([], [])=e:=by simp [List.getD,he]
 unfold entB;rw [if_pos ⟨hl,rfl⟩,this];simp
theorem entB_rest {level:Int} {low:Bs} {high:Option Bs} {l:Ens} {i:Nat} {e:Bs×Bs} (hn: ¬(0<level∧i=0)) (he:l[i]? =some e) :
  entB level low high l i=true↔e.1≠ []∧ltB e.1 low=false∧(∀h,high=some h→ltB e.1 h=true)∧(0<i→ ∀p,l[i - 1]? =some p→ltB p.1 e.1=true):=by
 have h1:l.getD i ([], [])=e:=by simp [List.getD,he]
 unfold entB;rw [if_neg hn,h1];have h2:(decide (i=0) ||ltB (l.getD (i - 1) ([], [])).1 e.1)=true↔(0<i→ ∀p,l[i - 1]? =some p→ltB p.1 e.1=true):=by
  rcases Nat.eq_zero_or_pos i with h0|h0
  ·subst h0;simp
  have hi:=(List.getElem?_eq_some_iff.1 he).1;have h3:l[i - 1]? =some l[i - 1]:=List.getElem?_eq_getElem (by omega);have h4:l.getD (i - 1) ([], [])=l[i - 1]:=by simp [List.getD,h3]
  rw [h4];constructor
  ·intro h _ p hp;rw [h3] at hp;injection hp with hp;subst hp
   simpa [show i≠0 by omega] using h
  intro h;simp [h h0 _ h3]
 cases high with
 |none=>simp only [Bool.and_eq_true,h2];simp [and_assoc]
 |some h=>simp only [Bool.and_eq_true,h2];simp [and_assoc]
theorem entsOk_iff {level:Int} {low:Bs} {high:Option Bs} {l:Ens}:entsOk level low high l=true↔ ∀i,i<l.length→entB level low high l i=true:=by simp [entsOk]
theorem entsOk_no {level:Int} {low:Bs} {high:Option Bs} {l:Ens} {i:Nat} (hi:i<l.length) (h: ¬entB level low high l i=true):entsOk level low high l=false:=by
 cases hq:entsOk level low high l with
 |false=>rfl
 |true=>exact absurd (entsOk_iff.1 hq i hi) h
section
variable {b:Bt} {f:Nat} {id level:Int} {low:Bs} {high:Option Bs} {c:Ck} {x:Pg}
theorem walk_seen (h:id∈c.seen∨level<0):b.walkF (f+1) id level low high c= .fail 103 none:=by rw [Bt.walkF,if_pos h]
theorem walk_page {e:Nat} {o:Option Int} (h: ¬(id∈c.seen∨level<0)) (hp:b.page id= .fail e o):b.walkF (f+1) id level low high c= .fail e o:=by rw [Bt.walkF,if_neg h,hp]
theorem walk_shape (h: ¬(id∈c.seen∨level<0)) (hp:b.page id= .ok x) (hx:x.level≠level∨(0<level∧x.ents= [])):b.walkF (f+1) id level low high c= .fail 103 none:=by rw [Bt.walkF,if_neg h,hp];simp only [];rw [if_pos hx]
theorem walk_ents (h: ¬(id∈c.seen∨level<0)) (hp:b.page id= .ok x) (hx: ¬(x.level≠level∨(0<level∧x.ents= []))) (he:entsOk level low high x.ents=false):b.walkF (f+1) id level low high c= .fail 103 none:=by rw [Bt.walkF,if_neg h,hp];simp only [];rw [if_neg hx,if_pos he]
theorem walk_leaf (h: ¬(id∈c.seen∨level<0)) (hp:b.page id= .ok x) (hx: ¬(x.level≠level∨(0<level∧x.ents= []))) (he:entsOk level low high x.ents=true) (h0:level=0) :
  b.walkF (f+1) id level low high c= .ok ⟨id::c.seen,c.leaves++ [x],c.keys+x.ents.length⟩:=by
 rw [Bt.walkF,if_neg h,hp];simp only [];rw [if_neg hx,if_neg (by rw [he];simp),if_pos h0]
theorem walk_below (h: ¬(id∈c.seen∨level<0)) (hp:b.page id= .ok x) (hx: ¬(x.level≠level∨(0<level∧x.ents= []))) (he:entsOk level low high x.ents=true) (h0:level≠0) :
  b.walkF (f+1) id level low high c=b.belowF f x low high ⟨id::c.seen,c.leaves,c.keys⟩:=by
 have hl:x.level=level:=by
  rcases Classical.em (x.level=level) with h|h
  ·exact h
  exact absurd (.inl h) hx
 rw [Bt.walkF,if_neg h,hp];simp only [];rw [if_neg hx,if_neg (by rw [he];simp),if_neg h0,Bt.belowF,hl]
end
structure CkOk (c:Ck):Prop where
 nodup:c.seen.Nodup
 range: ∀i∈c.seen,0≤i∧i<256
 leaves:c.leaves.length≤c.seen.length
 keys0:0≤c.keys
 keys1:c.keys≤8*(c.leaves.length:Nat)
theorem nats_len: ∀(n:Nat) (l:List Nat),l.Nodup→(∀x∈l,x<n)→l.length≤n
 |0, [],_,_=>by simp
 |0,x::l,_,h=>by have:=h x (by simp);omega
 |n+1,l,hn,h=>by
  have ih:=nats_len n (l.erase n) (hn.erase n) (fun x hx=>by
   have h1:=(hn.mem_erase_iff).1 hx;have:=h x h1.2;omega)
  by_cases hm:n∈l
  ·rw [List.length_erase_of_mem hm] at ih;omega
  rw [List.erase_of_not_mem hm] at ih;omega
theorem ints_len {l:List Int} (h:l.Nodup) (hr: ∀i∈l,0≤i∧i<256):l.length≤256:=by
 have h2: ∀(l:List Int),l.Nodup→(∀i∈l,0≤i∧i<256)→(l.map Int.toNat).Nodup:=by
  intro l;induction l with
  |nil=>intro _ _;simp
  |cons a r ih=>
   intro hn hq;rw [List.nodup_cons] at hn;rw [List.map_cons,List.nodup_cons];refine ⟨fun hm=> ?_,ih hn.2 (fun i hi=>hq i (by simp [hi]))⟩;obtain ⟨b,hb,he⟩:=List.mem_map.1 hm;have h1:=hq a (by simp);have h2:=hq b (by simp [hb]);have:b=a:=by omega
   exact hn.1 (this▸hb)
 have:=nats_len 256 (l.map Int.toNat) (h2 l h hr) (fun x hx=>by
  obtain ⟨i,hi,rfl⟩:=List.mem_map.1 hx;have:=hr i hi;omega)
 simpa using this
def chainOk:List Pg→Bool
 | []=>true
 | [x]=>decide (x.next= -1)
 |x::y::r=>decide (x.next=y.id) && chainOk (y::r)
def seenM (ids:List Int):List (Int×Value):=ids.reverse.map fun i=>(i, .bool true)
theorem getM_map (k:Int): ∀l:List Int,getM (l.map fun i=>(i,Value.bool true)) k=if k∈l then some (.bool true) else none
 | []=>by simp [getM]
 |i::r=>by
  rw [List.map_cons,getM,getM_map k r];by_cases h:i=k
  ·subst h;simp
  rw [if_neg h];have:(k∈i::r)↔k∈r:=by simp [Ne.symm h]
  simp only [this]
theorem getM_seen (ids:List Int) (k:Int):getM (seenM ids) k=if k∈ids then some (.bool true) else none:=by rw [seenM,getM_map];simp only [List.mem_reverse]
theorem putM_end {v:Value} (k:Int): ∀m:List (Int×Value),(∀p∈m,p.1≠k)→putM m k v=m++ [(k,v)]
 | [],_=>rfl
 |(q,u)::r,h=>by
  rw [putM,if_neg (h (q,u) (by simp)),putM_end k r (fun p hp=>h p (by simp [hp]))];rfl
theorem putM_seen {ids:List Int} {k:Int} (h:k ∉ ids):putM (seenM ids) k (.bool true)=seenM (k::ids):=by
 rw [putM_end]
 ·simp [seenM]
 intro p hp e;simp only [seenM,List.mem_map,List.mem_reverse] at hp;obtain ⟨i,hi,rfl⟩:=hp;exact h (e▸hi)
theorem seenM_len (ids:List Int):(seenM ids).length=ids.length:=by simp [seenM]
theorem seenM_mem {ids:List Int} {p:Int×Value} (h:p∈seenM ids):p.1∈ids:=by simp only [seenM,List.mem_map,List.mem_reverse] at h;obtain ⟨i,hi,rfl⟩:=h;exact hi
theorem CkOk.put {c:Ck} {id:Int} (h:CkOk c) (hn:id ∉ c.seen) (h0:0≤id∧id<256):CkOk ⟨id::c.seen,c.leaves,c.keys⟩:=
 ⟨List.nodup_cons.2 ⟨hn,h.nodup⟩,fun i hi=>by
  rcases List.mem_cons.1 hi with rfl|hi
  ·exact h0
  exact h.range i hi,by have:=h.leaves;simp only [List.length_cons];omega,h.keys0,h.keys1⟩
theorem CkOk.leaf {c:Ck} {id:Int} {x:Pg} (h:CkOk c) (hn:id ∉ c.seen) (h0:0≤id∧id<256) (hx:x.ents.length≤8):CkOk ⟨id::c.seen,c.leaves++ [x],c.keys+x.ents.length⟩:=
 ⟨(h.put hn h0).nodup,(h.put hn h0).range,by have:=h.leaves;simp only [List.length_cons,List.length_append,List.length_nil];omega,by have:=h.keys0;simp only [];omega,by have:=h.keys1;simp only [List.length_append,List.length_cons,List.length_nil];omega⟩
end Go.Proofs.YtkknmpkcfpdllaaDoor.B
