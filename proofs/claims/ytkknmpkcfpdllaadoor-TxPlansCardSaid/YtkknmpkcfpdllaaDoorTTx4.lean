/- What functions of the program compute, each function once: steps over the model, and the plain law of it. -/
import Derived.Test.YtkknmpkcfpdllaaDoorTDPut
import Derived.Test.YtkknmpkcfpdllaaDoorTFinds
import Derived.Test.YtkknmpkcfpdllaaDoorTTreeLawA
import Derived.Test.YtkknmpkcfpdllaaDoorTTreeLaid
import Derived.Test.YtkknmpkcfpdllaaDoorTFirst
import Derived.Test.YtkknmpkcfpdllaaDoorTDRoom
import Derived.Test.YtkknmpkcfpdllaaDoorTFacts
namespace Go.Proofs.YtkknmpkcfpdllaaDoor.B
open Go
set_option linter.unusedVariables false
set_option linter.unusedSimpArgs false
set_option linter.unnecessarySimpa false
variable {B:Nat}
theorem wt_upd {V:Vw} {k:Int} {x y:Pg} {d:Nat} (hy:V k=some y) (hl:x.ents.length<=y.ents.length+d): ∀(l:List Int),l.Nodup->wt (V.upd k x) l<=wt V l+d
 | [],_=>by simp [wt]
 |j::l,hn=>by
  have hn':=List.nodup_cons.1 hn;rw [wt_cons,wt_cons];by_cases h:j=k
  ·subst h;have e2:=wt_frame (V:=V) (V':=V.upd j x) l (fun i hi=>upd_other (by rintro rfl;exact hn'.1 hi));rw [pw_some (upd_same _ _ _),pw_some hy,e2];omega
  have:=wt_upd hy hl l hn'.2;have e:pw (V.upd k x) j=pw V j:=by rw [pw,pw,upd_other h]
  omega
theorem TrA.id0 {b:Bt} {K n:Nat} {av ids:List Int} {fl:Int} {kv:Ens} (h:TrA B b K n av fl ids kv): ∃x js,b.view 0=some x/\x.level=(n:Int)/\x.ents.length<=8/\ids=0::js:=SubT.page h.s
theorem leaf_trA {b b'':Bt} {K d n:Nat} {av:List Int} {fl:Int} {ids:List Int} {kvL kvR ents':Ens} {y:Pg} {kv:Ens} (h:TrA B b K n av fl ids kv) (hy:b.view y.id=some y) (hm:y.id∈ids) (hlv:y.level=0)
  (hv:b''.view=b.view.upd y.id {y with ents:=ents'}) (hl:ents'.length<=y.ents.length+d)
  (hs:SubT b''.view n 0 [] none fl (-1) ids (kvL++ents'++kvR)):TrA B b'' (K+d) n av fl ids (kvL++ents'++kvR):=by
 have hy1:=(h.g.rgi hm).2.2;obtain ⟨x0,js,hx0,hx0l,_,hids⟩:=h.id0;have hv0:0<n->(0:Int)≠y.id:=by
  intro hn e;rw [<-e,hx0] at hy;injection hy with hy;subst hy
  omega
 refine ⟨⟨?_, ?_,h.g.nd,h.g.rg,h.g.a1⟩,hs, ?_,h.c, ?_, ?_⟩
 ·refine h.g.m.frame (by rw [hv,upd_other (Ne.symm hy1)]) (fun j hj=> ?_);rw [hv,upd_other];rintro rfl;exact h.g.dis hm hj
 ·rw [hv];exact h.g.i.upd rfl
 ·intro j hj hne x hx hl2;rw [hv] at hx;by_cases e:j=y.id
  ·subst e;rw [upd_same] at hx;injection hx with hx;subst hx
   simp only [] at hl2;omega
  rw [upd_other e] at hx;exact h.o j hj hne x hx hl2
 ·intro x hx hn;rw [hv,upd_other (hv0 hn)] at hx;exact h.r x hx hn
 intro x hx;by_cases e:(0:Int)=y.id
 ·rw [hv,e,upd_same] at hx;injection hx with hx;subst hx
  have hn:n=0:=by
   rcases Nat.eq_zero_or_pos n with q|q
   ·exact q
   exact absurd e (hv0 q)
  subst hn;have h1:=h.w y (by rw [e];exact hy);obtain ⟨_,rfl,_⟩:=h.s;simp only [List.tail_cons,wt_nil] at h1 ⊢;omega
 rw [hv,upd_other e] at hx;have h1:=h.w x hx;have h2:=wt_upd (V:=b.view) (k:=y.id) (x:={y with ents:=ents'}) hy hl ids.tail (h.g.ids.sublist (List.tail_sublist _));rw [hv];omega
theorem put_trA {b:Bt} {K n:Nat} {av:List Int} {fl:Int} {ids:List Int} {kv:Ens} {key val:Bs} (h:TrA B b K n av fl ids kv) (hk:rightK key=true) (hv:val.length<=64) :
  (∃b' n' av' fl' ids',b.put key val= .ok b'/\TrA B b' (K+1) n' av' fl' ids' (insKv kv key val))\/(av.length<8/\lookKv kv key=none/\b.put key val= .fail 109 none):=by
 have hn:=h.lvl;have hk0:key≠ []:=by rintro rfl;simp [rightK] at hk
 obtain ⟨l',ks',y,hd,hy8,hw⟩:=down_n (key:=key) h.g.i n 17 [] [] (by omega) h.g.ids h.s (InR.all key);have hlast:lastPg ([]++l'++ [y])=y:=lastPg_end _ _;obtain ⟨w1,w2,w3,kvL,kvR,lo',hi',rfl,w5,w6,w7,w8,w9⟩:=hw.keys hk0 hw.1;have hput:b.put key val=(if (findP y.ents key).2 then b.doR {page:=y.id,kind:=4,slot:=(findP y.ents key).1,val:=val} else match b.room key with
  | .fail c o=> .fail c o
  | .ok (b,y)=>b.doR {page:=y.id,kind:=2,slot:=(findP y.ents key).1,key:=key,val:=val}):=by
  rw [Bt.put,if_neg (by rw [hk];simp;omega),Bt.down,hd];simp only [hlast];rfl
 cases hf:(findP y.ents key).2 with
 |true=>
  rw [hf] at hput;have hlt:=findP_lt hf;obtain ⟨b',t,v⟩:=doR_view (b:=b) (r:={page:=y.id,kind:=4,slot:=(findP y.ents key).1,val:=val}) (x:=y) (.inr ⟨by simp,w1⟩) rfl;have he:effP y {page:=y.id,kind:=4,slot:=(findP y.ents key).1,val:=val}={y with ents:=insKv y.ents key val}:=by unfold effP;rw [if_neg (by simp),if_neg (by simp),if_neg (by simp),if_pos rfl,if_pos (by simp only [];omega)];simp only [Int.toNat_natCast];rw [insKv_found _ hf]
  rw [he] at v;refine .inl ⟨b',n,av,fl,ids,by rw [hput];exact t, ?_⟩;rw [insKv_right w8,insKv_left _ w7];have hlen8:(insKv y.ents key val).length<=8:=by rw [<-insKv_found _ hf];simpa using hy8
  exact leaf_trA h w1 w3 w2 v (insKv_len _).2 (w9 _ _ (fun j _ hne=>by rw [v,upd_other hne]) (by rw [v,upd_same]) hlen8 (insKv_ok w6 w5 hk0))
 |false=>
  rw [hf] at hput;rcases room_trA key h with ⟨b1,z,n1,av1,fl1,ids1,hr,h1,hz8,hw1⟩|⟨e1,e2⟩
  rotate_left
  ·refine .inr ⟨e1, ?_,by rw [hput];simp only [Bool.false_eq_true,if_false];rw [e2]⟩;rw [lookKv_right w8,lookKv_left _ w7,<-lookKv_find,if_neg (by rw [hf];simp)]
  obtain ⟨z1,z2,z3,kL,kR,lo2,hi2,hkv,z5,z6,z7,z8,z9⟩:=hw1.keys hk0 hw1.1;have hfz:(findP z.ents key).2=false:=by
   cases hq:(findP z.ents key).2 with
   |false=>rfl
   |true=>
    exfalso;obtain ⟨e,he,hek⟩:=findP_mem _ hq;have hmem:e∈kvL++y.ents++kvR:=by rw [hkv];simp [he]
    have hfy:(findP y.ents key).2=true:=by
     refine findP_of_mem _ w6.1 ⟨e, ?_,hek⟩;rcases List.mem_append.1 hmem with q|q
     ·rcases List.mem_append.1 q with q|q
      ·have:=w7 e q;rw [hek,ltB_irrefl] at this;cases this
      exact q
     have:=w8 e q;rw [hek,ltB_irrefl] at this;cases this
    rw [hf] at hfy;cases hfy
  obtain ⟨b',t,v⟩:=doR_view (b:=b1) (r:={page:=z.id,kind:=2,slot:=(findP z.ents key).1,key:=key,val:=val}) (x:=z) (.inr ⟨by simp,z1⟩) rfl;have he:effP z {page:=z.id,kind:=2,slot:=(findP z.ents key).1,key:=key,val:=val}={z with ents:=insKv z.ents key val}:=by unfold effP;rw [if_neg (by simp),if_pos rfl,if_pos hz8];have:=findP_le z.ents key;rw [show (min ((findP z.ents key).1:Int) (z.ents.length:Nat)).toNat=(findP z.ents key).1 by omega,insKv_new _ hfz]
  rw [he] at v;refine .inl ⟨b',n1,av1,fl1,ids1,by rw [hput];simp only [Bool.false_eq_true,if_false];rw [hr];exact t, ?_⟩;rw [hkv,insKv_right z8,insKv_left _ z7];have hlen8:(insKv z.ents key val).length<=8:=by have:=(insKv_len (k:=key) (v:=val) z.ents).2;omega
  exact leaf_trA h1 z1 z3 z2 v (insKv_len _).2 (z9 _ _ (fun j _ hne=>by rw [v,upd_other hne]) (by rw [v,upd_same]) hlen8 (insKv_ok z6 z5 hk0))
theorem get_trA {b:Bt} {K n:Nat} {av:List Int} {fl:Int} {ids:List Int} {kv:Ens} {key:Bs} (h:TrA B b K n av fl ids kv) (hk:rightK key=true):b.get key= .ok (lookKv kv key):=by
 have hn:=h.lvl;have hk0:key≠ []:=by rintro rfl;simp [rightK] at hk
 obtain ⟨l',ks',y,hd,hy8,hw⟩:=down_n (key:=key) h.g.i n 17 [] [] (by omega) h.g.ids h.s (InR.all key);have hlast:lastPg ([]++l'++ [y])=y:=lastPg_end _ _;obtain ⟨w1,w2,w3,kvL,kvR,lo',hi',rfl,w5,w6,w7,w8,w9⟩:=hw.keys hk0 hw.1;rw [lookKv_right w8,lookKv_left _ w7,<-lookKv_find,Bt.get,if_neg (by rw [hk];simp),Bt.down,hd];simp only [hlast];split<;>rfl
def HoldsA (B:Nat) (b:Bt) (K:Nat) (kv:Ens):Prop:= ∃n av fl ids,TrA B b K n av fl ids kv
theorem HoldsA.mono {b:Bt} {K K':Nat} {kv:Ens} (h:HoldsA B b K kv) (hk:K<=K'):HoldsA B b K' kv:=by obtain ⟨n,av,fl,ids,h⟩:=h;exact ⟨n,av,fl,ids,h.mono hk⟩
theorem HoldsA.sorted {b:Bt} {K:Nat} {kv:Ens} (h:HoldsA B b K kv):Sorted kv:=by obtain ⟨n,av,fl,ids,h⟩:=h;exact (SubT.kv n h.s).1
theorem HoldsA.put {b:Bt} {K:Nat} {kv:Ens} {key val:Bs} (h:HoldsA B b K kv) (hl:K<=735) (hk:rightK key=true) (hv:val.length<=64): ∃b',b.put key val= .ok b'/\HoldsA B b' (K+1) (insKv kv key val):=by
 obtain ⟨n,av,fl,ids,h⟩:=h;have h1:=h.pages;have h2:=h.c;rcases put_trA h hk hv with ⟨b',n',av',fl',ids',t,h'⟩|⟨e,_⟩
 ·exact ⟨b',t,n',av',fl',ids',h'⟩
 omega
theorem HoldsA.get {b:Bt} {K:Nat} {kv:Ens} {key:Bs} (h:HoldsA B b K kv) (hk:rightK key=true):b.get key= .ok (lookKv kv key):=by obtain ⟨n,av,fl,ids,h⟩:=h;exact get_trA h hk
variable {B:Nat}
variable {B:Nat}
variable {B:Nat}
variable {B:Nat}
theorem HoldsA.from_ {b:Bt} {K:Nat} {kv:Ens} {key:Bs} (h:HoldsA B b K kv) (ha:AllOk b) (above:Bool) (hk:key.length<=32):b.from_ key above= .ok (fromKv key above kv):=by have hso:=h.sorted;obtain ⟨n,av,fl,ids,h⟩:=h;have hn:=h.lvl;have hc:=h.c;obtain ⟨l',ks',y,kvL,kvR,m,hd,rfl,w1,w2,w3,w4,w5⟩:=down_sides (key:=key) h.g.i n 17 [] [] (by omega) h.s (InR.all key);have hlast:lastPg ([]++l'++ [y])=y:=lastPg_end _ _;have hsR:Sorted kvR:=(List.pairwise_append.1 hso).2.1;rw [Bt.from_,if_neg (by omega),Bt.down,hd];simp only [hlast];rw [List.append_assoc,fromKv_left _ w2];exact fromF_law ha m 256 (by omega) w4 w1 w3 hsR
theorem FreeC.frameL {V V':Vw}: ∀(fr:List Int) {f:Int},(∀j∈fr,(V' j).map noL=(V j).map noL)->FreeC V f fr->FreeC V' f fr
 | [],_,_,h=>h
 |j::r,_,hf,⟨h1,h2,h3,y,h4,h5,h6,h7⟩=>by
  obtain ⟨z,hz,e⟩:=map_noL (hf j (by simp)) h4;obtain ⟨_,e1,e2,e3⟩:=noL_eq e;exact ⟨h1,h2,h3,z,hz,by rw [e1];exact h5,by rw [e3];exact h6,by rw [e2];exact FreeC.frameL r (fun k hk=>hf k (by simp [hk])) h7⟩
theorem pw_noL {V V':Vw} {j:Int} (h:(V' j).map noL=(V j).map noL):pw V' j=pw V j:=by
 cases hv:V j with
 |none=>
  rw [hv] at h;have:V' j=none:=by simpa using h
  rw [pw,pw,hv,this]
 |some x=>
  obtain ⟨z,hz,e⟩:=map_noL h hv;rw [pw_some hv,pw_some hz,(noL_eq e).2.2.2]
theorem HoldsA.laid {b b':Bt} {K:Nat} {kv:Ens} (h:HoldsA B b K kv) (hi:IdsOk b'.view) (hv: ∀id,0<=id->id<256->(b'.view id).map noL=(b.view id).map noL):HoldsA B b' K kv:=by
 obtain ⟨n,av,fl,ids,h⟩:=h;have hids: ∀j∈ids,(b'.view j).map noL=(b.view j).map noL:=fun j hj=>by have:=h.g.rgi hj;exact hv j this.1 this.2.1
 have hback: ∀j∈ids,∀x,b'.view j=some x-> ∃y,b.view j=some y/\y.ents=x.ents/\y.level=x.level:=fun j hj x hx=>by
  obtain ⟨y,hy,e⟩:=map_noL (hids j hj).symm hx;exact ⟨y,hy,(noL_eq e).2.2.2,(noL_eq e).2.1⟩
 have h0:(0:Int)∈ids:=by obtain ⟨x,js,_,_,_,e⟩:=h.id0;rw [e];simp
 refine ⟨n,av,fl,ids,⟨⟨?_,hi,h.g.nd,h.g.rg,h.g.a1⟩,SubT.frameL n hids h.s, ?_,h.c, ?_, ?_⟩⟩
 ·obtain ⟨u,f,fr,⟨⟨x,hx,he⟩,c,u1,u2⟩,hav⟩:=h.g.m;obtain ⟨y,hy,e⟩:=map_noL (hv 1 (by omega) (by omega)) hx;exact ⟨u,f,fr,⟨⟨y,hy,by rw [(noL_eq e).2.2.2];exact he⟩,c.frameL fr (fun j hj=>by have:=(FreeC.rg fr c).1 j hj;exact hv j (by omega) this.2),u1,u2⟩,hav⟩
 ·intro j hj hne x hx hl2;obtain ⟨y,hy,e,e2⟩:=hback j hj x hx;rw [<-e];exact h.o j hj hne y hy (by omega)
 ·intro x hx hn;obtain ⟨y,hy,e,_⟩:=hback 0 h0 x hx;rw [<-e];exact h.r y hy hn
 intro x hx;obtain ⟨y,hy,e,_⟩:=hback 0 h0 x hx;have h1:=h.w y hy;have h2:wt b'.view ids.tail=wt b.view ids.tail:=by
  have: ∀l:List Int,(∀j∈l,j∈ids)->wt b'.view l=wt b.view l:=by
   intro l;induction l with
   |nil=>intro _;rfl
   |cons j l ih=>intro hl;rw [wt_cons,wt_cons,ih (fun k hk=>hl k (by simp [hk])),pw_noL (hids j (hl j (by simp)))]
  exact this _ (fun j hj=>List.mem_of_mem_tail hj)
 rw [h2,<-e];exact h1
def PHoldsA (B:Nat) (P:Pl) (n:Int) (K:Nat) (kv:Ens):Prop:=PlOk P n/\HoldsA B (newBt P) K kv
theorem laid_holdsA {P:Pl} {n:Int} {b:Bt} {K:Nat} {kv:Ens} {k:Nat} (hP:PlOk P n) (h1:1<=n) (hr:Runs (newBt P) b k) (hk:n+k<=1099511627777) (hb:HoldsA B b K kv) :
  b.recs.length<=k/\ ∃P',laidP P b.recs n=some (P',n+b.recs.length)/\PHoldsA B P' (n+b.recs.length) K kv:=by
 obtain ⟨rs,r1,r2,r3⟩:=hr;have e0:(newBt P).recs.length=0:=rfl;obtain ⟨⟨P',l1,l2,l3⟩,e1⟩:=LInv.all h1 rs (LInv.new hP) (AllOk.new hP) (by rw [e0];omega) r2 r3;refine ⟨by omega,P',l1,l2,hb.laid (IdsOk.new l2) (fun id i1 i2=> ?_)⟩;rw [newBt_view i1 i2];exact l3 id i1 i2
theorem upTo_nodup (u:Nat):(upTo u).Nodup:=by unfold upTo;refine List.Pairwise.map _ (fun a b h=> ?_) (List.nodup_range' (step:=1) (by omega));simp only [ne_eq] at h ⊢;omega
theorem upTo_len (u:Nat):(upTo u).length=256 - u:=by simp [upTo]
theorem E0_holdsA:PHoldsA B E0 4 0 []:=by
 refine ⟨E0_ok,0,upTo 2,0, [0],⟨⟨?_,IdsOk.new E0_ok, ?_, ?_, ?_⟩, ?_, ?_,by rw [upTo_len];rfl, ?_, ?_⟩⟩
 ·obtain ⟨x,h1,h2⟩:=E0_1;exact ⟨2,0, [],⟨⟨x,by rw [newBt_view (by omega) (by omega)];exact h1,h2⟩,rfl,by omega,by omega⟩,rfl, .inr rfl⟩
 ·refine List.nodup_cons.2 ⟨?_,upTo_nodup 2⟩;show (0:Int) ∉ upTo 2;rw [mem_upTo];omega
 ·intro j hj;rcases List.mem_cons.1 hj with e|e
  ·omega
  have:j∈upTo 2:=e;rw [mem_upTo] at this;omega
 ·intro j hj;rw [mem_upTo] at hj;omega
 ·obtain ⟨x,h1,h2,h3,h4⟩:=E0_0;exact ⟨rfl,rfl,x,by rw [newBt_view (by omega) (by omega)];exact h1,h2,h3,h4,by simp,by simp [Sorted],by simp⟩
 ·intro j hj hne;simp at hj;exact absurd hj hne
 ·intro x _ h;omega
 intro x hx;obtain ⟨y,h1,_,_,h4⟩:=E0_0;rw [newBt_view (by omega) (by omega),h1] at hx;injection hx with hx;subst hx
 simp [h4,wt]
open Go Go.Proofs
set_option maxRecDepth 20000
set_option maxHeartbeats 8000000
variable {B:Nat}
variable {B:Nat}
def cb (C:Int->Option Pg) (b:Bt):Bt:={b with pool:=C}
def cp {α:Type} (C:Int->Option Pg) (p:α×Bt):α×Bt:=(p.1,cb C p.2)
def cq {α:Type} (C:Int->Option Pg) (p:Bt×α):Bt×α:=(cb C p.1,p.2)
theorem BPut_cold {w0 w:World} {D:Sto} {ss:List Seg} {sb sp:Seg} {vb vp:Value} {b b':Bt} {P:Pl} {S:List Int} (I:Inv w0 D (sb::sp::ss) w) {ad:Nat->Addr} (hS:TSents D ad) (hB:BatchS D vb vp b sb) (hP:PoolS D vp P sp) (hpool:b.pool=P.f) {vk vv:Value} {key val:Bs} (hk:RB D vk key) (hv:RB D vv val) (hlen:b.recs.length<=1000000000 - 8000)
  (hok:b.put key val= .ok b'\/ ∃j,b.put key val= .fail 113 (some j)/\P.f j=none/\j∈S) :
  Calls Tryd.prog 10 #[vb,vk,vv] w (Ret fun r w'=>(r= .nilIface/\ ∃D' sb' sp',Le D D'/\BatchS D' vb vp b' sb'/\PoolS D' vp P sp'/\Inv w0 D' (sb'::sp'::ss) w')\/
   ∃j D' sb' sp',P.f j=none/\j∈S/\r=errV ad 113/\Le D D'/\BatchS D' vb vp b sb'/\PoolS D' vp (P.want j) sp'/\Inv w0 D' (sb'::sp'::ss) w'):=by
 refine (BPut_spec I.merge hS (TreeS.join hB hP hpool) hk hv hlen).mono fun e w' h=> ?_;obtain ⟨r,he,h⟩:=h;refine ⟨r,he, ?_⟩;rcases h with ⟨b1,h1,rfl,D',s',hD,hT,hI'⟩|⟨c',o,h1,rfl,D',s',hD,hT,hI'⟩
 ·rcases hok with hok|⟨j,hok,_⟩
  ·rw [hok] at h1;injection h1 with h1;subst h1
   obtain ⟨sb',sp',rfl,hB',hP',_⟩:=hT;exact .inl ⟨rfl,D',sb',sp',hD,hB',hP',hI'.parted⟩
  rw [hok] at h1;cases h1
 rcases hok with hok|⟨j,hok,h2,h3⟩
 ·rw [hok] at h1;cases h1
 rw [hok] at h1;injection h1 with h1 h4;subst h1;subst h4
 obtain ⟨sb',sp',rfl,hB',hP',_⟩:=hT;exact .inr ⟨j,D',sb',sp',h2,h3,rfl,hD,hB',hP',hI'.parted⟩
theorem note_spec {w0 w:World} {D:Sto} {ss:List Seg} {sb sp:Seg} {vb vp:Value} {b b':Bt} {P:Pl} {S:List Int} (I:Inv w0 D (sb::sp::ss) w) {ad:Nat->Addr} (hS:TSents D ad) (hB:BatchS D vb vp b sb) (hP:PoolS D vp P sp) (hpool:b.pool=P.f) {e:Ent} {ku vu vd:Value} (hku:RB D ku e.key) (hvu:RB D vu e.value) (hok:e.Ok) (hkr:1<=e.tx/\e.tx<=2251799813685248/\0<=e.n/\e.n<12) (hvl:e.value.length<=100000) (hlen:b.recs.length<=1000000000 - 8000) (hput:b.put (keyL e.tx e.n) e.enc= .ok b'\/ ∃j,b.put (keyL e.tx e.n) e.enc= .fail 113 (some j)/\P.f j=none/\j∈S) :
  Calls Tryd.prog 93 #[vd,vb, .agg #[.int .i64 e.tx, .int .i64 e.n,ku, .bool e.had,vu]] w (Ret fun r w'=>(r= .nilIface/\ ∃D' sb' sp',Le D D'/\BatchS D' vb vp b' sb'/\PoolS D' vp P sp'/\Inv w0 D' (sb'::sp'::ss) w')\/(∃j D' sb' sp',P.f j=none/\j∈S/\r=errV ad 113/\Le D D'/\BatchS D' vb vp b sb'/\PoolS D' vp (P.want j) sp'/\Inv w0 D' (sb'::sp'::ss) w')):=by
 obtain ⟨bbn,hbb⟩:=BatchS.ptr hB;subst hbb;obtain ⟨A1,c2,rfl,_⟩:=hku.slice;obtain ⟨A3,c4,rfl,_⟩:=hvu.slice;refine enter (N:=33) Tryd.func93 rfl rfl rfl ?_;intro a Z;refine wsr ?_;refine l_step rfl (f_box (cs:= #[_,_,_,_,_]) Z I rfl rfl rfl rfl rfl ?_);clear I Z a w;intro a b5 w Z I;refine go 7 Z I ?_;clear Z a;intro a Z;refine l_step rfl (o_call Z rfl rfl rfl rfl ent_112 (Key_spec I hS.g105 _ _) ?_);clear I Z a;rintro r w h a Z;rcases h with ⟨v6,D7,hr8,rfl,hD9,I,hb10⟩|⟨hr8,rfl,I⟩
 ·obtain ⟨A11,c12,rfl,_⟩:=hb10.slice;refine go 16 Z I ?_;clear Z a;intro a Z;refine l_step rfl (o_call Z rfl rfl rfl rfl ent_113 (UBytes_spec I (hS.mono hD9).g105 _ _ _ (hku.mono hD9) (hvu.mono hD9) (by omega)) ?_);clear I Z a;rintro r w ⟨D13,hD14,h⟩ a Z;rcases h with ⟨v15,s16,hok9,rfl,I,hO17⟩|⟨hok9,rfl,I⟩
  case inr=>exact absurd hok hok9
  obtain ⟨D18,hD19,hIa,hb20⟩:=OB.data ⟨_,hO17,I⟩ (enc_lt (hku.mono hD9).lt (hvu.mono hD9).lt);replace I:=hIa;clear hIa;replace hb20:RB D18 _ e.enc:=hb20;obtain ⟨A21,c22,rfl,_⟩:=hb20.slice;refine go 18 Z I ?_;clear Z a;intro a Z;replace I:=I.bring 2;replace I:=I.bring 2;refine l_step rfl (o_call Z rfl rfl rfl rfl ent_10 (BPut_cold I (hS.mono ((hD9.trans hD14).trans hD19)) (hB.mono ((hD9.trans hD14).trans hD19)) (hP.mono ((hD9.trans hD14).trans hD19)) hpool (hb10.mono (hD14.trans hD19)) hb20 hlen hput) ?_);clear I Z a;rintro r w h a Z;rcases h with ⟨rfl,D23,sb24,sp25,hD26,hB27,hP28,I⟩|⟨j9,D23,sb24,sp25,hj1,hj2,rfl,hD26,hB27,hP28,I⟩
  ·refine go 3 Z I ?_;clear Z a;intro a Z;refine ret1 rfl Z rfl ?_;replace I:=I.erase 2;exact .inl ⟨rfl,D23,_,_,(((hD9.trans hD14).trans hD19).trans hD26),hB27,hP28,I⟩
  refine go 3 Z I ?_;clear Z a;intro a Z;refine ret1 rfl Z rfl ?_;replace I:=I.erase 2;exact .inr ⟨j9,D23,_,_,hj1,hj2,rfl,(((hD9.trans hD14).trans hD19).trans hD26),hB27,hP28,I⟩
 exfalso;exact hr8 hkr
theorem plan_spec {w0 w:World} {D:Sto} {ss:List Seg} {s sb sp:Seg} {vd vb vp:Value} {fd:FuncId} {us:Array Value} {d:Db} {b:Bt} {P:Pl} (I:Inv w0 D (s::sb::sp::ss) w) {ad:Nat->Addr} (hS:TSents D ad) (hd:DbS D vd vp d s) (hdb:DbOk d) (hB:BatchS D vb vp b sb) (hP:PoolS D vp P sp) (hpool:b.pool=P.f) (hlen:b.recs.length<=1000000000) :
  Calls Tryd.prog 94 #[vd,vb, .func (.func fd) #[] us] w (Ret fun r w'=> ∃D' vr s' sb' sp',Le D D'/\r= .agg #[vr, .int .i64 (d.seq+1), .func (.func fd) #[] us]/\DR 10 RcR D' vr b.recs/\DbS D' vd vp {d with seq:=d.seq+1} s'/\BatchS D' vb vp b sb'/\PoolS D' vp P sp'/\Inv w0 D' (s'::sb'::sp'::ss) w'):=by
 obtain ⟨bbn,hbb⟩:=BatchS.ptr hB;subst hbb;obtain ⟨bd,bl,esl,clkl,os,rfl,rfl,hml,hos⟩:=hd;obtain ⟨e0,e1,b0,b1,s0,s1,hids,hlen⟩:=hdb;replace I:=I.open_db;refine enter (N:=26) Tryd.func94 rfl rfl rfl ?_;intro a Z;refine wsr ?_;refine l_step rfl (f_alloc (cs:= #[.slice none 0 0, .int .i64 0, .nilFunc]) Z I rfl rfl rfl zer_62 rfl ?_);clear I Z a w;intro a b1 w Z I;refine go 3 Z I ?_;clear Z a;intro a Z;refine zs Z (p_nilCheck rfl) ?_;clear Z a;intro a Z;refine go 2 Z I ?_;clear Z a;intro a Z;refine zs Z (p_arith (z:=d.seq+1) rfl rfl (add_z rfl (by omega) (by omega))) ?_;clear Z a;intro a Z;refine zs Z (p_nilCheck rfl) ?_;clear Z a;intro a Z;refine zs Z (p_fieldAddr (m:=4) rfl fo_119_4 rfl) ?_;clear Z a;intro a Z;refine l_step rfl (f_store (l:= [_,_,_,_,_]) (ss':=_::_::_) 1 Z I rfl rfl rfl rfl rfl sz_3 (by simp [Value.cells,Value.oneCell',pgCells,rcCells,zPg,errV,zUe]) rfl rfl rfl ?_);clear I w;intro w I;refine go 7 Z I ?_;clear Z a;intro a Z;refine zs Z (p_eq rfl rfl (g_none rfl) (e_ptrNil Tryd.underlying28 rfl) rfl rfl) ?_;clear Z a;intro a Z;refine go 4 Z I ?_;clear Z a;intro a Z;replace I:=I.bring 5;replace I:=I.bring 5;refine l_step rfl (o_call Z rfl rfl rfl rfl ent_12 (Redo_ok I hS hB hP hpool (by omega)) ?_);clear I Z a;rintro r w ⟨D2,sb3,sp4,hD5,hL6,hB7,hP8,I⟩ a Z;obtain ⟨A9,c10,rfl,_⟩:=hL6.slice;refine go 5 Z I ?_;clear Z a;intro a Z;refine zs Z (p_nilCheck rfl) ?_;clear Z a;intro a Z;refine go 3 Z I ?_;clear Z a;intro a Z;refine zs Z (f_build (vs:= [(0,_),(1,_),(2,_)]) (l:= [_,_,_]) rfl built_62 rfl) ?_;clear Z a;intro a Z;refine l_step rfl (f_store (l:= [_,_,_]) (ss':=_::_::_::_) 2 Z I rfl rfl rfl rfl rfl sz_62 (by simp [Value.cells,Value.oneCell',pgCells,rcCells,zPg,errV,zUe]) rfl rfl rfl ?_);clear I w;intro w I;refine gc 2 Z ?_;refine retc1 rfl Z rfl agg_62 (I.seg 2 rfl) rfl ?_;replace I:=I.erase 2;replace I:=I.bring 1;replace I:=I.bring 1;replace I:=I.bring 4;replace I:=I.bring 4;replace I:=I.bring 4;exact ⟨D2,_,_,_,_,hD5,rfl,hL6,⟨bd,bl,_,_,os,rfl,rfl,hml,hos.mono hD5⟩,hB7,hP8,I.shut_db⟩
end Go.Proofs.YtkknmpkcfpdllaaDoor.B
