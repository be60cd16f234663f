/- What functions of the program compute, each function once: steps over the model, and the plain law of it. -/
import Derived.Test.YtkknmpkcfpdllaaGreatDoorTDDel3
import Derived.Test.YtkknmpkcfpdllaaGreatDoorTTreeChain
import Derived.Test.YtkknmpkcfpdllaaGreatDoorTFinds
import Derived.Test.YtkknmpkcfpdllaaGreatDoorTStrEq
import Derived.Test.YtkknmpkcfpdllaaGreatDoorTDAv
import Derived.Test.YtkknmpkcfpdllaaGreatDoorTFacts
namespace Go.Proofs.YtkknmpkcfpdllaaGreatDoor.B
open Go
set_option linter.unusedVariables false
set_option linter.unusedSimpArgs false
set_option linter.unnecessarySimpa false
variable {B:Nat}
theorem HoldsA.from_ {b:Bt} {K:Nat} {kv:Ens} {key:Bs} (h:HoldsA B b K kv) (ha:AllOk b) (above:Bool) (hk:key.length≤32):b.from_ key above= .ok (fromKv key above kv):=by have hso:=h.sorted;obtain ⟨n,av,fl,ids,h⟩:=h;have hn:=h.lvl;have hc:=h.c;obtain ⟨l',ks',y,kvL,kvR,m,hd,rfl,w1,w2,w3,w4,w5⟩:=down_sides (key:=key) h.g.i n 17 [] [] (by omega) h.s (InR.all key);have hlast:lastPg ([]++l'++ [y])=y:=lastPg_end _ _;have hsR:Sorted kvR:=(List.pairwise_append.1 hso).2.1;rw [Bt.from_,if_neg (by omega),Bt.down,hd];simp only [hlast];rw [List.append_assoc,fromKv_left _ w2];exact fromF_law ha m 256 (by omega) w4 w1 w3 hsR
theorem FreeC.frameL {V V':Vw}: ∀(fr:List Int) {f:Int},(∀j∈fr,(V' j).map noL=(V j).map noL)→FreeC V f fr→FreeC V' f fr
 | [],_,_,h=>h
 |j::r,_,hf,⟨h1,h2,h3,y,h4,h5,h6,h7⟩=>by
  obtain ⟨z,hz,e⟩:=map_noL (hf j (by simp)) h4;obtain ⟨_,e1,e2,e3⟩:=noL_eq e;exact ⟨h1,h2,h3,z,hz,by rw [e1];exact h5,by rw [e3];exact h6,by rw [e2];exact FreeC.frameL r (fun k hk=>hf k (by simp [hk])) h7⟩
theorem pw_noL {V V':Vw} {j:Int} (h:(V' j).map noL=(V j).map noL):pw V' j=pw V j:=by
 cases hv:V j with
 |none=>
  rw [hv] at h;have:V' j=none:=by simpa using h
  rw [pw,pw,hv,this]
 |some x=>
  obtain ⟨z,hz,e⟩:=map_noL h hv;rw [pw_some hv,pw_some hz,(noL_eq e).2.2.2]
theorem HoldsA.laid {b b':Bt} {K:Nat} {kv:Ens} (h:HoldsA B b K kv) (hi:IdsOk b'.view) (hv: ∀id,0≤id→id<256→(b'.view id).map noL=(b.view id).map noL):HoldsA B b' K kv:=by
 obtain ⟨n,av,fl,ids,h⟩:=h;have hids: ∀j∈ids,(b'.view j).map noL=(b.view j).map noL:=fun j hj=>by have:=h.g.rgi hj;exact hv j this.1 this.2.1
 have hback: ∀j∈ids,∀x,b'.view j=some x→ ∃y,b.view j=some y∧y.ents=x.ents∧y.level=x.level:=fun j hj x hx=>by
  obtain ⟨y,hy,e⟩:=map_noL (hids j hj).symm hx;exact ⟨y,hy,(noL_eq e).2.2.2,(noL_eq e).2.1⟩
 have h0:(0:Int)∈ids:=by obtain ⟨x,js,_,_,_,e⟩:=h.id0;rw [e];simp
 refine ⟨n,av,fl,ids,⟨⟨?_,hi,h.g.nd,h.g.rg,h.g.a1⟩,SubT.frameL n hids h.s, ?_,h.c, ?_, ?_⟩⟩
 ·obtain ⟨u,f,fr,⟨⟨x,hx,he⟩,c,u1,u2⟩,hav⟩:=h.g.m;obtain ⟨y,hy,e⟩:=map_noL (hv 1 (by omega) (by omega)) hx;exact ⟨u,f,fr,⟨⟨y,hy,by rw [(noL_eq e).2.2.2];exact he⟩,c.frameL fr (fun j hj=>by have:=(FreeC.rg fr c).1 j hj;exact hv j (by omega) this.2),u1,u2⟩,hav⟩
 ·intro j hj hne x hx hl2;obtain ⟨y,hy,e,e2⟩:=hback j hj x hx;rw [←e];exact h.o j hj hne y hy (by omega)
 ·intro x hx hn;obtain ⟨y,hy,e,_⟩:=hback 0 h0 x hx;rw [←e];exact h.r y hy hn
 intro x hx;obtain ⟨y,hy,e,_⟩:=hback 0 h0 x hx;have h1:=h.w y hy;have h2:wt b'.view ids.tail=wt b.view ids.tail:=by
  have: ∀l:List Int,(∀j∈l,j∈ids)→wt b'.view l=wt b.view l:=by
   intro l;induction l with
   |nil=>intro _;rfl
   |cons j l ih=>intro hl;rw [wt_cons,wt_cons,ih (fun k hk=>hl k (by simp [hk])),pw_noL (hids j (hl j (by simp)))]
  exact this _ (fun j hj=>List.mem_of_mem_tail hj)
 rw [h2,←e];exact h1
def PHoldsA (B:Nat) (P:Pl) (n:Int) (K:Nat) (kv:Ens):Prop:=PlOk P n∧HoldsA B (newBt P) K kv
theorem laid_holdsA {P:Pl} {n:Int} {b:Bt} {K:Nat} {kv:Ens} {k:Nat} (hP:PlOk P n) (h1:1≤n) (hr:Runs (newBt P) b k) (hk:n+k≤1099511627777) (hb:HoldsA B b K kv) :
  b.recs.length≤k∧ ∃P',laidP P b.recs n=some (P',n+b.recs.length)∧PHoldsA B P' (n+b.recs.length) K kv:=by
 obtain ⟨rs,r1,r2,r3⟩:=hr;have e0:(newBt P).recs.length=0:=rfl;obtain ⟨⟨P',l1,l2,l3⟩,e1⟩:=LInv.all h1 rs (LInv.new hP) (AllOk.new hP) (by rw [e0];omega) r2 r3;refine ⟨by omega,P',l1,l2,hb.laid (IdsOk.new l2) (fun id i1 i2=> ?_)⟩;rw [newBt_view i1 i2];exact l3 id i1 i2
theorem upTo_nodup (u:Nat):(upTo u).Nodup:=by unfold upTo;refine List.Pairwise.map _ (fun a b h=> ?_) (List.nodup_range' (step:=1) (by omega));simp only [ne_eq] at h ⊢;omega
theorem upTo_len (u:Nat):(upTo u).length=256 - u:=by simp [upTo]
theorem E0_holdsA:PHoldsA B E0 4 0 []:=by
 refine ⟨E0_ok,0,upTo 2,0, [0],⟨⟨?_,IdsOk.new E0_ok, ?_, ?_, ?_⟩, ?_, ?_,by rw [upTo_len];rfl, ?_, ?_⟩⟩
 ·obtain ⟨x,h1,h2⟩:=E0_1;exact ⟨2,0, [],⟨⟨x,by rw [newBt_view (by omega) (by omega)];exact h1,h2⟩,rfl,by omega,by omega⟩,rfl, .inr rfl⟩
 ·refine List.nodup_cons.2 ⟨?_,upTo_nodup 2⟩;show (0:Int) ∉ upTo 2;rw [mem_upTo];omega
 ·intro j hj;rcases List.mem_cons.1 hj with e|e
  ·omega
  have:j∈upTo 2:=e;rw [mem_upTo] at this;omega
 ·intro j hj;rw [mem_upTo] at hj;omega
 ·obtain ⟨x,h1,h2,h3,h4⟩:=E0_0;exact ⟨rfl,rfl,x,by rw [newBt_view (by omega) (by omega)];exact h1,h2,h3,h4,by simp,by simp [Sorted],by simp⟩
 ·intro j hj hne;simp at hj;exact absurd hj hne
 ·intro x _ h;omega
 intro x hx;obtain ⟨y,h1,_,_,h4⟩:=E0_0;rw [newBt_view (by omega) (by omega),h1] at hx;injection hx with hx;subst hx
 simp [h4,wt]
open Go Go.Proofs
set_option maxRecDepth 20000
set_option maxHeartbeats 8000000
def FreeW (b:Bt):Int→List Int→Prop
 |f, []=>f=0
 |f,j::r=>f=j∧1<j∧j<256∧ ∃y,b.page j= .ok y∧y.level=0∧y.ents= []∧FreeW b (max y.next 0) r
theorem FreeW.cons {b:Bt} {f:Int} {l:List Int} (h:FreeW b f l) (hf:0<f): ∃r y,l=f::r∧1<f∧f<256∧b.page f= .ok y∧y.level=0∧y.ents= []∧FreeW b (max y.next 0) r:=by
 cases l with
 |nil=>have:f=0:=h;omega
 |cons j r=>
  obtain ⟨rfl,h1,h2,y,h3,h4,h5,h6⟩:=h;exact ⟨r,y,rfl,h1,h2,h3,h4,h5,h6⟩
variable {B:Nat}
theorem FreeC.toW {b:Bt}: ∀(fr:List Int) {f:Int},FreeC b.view f fr→FreeW b f fr
 | [],_,h=>h
 |j::r,_,⟨h1,h2,h3,y,h4,h5,h6,h7⟩=>⟨h1,h2,h3,y,page_of_view h4,h5,h6,FreeC.toW r h7⟩
variable {B:Nat}
def mulS:Nat→Nat
 |0=>1
 |1=>3
 |2=>7
 |3=>11
 |_=>13
def invS:Nat→Nat
 |0=>1
 |1=>141
 |2=>181
 |3=>96
 |_=>65
theorem mulS_inv: ∀s,s<5→ ∀j,j<211→(j*mulS s % 211)*invS s % 211=j:=by decide+kernel
theorem mulS_inj {s i j:Nat} (hs:s<5) (hi:i<211) (hj:j<211) (h:i*mulS s % 211=j*mulS s % 211):i=j:=by rw [←mulS_inv s hs i hi,h,mulS_inv s hs j hj]
theorem mulS_pos {s i:Nat} (hs:s<5) (h1:1≤i) (hi:i<211):1≤i*mulS s % 211:=by
 rcases Nat.eq_zero_or_pos (i*mulS s % 211) with h|h
 ·have:=mulS_inv s hs i hi;rw [h] at this;omega
 exact h
def keyR (s i:Nat):Bs:= [i*mulS s % 211,1]
theorem insKv_new_len {k v:Bs}: ∀l:Ens,(∀e∈l,e.1≠k)→(insKv l k v).length=l.length+1
 | [],_=>rfl
 |a::r,h=>by
  rw [insKv];split
  ·rw [List.length_cons,insKv_new_len r (fun e he=>h e (by simp [he])),List.length_cons]
  rw [if_neg (h a (by simp))];rfl
def PutR (s i:Nat) (kv:Ens):Prop:=kv.length+1=i∧ ∀e∈kv,∃j,1≤j∧j<i∧e.1=keyR s j
theorem PutR.start (s:Nat):PutR s 1 []:=⟨rfl,by simp⟩
theorem PutR.step {s i:Nat} {kv:Ens} {v:Bs} (hs:s<5) (hi:i<211) (h:PutR s i kv):PutR s (i+1) (insKv kv (keyR s i) v):=by
 have hne: ∀e∈kv,e.1≠keyR s i:=by
  intro e he h0;obtain ⟨j,h1,h2,h3⟩:=h.2 e he;rw [h3] at h0;have:j*mulS s % 211=i*mulS s % 211:=by simpa [keyR] using h0
  have:=mulS_inj hs (by omega) hi this;omega
 refine ⟨by rw [insKv_new_len kv hne];have:=h.1;omega,fun e he=> ?_⟩;rcases insKv_mem kv he with q|q
 ·subst q;exact ⟨i,by have:=h.1;omega,by omega,rfl⟩
 obtain ⟨j,h1,h2,h3⟩:=h.2 e q;exact ⟨j,h1,by omega,h3⟩
def DelR (s n i gone:Nat) (kv:Ens):Prop:=gone+kv.length=n∧ ∀e∈kv,∃q,1≤q∧q≤210∧e.1= [q,1]∧ ∀j,1≤j→j<i→q≠j*mulS s % 211
theorem DelR.start {s s' n:Nat} {kv:Ens} (hs:s'<5) (hn:n≤200) (h:PutR s' (n+1) kv):DelR s n 1 0 kv:=by refine ⟨by have:=h.1;omega,fun e he=> ?_⟩;obtain ⟨j,h1,h2,h3⟩:=h.2 e he;exact ⟨j*mulS s' % 211,mulS_pos hs h1 (by omega),by have:=Nat.mod_lt (j*mulS s') (show 0<211 by decide);omega,h3,fun q h4 h5=>by omega⟩
theorem lookKv_some {kv:Ens} {k:Bs} (hs:Sorted kv) (h:(lookKv kv k).isSome=true):(delKv kv k).length+1=kv.length:=by
 rw [←lookKv_find] at h;have hf:(findP kv k).2=true:=by
  cases hq:(findP kv k).2 with
  |true=>rfl
  |false=>rw [hq] at h;simp at h
 have hlt:=findP_lt hf;rw [←delKv_found kv hs hf,List.length_eraseIdx,if_pos hlt];omega
theorem lookKv_not {kv:Ens} {k:Bs} (hs:Sorted kv) (h:(lookKv kv k).isSome=false):delKv kv k=kv:=by
 rw [←lookKv_find] at h;refine delKv_none hs ?_;cases hq:(findP kv k).2 with
 |true=>rw [hq] at h;simp at h
 |false=>rfl
theorem DelR.step {s n i gone:Nat} {kv:Ens} (hso:Sorted kv) (h:DelR s n i gone kv):DelR s n (i+1) (if (lookKv kv (keyR s i)).isSome=true then gone+1 else gone) (delKv kv (keyR s i)):=by
 refine ⟨?_,fun e he=> ?_⟩
 ·have h0:=h.1;split
  ·rename_i hc;have:=lookKv_some hso hc;omega
  rename_i hc;rw [lookKv_not hso (by simpa using hc)];exact h0
 have hm:=List.mem_filter.1 he;obtain ⟨q,h1,h2,h3,h4⟩:=h.2 e hm.1;refine ⟨q,h1,h2,h3,fun j h5 h6=> ?_⟩;by_cases hj:j=i
 ·subst hj;intro h7;have:e.1≠keyR s j:=by simpa using hm.2
  exact this (by rw [h3,h7];rfl)
 exact h4 j h5 (by omega)
def cb (C:Int→Option Pg) (b:Bt):Bt:={b with pool:=C}
def KB (C:Int→Option Pg) (b:Bt) {α:Type} (co:α→α) (r:Res α) (y:α):Prop:=r= .ok (co y)∨ ∃j,r= .fail 113 (some j)∧Lacks C b.pool j
theorem KB.pool {C:Int→Option Pg} {b b1:Bt} {α:Type} {co:α→α} {r:Res α} {y:α} (h:KB C b1 co r y) (e:b1.pool=b.pool):KB C b co r y:=by unfold KB at*;rwa [e] at h
def cp {α:Type} (C:Int→Option Pg) (p:α×Bt):α×Bt:=(p.1,cb C p.2)
def cq {α:Type} (C:Int→Option Pg) (p:Bt×α):Bt×α:=(cb C p.1,p.2)
theorem look_isSome (kv:Ens) (k:Bs):(lookKv kv k).isSome=(findP kv k).2:=by rw [←lookKv_find];cases h:(findP kv k).2<;>simp
structure Plays (P:Pl) (b:Bt) (n:Int) (i:Nat) (kv:Ens):Prop where
 ok:PlOk P n
 run: ∃c,Runs (newBt P) b c∧n+(c:Nat)≤4+601*(i:Nat)
 h:HoldsA 39 b (4+i) kv
 n0:4≤n
 len:kv.length≤i
theorem Plays.start:Plays E0 (newBt E0) 4 0 []:=⟨E0_ok,⟨0,Runs.refl _ _,by omega⟩,E0_holdsA.2.mono (by omega),by omega,by simp⟩
theorem Plays.all {P:Pl} {b:Bt} {n:Int} {i:Nat} {kv:Ens} (h:Plays P b n i kv):AllOk b:=by obtain ⟨c,h1,_⟩:=h.run;exact h1.ok (AllOk.new h.ok)
theorem Plays.recs {P:Pl} {b:Bt} {n:Int} {i:Nat} {kv:Ens} (h:Plays P b n i kv):(b.recs.length:Int)≤601*(i:Nat)∧b.pool=P.f:=by obtain ⟨c,h1,h2⟩:=h.run;have h3:=Runs.len h1;have e0:(newBt P).recs.length=0:=rfl;have:=h.n0;exact ⟨by omega,h3.2⟩
theorem Plays.sorted {P:Pl} {b:Bt} {n:Int} {i:Nat} {kv:Ens} (h:Plays P b n i kv):Sorted kv:=h.h.sorted
theorem Plays.put {P:Pl} {b:Bt} {n:Int} {i:Nat} {kv:Ens} {k v:Bs} (h:Plays P b n i kv) (hi:i≤700) (hk:rightK k=true) (hv:v.length≤64) :
  ∃b',b.put k v= .ok b'∧Plays P b' n (i+1) (insKv kv k v):=by
 obtain ⟨b',h1,h2⟩:=h.h.put (by omega) hk hv;obtain ⟨c,h3,h4⟩:=h.run;refine ⟨b',h1,h.ok,⟨c+601,h3.trans (put_runs h.all h1) (by omega),by omega⟩,h2.mono (by omega),h.n0, ?_⟩;have:=(insKv_len (k:=k) (v:=v) kv).2;have:=h.len;omega
theorem Plays.del {P:Pl} {b:Bt} {n:Int} {i:Nat} {kv:Ens} {k:Bs} (h:Plays P b n i kv) (hi:i≤100) (hk:rightK k=true) :
  ∃b',b.delete k= .ok ((findP kv k).2,b')∧Plays P b' n (i+1) (delKv kv k):=by
 obtain ⟨b',h1,h2,h3⟩:=h.h.delete h.all hk (by omega);obtain ⟨c,h4,h5⟩:=h.run;rw [look_isSome] at h1;refine ⟨b',h1,h.ok,⟨c+27,h4.trans h2 (by omega),by omega⟩,h3.mono (by omega),h.n0, ?_⟩;have:=delKv_len kv k;have:=h.len;omega
theorem Plays.laid {P:Pl} {b:Bt} {n:Int} {i:Nat} {kv:Ens} (h:Plays P b n i kv) (hi:i≤100000) :
  ∃P',laidP P b.recs n=some (P',n+b.recs.length)∧Plays P' (newBt P') (n+b.recs.length) (i+1) kv∧PHoldsA 39 P' (n+b.recs.length) (4+i) kv:=by
 obtain ⟨c,h1,h2⟩:=h.run;have h0:=h.n0;obtain ⟨h3,P',h4,h5⟩:=laid_holdsA h.ok (by omega) h1 (by omega) h.h;refine ⟨P',h4,⟨h5.1,⟨0,Runs.refl _ _,by omega⟩,h5.2.mono (by omega),by omega,by have:=h.len;omega⟩,h5⟩
theorem FreeC.has {V:Vw}: ∀(fr:List Int) {f:Int},FreeC V f fr→ ∀j∈fr,1<j∧j<256∧(V j).isSome=true
 | [],_,_,j,hj=>by simp at hj
 |k::r,_,⟨h1,h2,h3,y,h4,h5,h6,h7⟩,j,hj=>by
  rcases List.mem_cons.1 hj with rfl|hj
  ·exact ⟨h2,h3,by rw [h4];rfl⟩
  exact FreeC.has r h7 j hj
theorem BPut_cold {w0 w:World} {D:Sto} {ss:List Seg} {sb sp:Seg} {vb vp:Value} {b b':Bt} {P:Pl} {S:List Int} (hI:Inv w0 D (sb::sp::ss) w) {ad:Nat→Addr} (hS:TSents D ad) (hB:BatchS D vb vp b sb) (hP:PoolS D vp P sp) (hpool:b.pool=P.f) {vk vv:Value} {key val:Bs} (hk:RB D vk key) (hv:RB D vv val) (hlen:b.recs.length≤1000000000 - 8000)
  (hok:b.put key val= .ok b'∨ ∃j,b.put key val= .fail 113 (some j)∧P.f j=none∧j∈S) :
  Calls Tryz.prog 21 #[vb,vk,vv] w (Ret fun r w'=>(r= .nilIface∧ ∃D' sb' sp',Le D D'∧BatchS D' vb vp b' sb'∧PoolS D' vp P sp'∧Inv w0 D' (sb'::sp'::ss) w')∨
   ∃j D' sb' sp',P.f j=none∧j∈S∧r=errV ad 113∧Le D D'∧BatchS D' vb vp b sb'∧PoolS D' vp (P.want j) sp'∧Inv w0 D' (sb'::sp'::ss) w'):=by
 refine (BPut_spec hI.merge hS (TreeS.join hB hP hpool) hk hv hlen).mono fun e w' h=> ?_;obtain ⟨r,he,h⟩:=h;refine ⟨r,he, ?_⟩;rcases h with ⟨b1,h1,rfl,D',s',hD,hT,hI'⟩|⟨c',o,h1,rfl,D',s',hD,hT,hI'⟩
 ·rcases hok with hok|⟨j,hok,_⟩
  ·rw [hok] at h1;injection h1 with h1;subst h1
   obtain ⟨sb',sp',rfl,hB',hP',_⟩:=hT;exact .inl ⟨rfl,D',sb',sp',hD,hB',hP',hI'.parted⟩
  rw [hok] at h1;cases h1
 rcases hok with hok|⟨j,hok,h2,h3⟩
 ·rw [hok] at h1;cases h1
 rw [hok] at h1;injection h1 with h1 h4;subst h1;subst h4
 obtain ⟨sb',sp',rfl,hB',hP',_⟩:=hT;exact .inr ⟨j,D',sb',sp',h2,h3,rfl,hD,hB',hP',hI'.parted⟩
theorem BatchS.over {D:Sto} {vb vp:Value} {b:Bt} {s:Seg} (h:BatchS D vb vp b s) (f:Int→Option Pg):BatchS D vb vp (cb f b) s:=h
theorem note_spec {w0 w:World} {D:Sto} {ss:List Seg} {sb sp:Seg} {vb vp:Value} {b b':Bt} {P:Pl} {S:List Int} (hI:Inv w0 D (sb::sp::ss) w) {ad:Nat→Addr} (hS:TSents D ad) (hB:BatchS D vb vp b sb) (hP:PoolS D vp P sp) (hpool:b.pool=P.f) {e:Ent} {ku vu vd:Value} (hku:RB D ku e.key) (hvu:RB D vu e.value) (hok:e.Ok) (hkr:1≤e.tx∧e.tx≤2251799813685248∧0≤e.n∧e.n<12) (hvl:e.value.length≤100000) (hlen:b.recs.length≤1000000000 - 8000) (hput:b.put (keyL e.tx e.n) e.enc= .ok b'∨ ∃j,b.put (keyL e.tx e.n) e.enc= .fail 113 (some j)∧P.f j=none∧j∈S) :
  Calls Tryz.prog 156 #[vd,vb, .agg #[.int .i64 e.tx, .int .i64 e.n,ku, .bool e.had,vu]] w (Ret fun r w'=>(r= .nilIface∧ ∃D' sb' sp',Le D D'∧BatchS D' vb vp b' sb'∧PoolS D' vp P sp'∧Inv w0 D' (sb'::sp'::ss) w')∨(∃j D' sb' sp',P.f j=none∧j∈S∧r=errV ad 113∧Le D D'∧BatchS D' vb vp b sb'∧PoolS D' vp (P.want j) sp'∧Inv w0 D' (sb'::sp'::ss) w')):=by
 obtain ⟨bbn,hbb⟩:=BatchS.ptr hB;subst hbb;obtain ⟨A1,c2,rfl,_⟩:=hku.slice;obtain ⟨A3,c4,rfl,_⟩:=hvu.slice;refine enter (N:=33) Tryz.func156 rfl rfl rfl ?_;intro a hE;refine wsr ?_;refine l_step rfl (f_box (cs:= #[_,_,_,_,_]) hE hI rfl rfl rfl rfl rfl ?_);clear hI hE a w;intro a b5 w hE hI;refine go 7 hE hI ?_;clear hE a;intro a hE;refine l_step rfl (o_call hE rfl rfl rfl rfl ent_19 (Key_spec hI hS.g105 _ _) ?_);clear hI hE a;rintro r w h a hE;rcases h with ⟨v6,D7,hr8,rfl,hD9,hI,hb10⟩|⟨hr8,rfl,hI⟩
 ·obtain ⟨A11,c12,rfl,_⟩:=hb10.slice;refine go 16 hE hI ?_;clear hE a;intro a hE;refine l_step rfl (o_call hE rfl rfl rfl rfl ent_20 (UBytes_spec hI (hS.mono hD9).g105 _ _ _ (hku.mono hD9) (hvu.mono hD9) (by omega)) ?_);clear hI hE a;rintro r w ⟨D13,hD14,h⟩ a hE;rcases h with ⟨v15,s16,hok9,rfl,hI,hO17⟩|⟨hok9,rfl,hI⟩
  case inr=>exact absurd hok hok9
  obtain ⟨D18,hD19,hIa,hb20⟩:=OB.data ⟨_,hO17,hI⟩ (enc_lt (hku.mono hD9).lt (hvu.mono hD9).lt);replace hI:=hIa;clear hIa;replace hb20:RB D18 _ e.enc:=hb20;obtain ⟨A21,c22,rfl,_⟩:=hb20.slice;refine go 18 hE hI ?_;clear hE a;intro a hE;replace hI:=hI.bring 2;replace hI:=hI.bring 2;refine l_step rfl (o_call hE rfl rfl rfl rfl ent_21 (BPut_cold hI (hS.mono ((hD9.trans hD14).trans hD19)) (hB.mono ((hD9.trans hD14).trans hD19)) (hP.mono ((hD9.trans hD14).trans hD19)) hpool (hb10.mono (hD14.trans hD19)) hb20 hlen hput) ?_);clear hI hE a;rintro r w h a hE;rcases h with ⟨rfl,D23,sb24,sp25,hD26,hB27,hP28,hI⟩|⟨j9,D23,sb24,sp25,hj1,hj2,rfl,hD26,hB27,hP28,hI⟩
  ·refine go 3 hE hI ?_;clear hE a;intro a hE;refine ret1 rfl hE rfl ?_;replace hI:=hI.erase 2;exact .inl ⟨rfl,D23,_,_,(((hD9.trans hD14).trans hD19).trans hD26),hB27,hP28,hI⟩
  refine go 3 hE hI ?_;clear hE a;intro a hE;refine ret1 rfl hE rfl ?_;replace hI:=hI.erase 2;exact .inr ⟨j9,D23,_,_,hj1,hj2,rfl,(((hD9.trans hD14).trans hD19).trans hD26),hB27,hP28,hI⟩
 exfalso;exact hr8 hkr
theorem plan_spec {w0 w:World} {D:Sto} {ss:List Seg} {s sb sp:Seg} {vd vb vp:Value} {fd:FuncId} {us:Array Value} {d:Db} {b:Bt} {P:Pl} (hI:Inv w0 D (s::sb::sp::ss) w) {ad:Nat→Addr} (hS:TSents D ad) (hd:DbS D vd vp d s) (hdb:DbOk d) (hB:BatchS D vb vp b sb) (hP:PoolS D vp P sp) (hpool:b.pool=P.f) (hlen:b.recs.length≤1000000000) :
  Calls Tryz.prog 157 #[vd,vb, .func (.func fd) #[] us] w (Ret fun r w'=> ∃D' vr s' sb' sp',Le D D'∧r= .agg #[vr, .int .i64 (d.seq+1), .func (.func fd) #[] us]∧DR 10 RcR D' vr b.recs∧DbS D' vd vp {d with seq:=d.seq+1} s'∧BatchS D' vb vp b sb'∧PoolS D' vp P sp'∧Inv w0 D' (s'::sb'::sp'::ss) w'):=by
 obtain ⟨bbn,hbb⟩:=BatchS.ptr hB;subst hbb;obtain ⟨bd,bl,esl,clkl,os,rfl,rfl,hml,hos⟩:=hd;obtain ⟨e0,e1,b0,b1,s0,s1,hids,hlen⟩:=hdb;replace hI:=hI.open_db;refine enter (N:=26) Tryz.func157 rfl rfl rfl ?_;intro a hE;refine wsr ?_;refine l_step rfl (f_alloc (cs:= #[.slice none 0 0, .int .i64 0, .nilFunc]) hE hI rfl rfl rfl zer_93 rfl ?_);clear hI hE a w;intro a b1 w hE hI;refine go 3 hE hI ?_;clear hE a;intro a hE;refine zs hE (p_nilCheck rfl) ?_;clear hE a;intro a hE;refine go 2 hE hI ?_;clear hE a;intro a hE;refine zs hE (p_arith (z:=d.seq+1) rfl rfl (add_z rfl (by omega) (by omega))) ?_;clear hE a;intro a hE;refine zs hE (p_nilCheck rfl) ?_;clear hE a;intro a hE;refine zs hE (p_fieldAddr (m:=4) rfl fo_175_4 rfl) ?_;clear hE a;intro a hE;refine l_step rfl (f_store (l:= [_,_,_,_,_]) (ss':=_::_::_) 1 hE hI rfl rfl rfl rfl rfl sz_3 (by simp [Value.cells,Value.oneCell',pgCells,rcCells,zPg,errV,zUe]) rfl rfl rfl ?_);clear hI w;intro w hI;refine go 7 hE hI ?_;clear hE a;intro a hE;refine zs hE (p_eq rfl rfl (g_none rfl) (e_ptrNil Tryz.underlying31 rfl) rfl rfl) ?_;clear hE a;intro a hE;refine go 4 hE hI ?_;clear hE a;intro a hE;replace hI:=hI.bring 5;replace hI:=hI.bring 5;refine l_step rfl (o_call hE rfl rfl rfl rfl ent_24 (Redo_ok hI hS hB hP hpool (by omega)) ?_);clear hI hE a;rintro r w ⟨D2,sb3,sp4,hD5,hL6,hB7,hP8,hI⟩ a hE;obtain ⟨A9,c10,rfl,_⟩:=hL6.slice;refine go 5 hE hI ?_;clear hE a;intro a hE;refine zs hE (p_nilCheck rfl) ?_;clear hE a;intro a hE;refine go 3 hE hI ?_;clear hE a;intro a hE;refine zs hE (f_build (vs:= [(0,_),(1,_),(2,_)]) (l:= [_,_,_]) rfl built_93 rfl) ?_;clear hE a;intro a hE;refine l_step rfl (f_store (l:= [_,_,_]) (ss':=_::_::_::_) 2 hE hI rfl rfl rfl rfl rfl sz_93 (by simp [Value.cells,Value.oneCell',pgCells,rcCells,zPg,errV,zUe]) rfl rfl rfl ?_);clear hI w;intro w hI;refine gc 2 hE ?_;refine retc1 rfl hE rfl agg_93 (hI.seg 2 rfl) rfl ?_;replace hI:=hI.erase 2;replace hI:=hI.bring 1;replace hI:=hI.bring 1;replace hI:=hI.bring 4;replace hI:=hI.bring 4;replace hI:=hI.bring 4;exact ⟨D2,_,_,_,_,hD5,rfl,hL6,⟨bd,bl,_,_,os,rfl,rfl,hml,hos.mono hD5⟩,hB7,hP8,hI.shut_db⟩
end Go.Proofs.YtkknmpkcfpdllaaGreatDoor.B
