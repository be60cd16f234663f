/- What functions of the program compute, each function once: steps over the model, and the plain law of it. -/
import Derived.Test.YtkknmpkcfpdllaaDoorTCheckP
import Derived.Test.YtkknmpkcfpdllaaDoorTCheckC
import Derived.Test.YtkknmpkcfpdllaaDoorTCheckA
import Derived.Test.YtkknmpkcfpdllaaDoorTTreeLaid
import Derived.Test.YtkknmpkcfpdllaaDoorTDRoom
import Derived.Test.YtkknmpkcfpdllaaDoorTTreeChain
import Derived.Test.YtkknmpkcfpdllaaDoorTFacts
namespace Go.Proofs.YtkknmpkcfpdllaaDoor.B
open Go Go.Proofs
set_option linter.unusedVariables false
set_option linter.unusedSimpArgs false
theorem FreeC.toW {b:Bt}: ∀(fr:List Int) {f:Int},FreeC b.view f fr→FreeW b f fr
 | [],_,h=>h
 |j::r,_,⟨h1,h2,h3,y,h4,h5,h6,h7⟩=>⟨h1,h2,h3,y,page_of_view h4,h5,h6,FreeC.toW r h7⟩
theorem check_okA {b:Bt} {K:Nat} {kv:Ens} (h:HoldsA b K kv): ∃px n,b.page 0= .ok px∧px.level=(n:Nat)∧n≤5∧ ∀f,n+1≤f→ ∃c,b.walkF f 0 px.level [] none ⟨[1], [],0⟩= .ok c∧chainOk c.leaves=true∧c.keys=(kv.length:Nat)∧
  ∃y v u ff fr,b.page 1= .ok y∧y.ents= [([110],v)]∧b.pages= .ok (u,ff)∧2≤u∧u≤256∧(c.seen.length:Int)+(fr.length:Nat)=u∧(∀i∈c.seen,i<u)∧FreeW b ff fr∧(∀j∈fr,j ∉ c.seen)∧fr.Nodup∧ ∀j∈fr,j<u:=by
 obtain ⟨n,av,fl,ids,h⟩:=h;have hn5:=h.lvl;obtain ⟨x,js,hx,hlv,_,hids⟩:=h.s.page;have hfr: ∀j∈ids,j ∉ ([1]:List Int):=fun j hj hm=>(h.g.rgi hj).2.2 (by simpa using hm);refine ⟨x,n,page_of_view hx,hlv,hn5,fun f hf=> ?_⟩;obtain ⟨S,L,a1,a2,a3⟩:=walk_sub n f ⟨[1], [],0⟩ hf h.g.i h.s h.g.ids hfr;obtain ⟨u,ff,fr,hA,hav⟩:=h.g.m;have hu1:=hA.u1;have hu2:=hA.u2;have hpg:=hA.pages;obtain ⟨y,hy,hye⟩:=hA.m;have hfrr:=(FreeC.rg fr hA.c).1;have havn:=h.g.avs;rw [hav] at havn;have havn2:=List.nodup_append.1 havn;have hup: ∀j:Int,j ∉ upTo u→j<256→j<u:=fun j h1 h2=>by
  rcases Int.lt_or_le j u with q|q
  ·exact q
  exact absurd (mem_upTo.2 ⟨q,h2⟩) h1
 have hseen: ∀j∈S++ [1],j=1∨j∈ids:=fun j hj=>by
  rcases List.mem_append.1 hj with q|q
  ·exact .inr (a2.mem_iff.1 q)
  simp only [List.mem_cons,List.not_mem_nil,or_false] at q;exact .inl q
 refine ⟨_,by rw [hlv];exact a1,LC.chain _ a3,by simp,y,_,u,ff,fr,page_of_view hy,hye,hpg,by omega,by omega, ?_, ?_,hA.c.toW fr, ?_,havn2.1, ?_⟩
 ·have hc:=h.c;have h1:=a2.length_eq;rw [hav,List.length_append,upTo_len] at hc;simp only [List.length_append,List.length_cons,List.length_nil];omega
 ·intro i hi;rcases hseen i hi with q|q
  ·omega
  exact hup i (fun e=>h.g.dis q (by rw [hav];simp [e])) (h.g.rgi q).2.1
 ·intro j hj hm;rcases hseen j hm with q|q
  ·have:=hfrr j hj;omega
  exact h.g.dis q (by rw [hav];simp [hj])
 intro j hj;exact hup j (fun e=>havn2.2.2 j hj j e rfl) (hfrr j hj).2
def mulS:Nat→Nat
 |0=>1
 |1=>3
 |2=>7
 |3=>11
 |_=>13
def invS:Nat→Nat
 |0=>1
 |1=>141
 |2=>181
 |3=>96
 |_=>65
theorem mulS_inv: ∀s,s<5→ ∀j,j<211→(j*mulS s % 211)*invS s % 211=j:=by decide+kernel
theorem invS_mul: ∀s,s<5→ ∀q,q<211→(q*invS s % 211)*mulS s % 211=q:=by decide+kernel
theorem mulS_inj {s i j:Nat} (hs:s<5) (hi:i<211) (hj:j<211) (h:i*mulS s % 211=j*mulS s % 211):i=j:=by rw [←mulS_inv s hs i hi,h,mulS_inv s hs j hj]
theorem mulS_pos {s i:Nat} (hs:s<5) (h1:1≤i) (hi:i<211):1≤i*mulS s % 211:=by
 rcases Nat.eq_zero_or_pos (i*mulS s % 211) with h|h
 ·have:=mulS_inv s hs i hi;rw [h] at this;omega
 exact h
def keyR (s i:Nat):Bs:= [i*mulS s % 211,1]
theorem insKv_new_len {k v:Bs}: ∀l:Ens,(∀e∈l,e.1≠k)→(insKv l k v).length=l.length+1
 | [],_=>rfl
 |a::r,h=>by
  rw [insKv];split
  ·rw [List.length_cons,insKv_new_len r (fun e he=>h e (by simp [he])),List.length_cons]
  rw [if_neg (h a (by simp))];rfl
def PutR (s i:Nat) (kv:Ens):Prop:=kv.length+1=i∧ ∀e∈kv,∃j,1≤j∧j<i∧e.1=keyR s j
theorem PutR.start (s:Nat):PutR s 1 []:=⟨rfl,by simp⟩
theorem PutR.step {s i:Nat} {kv:Ens} {v:Bs} (hs:s<5) (hi:i<211) (h:PutR s i kv):PutR s (i+1) (insKv kv (keyR s i) v):=by
 have hne: ∀e∈kv,e.1≠keyR s i:=by
  intro e he h0;obtain ⟨j,h1,h2,h3⟩:=h.2 e he;rw [h3] at h0;have:j*mulS s % 211=i*mulS s % 211:=by simpa [keyR] using h0
  have:=mulS_inj hs (by omega) hi this;omega
 refine ⟨by rw [insKv_new_len kv hne];have:=h.1;omega,fun e he=> ?_⟩;rcases insKv_mem kv he with q|q
 ·subst q;exact ⟨i,by have:=h.1;omega,by omega,rfl⟩
 obtain ⟨j,h1,h2,h3⟩:=h.2 e q;exact ⟨j,h1,by omega,h3⟩
def DelR (s n i gone:Nat) (kv:Ens):Prop:=gone+kv.length=n∧ ∀e∈kv,∃q,1≤q∧q≤210∧e.1= [q,1]∧ ∀j,1≤j→j<i→q≠j*mulS s % 211
theorem DelR.start {s s' n:Nat} {kv:Ens} (hs:s'<5) (hn:n≤200) (h:PutR s' (n+1) kv):DelR s n 1 0 kv:=by refine ⟨by have:=h.1;omega,fun e he=> ?_⟩;obtain ⟨j,h1,h2,h3⟩:=h.2 e he;exact ⟨j*mulS s' % 211,mulS_pos hs h1 (by omega),by have:=Nat.mod_lt (j*mulS s') (show 0<211 by decide);omega,h3,fun q h4 h5=>by omega⟩
theorem lookKv_some {kv:Ens} {k:Bs} (hs:Sorted kv) (h:(lookKv kv k).isSome=true):(delKv kv k).length+1=kv.length:=by
 rw [←lookKv_find] at h;have hf:(findP kv k).2=true:=by
  cases hq:(findP kv k).2 with
  |true=>rfl
  |false=>rw [hq] at h;simp at h
 have hlt:=findP_lt hf;rw [←delKv_found kv hs hf,List.length_eraseIdx,if_pos hlt];omega
theorem lookKv_not {kv:Ens} {k:Bs} (hs:Sorted kv) (h:(lookKv kv k).isSome=false):delKv kv k=kv:=by
 rw [←lookKv_find] at h;refine delKv_none hs ?_;cases hq:(findP kv k).2 with
 |true=>rw [hq] at h;simp at h
 |false=>rfl
theorem DelR.step {s n i gone:Nat} {kv:Ens} (hso:Sorted kv) (h:DelR s n i gone kv):DelR s n (i+1) (if (lookKv kv (keyR s i)).isSome=true then gone+1 else gone) (delKv kv (keyR s i)):=by
 refine ⟨?_,fun e he=> ?_⟩
 ·have h0:=h.1;split
  ·rename_i hc;have:=lookKv_some hso hc;omega
  rename_i hc;rw [lookKv_not hso (by simpa using hc)];exact h0
 have hm:=List.mem_filter.1 he;obtain ⟨q,h1,h2,h3,h4⟩:=h.2 e hm.1;refine ⟨q,h1,h2,h3,fun j h5 h6=> ?_⟩;by_cases hj:j=i
 ·subst hj;intro h7;have:e.1≠keyR s j:=by simpa using hm.2
  exact this (by rw [h3,h7];rfl)
 exact h4 j h5 (by omega)
theorem DelR.end_ {s n gone:Nat} {kv:Ens} (hs:s<5) (h:DelR s n 211 gone kv):gone=n∧kv= []:=by
 have hk:kv= []:=by
  cases kv with
  |nil=>rfl
  |cons e r=>
   exfalso;obtain ⟨q,h1,h2,h3,h4⟩:=h.2 e (by simp);have h5:=invS_mul s hs q (by omega);have hlt:=Nat.mod_lt (q*invS s) (show 0<211 by decide);refine h4 (q*invS s % 211) ?_ hlt h5.symm;rcases Nat.eq_zero_or_pos (q*invS s % 211) with h6|h6
   ·rw [h6] at h5;omega
   exact h6
 subst hk;exact ⟨by have:=h.1;simpa using this,rfl⟩
open Go
theorem all_len: ∀(rs:List Rc) {b b':Bt},b.all rs= .ok b'→b'.recs.length=b.recs.length+rs.length∧b'.pool=b.pool
 | [],b,b',h=>by rw [Bt.all] at h;injection h with h;subst h;exact ⟨rfl,rfl⟩
 |r::rs,b,b',h=>by
  rw [Bt.all] at h;split at h
  ·cases h
  rename_i b1 hb;have:=all_len rs h;rw [Bt.doR] at hb;split at hb
  ·cases hb
  injection hb with hb;subst hb
  simp only [List.length_append,List.length_cons,List.length_nil] at this ⊢;exact ⟨by omega,this.2⟩
theorem Runs.len {b b':Bt} {k:Nat} (h:Runs b b' k):b'.recs.length≤b.recs.length+k∧b'.pool=b.pool:=by obtain ⟨rs,h1,_,h3⟩:=h;have:=all_len rs h3;exact ⟨by omega,this.2⟩
theorem findP_run {k:Bs}: ∀(l:Ens) {j:Nat} {e:Bs×Bs},j<(findP l k).1→l[j]? =some e→ltB e.1 k=true
 | [],j,e,h,_=>by simp [findP] at h
 |x::r,j,e,h,he=>by
  rw [findP] at h;by_cases hx:ltB x.1 k=true
  ·rw [if_pos hx] at h;cases j with
   |zero=>
    obtain rfl:x=e:=by simpa using he
    exact hx
   |succ j=>
    have h':j<(findP r k).1:=by simp only at h;omega
    exact findP_run r h' (by simpa using he)
  rw [if_neg hx] at h;simp at h
theorem findP_stop {k:Bs}: ∀(l:Ens) {e:Bs×Bs},l[(findP l k).1]? =some e→ ¬ltB e.1 k=true∧((findP l k).2=true↔e.1=k)
 | [],e,h=>by simp [findP] at h
 |x::r,e,h=>by
  rw [findP] at h ⊢;by_cases hx:ltB x.1 k=true
  ·rw [if_pos hx] at h ⊢;exact findP_stop r (by simpa using h)
  rw [if_neg hx] at h ⊢;obtain rfl:x=e:=by simpa using h
  exact ⟨hx,by simp⟩
theorem findP_end {k:Bs}: ∀(l:Ens),l.length≤(findP l k).1→(findP l k).2=false
 | [],_=>rfl
 |x::r,h=>by
  rw [findP] at h ⊢;by_cases hx:ltB x.1 k=true
  ·rw [if_pos hx] at h ⊢;exact findP_end r (by simpa using h)
  rw [if_neg hx] at h;simp at h
theorem find_step {kv:Ens} {k:Bs} {j:Nat} {e:Bs×Bs} (hj:j≤(findP kv k).1) (he:kv[j]? =some e) (hl:ltB e.1 k=true):j+1≤(findP kv k).1:=by
 rcases Nat.lt_or_eq_of_le hj with h|h
 ·exact h
 exfalso;rw [h] at he;exact (findP_stop kv he).1 hl
theorem find_here {kv:Ens} {k:Bs} {j:Nat} {e:Bs×Bs} (hj:j≤(findP kv k).1) (he:kv[j]? =some e) (hl: ¬ltB e.1 k=true):j=(findP kv k).1∧((findP kv k).2=true↔e.1=k):=by
 have h:j=(findP kv k).1:=by
  rcases Nat.lt_or_eq_of_le hj with h|h
  ·exact absurd (findP_run kv h he) hl
  exact h
 exact ⟨h,(findP_stop kv (h▸he)).2⟩
theorem find_last {kv:Ens} {k:Bs} {j:Nat} (hj:j≤(findP kv k).1) (hl:kv.length≤j):j=(findP kv k).1∧(findP kv k).2=false:=by
 have h1:=findP_le kv k;have h:j=(findP kv k).1:=by omega
 exact ⟨h,findP_end kv (by omega)⟩
theorem EnR.one {D:Sto} {vs:List Value} {x:Bs×Bs} (h:EnR D vs x): ∀u∈vs,u.oneCell'=true:=by
 obtain ⟨k,v,rfl,hk,hv,_⟩:=h;intro u hu;simp only [List.mem_cons,List.not_mem_nil,or_false] at hu;rcases hu with rfl|rfl
 ·exact hk.one
 exact hv.one
def putL (l:Ens) (k v:Bs):Ens:=l.take (findP l k).1++ [(k,v)]++l.drop (if (findP l k).2=true then (findP l k).1+1 else (findP l k).1)
theorem putL_eq {k v:Bs}: ∀l:Ens,putL l k v=insKv l k v
 | []=>rfl
 |e::r=>by
  have ih:=putL_eq (k:=k) (v:=v) r;rw [putL,findP,insKv];by_cases h1:ltB e.1 k=true
  ·simp only [if_pos h1];rw [←ih,putL];split<;>simp
  simp only [if_neg h1];by_cases h2:e.1=k
  ·simp [h2]
  simp [h2]
theorem delL_eq {kv:Ens} {k:Bs} (hs:Sorted kv) (h:(findP kv k).2=true):kv.take (findP kv k).1++kv.drop ((findP kv k).1+1)=delKv kv k:=by rw [←delKv_found kv hs h,List.eraseIdx_eq_take_drop_succ]
theorem look_isSome (kv:Ens) (k:Bs):(lookKv kv k).isSome=(findP kv k).2:=by rw [←lookKv_find];cases h:(findP kv k).2<;>simp
theorem look_val {kv:Ens} {k:Bs} (h:(findP kv k).2=true):lookKv kv k=some (kv.getD (findP kv k).1 ([], [])).2:=by rw [←lookKv_find,h];rfl
theorem fromKv_first {kv:Ens} {k:Bs} (hs:Sorted kv):fromKv k false kv=kv[(findP kv k).1]? :=by rw [fromKv_at kv hs,fromK];simp
structure Plays (P:Pl) (b:Bt) (n:Int) (i:Nat) (kv:Ens):Prop where
 ok:PlOk P n
 run: ∃c,Runs (newBt P) b c∧n+(c:Nat)≤4+601*(i:Nat)
 h:HoldsA b (4+i) kv
 n0:4≤n
 len:kv.length≤i
theorem Plays.start:Plays E0 (newBt E0) 4 0 []:=⟨E0_ok,⟨0,Runs.refl _ _,by omega⟩,E0_holdsA.2.mono (by omega),by omega,by simp⟩
theorem Plays.all {P:Pl} {b:Bt} {n:Int} {i:Nat} {kv:Ens} (h:Plays P b n i kv):AllOk b:=by obtain ⟨c,h1,_⟩:=h.run;exact h1.ok (AllOk.new h.ok)
theorem Plays.recs {P:Pl} {b:Bt} {n:Int} {i:Nat} {kv:Ens} (h:Plays P b n i kv):(b.recs.length:Int)≤601*(i:Nat)∧b.pool=P.f:=by obtain ⟨c,h1,h2⟩:=h.run;have h3:=Runs.len h1;have e0:(newBt P).recs.length=0:=rfl;have:=h.n0;exact ⟨by omega,h3.2⟩
theorem Plays.sorted {P:Pl} {b:Bt} {n:Int} {i:Nat} {kv:Ens} (h:Plays P b n i kv):Sorted kv:=h.h.sorted
theorem Plays.idle {P:Pl} {b:Bt} {n:Int} {i:Nat} {kv:Ens} (h:Plays P b n i kv):Plays P b n (i+1) kv:=by obtain ⟨c,h1,h2⟩:=h.run;exact ⟨h.ok,⟨c,h1,by omega⟩,h.h.mono (by omega),h.n0,by have:=h.len;omega⟩
theorem Plays.put {P:Pl} {b:Bt} {n:Int} {i:Nat} {kv:Ens} {k v:Bs} (h:Plays P b n i kv) (hi:i≤700) (hk:rightK k=true) (hv:v.length≤64) :
  ∃b',b.put k v= .ok b'∧Plays P b' n (i+1) (insKv kv k v):=by
 obtain ⟨b',h1,h2⟩:=h.h.put (by omega) hk hv;obtain ⟨c,h3,h4⟩:=h.run;refine ⟨b',h1,h.ok,⟨c+601,h3.trans (put_runs h.all h1) (by omega),by omega⟩,h2.mono (by omega),h.n0, ?_⟩;have:=(insKv_len (k:=k) (v:=v) kv).2;have:=h.len;omega
theorem Plays.del {P:Pl} {b:Bt} {n:Int} {i:Nat} {kv:Ens} {k:Bs} (h:Plays P b n i kv) (hk:rightK k=true) :
  ∃b',b.delete k= .ok ((findP kv k).2,b')∧Plays P b' n (i+1) (delKv kv k):=by
 obtain ⟨b',h1,h2,h3⟩:=h.h.delete h.all hk;obtain ⟨c,h4,h5⟩:=h.run;rw [look_isSome] at h1;refine ⟨b',h1,h.ok,⟨c+27,h4.trans h2 (by omega),by omega⟩,h3.mono (by omega),h.n0, ?_⟩;have:=delKv_len kv k;have:=h.len;omega
theorem Plays.laid {P:Pl} {b:Bt} {n:Int} {i:Nat} {kv:Ens} (h:Plays P b n i kv) (hi:i≤100000) :
  ∃P',laidP P b.recs n=some (P',n+b.recs.length)∧Plays P' (newBt P') (n+b.recs.length) (i+1) kv∧PHoldsA P' (n+b.recs.length) (4+i) kv:=by
 obtain ⟨c,h1,h2⟩:=h.run;have h0:=h.n0;obtain ⟨h3,P',h4,h5⟩:=laid_holdsA h.ok (by omega) h1 (by omega) h.h;refine ⟨P',h4,⟨h5.1,⟨0,Runs.refl _ _,by omega⟩,h5.2.mono (by omega),by omega,by have:=h.len;omega⟩,h5⟩
set_option maxRecDepth 20000
set_option maxHeartbeats 8000000
theorem lit_data {w0 w:World} {D:Sto} {ss:List Seg} {b T:Nat} {fr:Nat×Nat} (bs:List Nat) (i:Nat) (hI:Inv w0 D ss w) (hi:ss[i]? =some [(b, .cells (bytesV bs).toArray T fr)]) (hb: ∀x∈bs,x<256) :
  ∃D',Le D D'∧Inv w0 D' (ss.eraseIdx i) w∧RB D' (.slice (some ⟨b,0,none⟩) bs.length bs.length) bs:=by
 obtain ⟨h1,h2⟩:=hI.shut_at i hi;exact ⟨_,h2,h1,RB.lit hb⟩
theorem Inv.part {w0 w:World} {D:Sto} {ss:List Seg} {s1 s2:Seg} (h:Inv w0 D ((s1++s2)::ss) w):Inv w0 D (s1::s2::ss) w:=h.perm (List.Perm.of_eq (by simp))
theorem empty_spec {w0 w:World} {D:Sto} {ss:List Seg} (hI:Inv w0 D ss w) {ad:Nat→Addr} (hS:TSents D ad) :
  Calls Tryd.prog 8 #[] w (Ret fun r w'=> ∃D' s q,Le D D'∧r= .tuple #[.pointer (some ⟨q,0,none⟩), .int .i64 4]∧PoolS D' (.pointer (some ⟨q,0,none⟩)) E0 s∧Inv w0 D' (s::ss) w'):=by
 refine enter (N:=18) Tryd.func8 rfl rfl rfl ?_;intro a hE;refine go 5 hE hI ?_;clear hE a;intro a hE;refine l_step rfl (o_call hE rfl rfl rfl rfl ent_33 (PoolNew_spec hI) ?_);clear hI hE a;rintro r w ⟨s1,hP2,hI⟩ a hE;obtain ⟨bp3,hbp⟩:=hP2.ptr;subst hbp;refine go 5 hE hI ?_;clear hE a;intro a hE;refine zs hE (p_eq rfl rfl (g_none rfl) (e_ptrNil Tryd.underlying25 rfl) rfl rfl) ?_;clear hE a;intro a hE;refine go 6 hE hI ?_;clear hE a;intro a hE;refine l_step rfl (o_call hE rfl rfl rfl rfl ent_34 (Make_spec hI) ?_);clear hI hE a;rintro r w ⟨D4,hD5,hI,hL6⟩ a hE;obtain ⟨A7,c8,rfl,_⟩:=hL6.slice;refine l_step rfl (o_call hE rfl rfl rfl rfl ent_13 (laid_spec hI (hP2.mono hD5) (hS.mono hD5) hL6 (n:=1) (by omega) (by omega) (by show (3:Nat)≤_;omega)) ?_);clear hI hE a;rintro r w h a hE;rcases h with ⟨D9,s10,P11,hD12,hP13,hI,⟨m14,hla15,rfl⟩|⟨hla15,m14,rfl⟩⟩
 ·rw [E0_laid] at hla15;injection hla15 with hla15
  injection hla15 with hz1 hz2
  subst hz1;subst hz2;refine go 9 hE hI ?_;clear hE a;intro a hE;refine zs hE (p_not rfl) ?_;clear hE a;intro a hE;refine go 11 hE hI ?_;clear hE a;intro a hE;refine ret2 rfl hE rfl rfl ?_;exact ⟨_,_,_,(hD5.trans hD12),rfl,hP13,hI⟩
 exfalso;rw [E0_laid] at hla15;cases hla15
theorem first21_spec {w0 w:World} {D:Sto} {ss:List Seg} (hI:Inv w0 D ss w) {ad:Nat→Addr} (hS:TSents D ad) :
  Calls Tryd.prog 6 #[] w (Ret fun r w'=> ∃D',Le D D'∧Inv w0 D' ss w'∧r= .bool true):=by
 refine enter (N:=47) Tryd.func6 rfl rfl rfl ?_;intro a hE;refine go 4 hE hI ?_;clear hE a;intro a hE;refine l_step rfl (o_call hE rfl rfl rfl rfl ent_8 (empty_spec hI hS) ?_);clear hI hE a;rintro r w ⟨D1,s2,q3,hD4,rfl,hP5,hI⟩ a hE;refine go 9 hE hI ?_;clear hE a;intro a hE;refine zs hE (p_eq rfl rfl (g_none rfl) (e_ptrNil Tryd.underlying25 rfl) rfl rfl) ?_;clear hE a;intro a hE;refine go 6 hE hI ?_;clear hE a;intro a hE;refine l_step rfl (o_call hE rfl rfl rfl rfl ent_9 (New_spec hI E0 (some ⟨q3,0,none⟩)) ?_);clear hI hE a;rintro r w ⟨sb6,hB7,hI⟩ a hE;obtain ⟨bb8,hvb⟩:=BatchS.ptr hB7;subst hvb;refine go 2 hE hI ?_;clear hE a;intro a hE;refine wp_seq ?_;refine wp_seq ?_;replace hI:=hI.bring 1;replace hI:=hI.bring 1;replace hI:=hI.merge;have hT9:=TreeS.join hB7 hP5 rfl;refine go 2 hE hI ?_;clear hE a;intro a hE;refine zs hE (p_eq rfl rfl (g_none rfl) (e_ptrNil Tryd.underlying28 rfl) rfl rfl) ?_;clear hE a;intro a hE;refine go 2 hE hI ?_;clear hE a;intro a hE;refine l_go hE rfl (f_lit (vs:= [(0,_)]) (l:= [_]) hE hI rfl rfl rfl rfl Tryd.underlying34 zs_5 rfl rfl rfl ?_);clear hI hE a w;intro a b10 w hE hI;refine l_go hE rfl (f_lit (vs:= [(0,_)]) (l:= [_]) hE hI rfl rfl rfl rfl Tryd.underlying34 zs_5 rfl rfl rfl ?_);clear hI hE a w;intro a b11 w hE hI;obtain ⟨D12,hD13,hIa,hb14⟩:=lit_data [1] 1 hI rfl (by simp);replace hI:=hIa;clear hIa;(try simp only [nrm,Value.cells] at hI);obtain ⟨D15,hD16,hIa,hb17⟩:=lit_data [2] 0 hI rfl (by simp);replace hI:=hIa;clear hIa;(try simp only [nrm,Value.cells] at hI);obtain ⟨b9,hb9,hg9⟩:=first_put;refine l_go hE rfl (o_call hE rfl rfl rfl rfl ent_10 (BPut_spec (key:= [1]) (val:= [2]) hI (hS.mono ((hD4.trans hD13).trans hD16)) (hT9.mono (hD13.trans hD16)) (hb14.mono hD16) hb17 (by show (0:Nat)≤_;omega)) ?_);clear hI hE a;rintro r w h a hE;rcases h with ⟨b18,hx19,rfl,D20,s21,hD22,hT23,hI⟩|⟨c24,o25,hbad,rfl,D26,s27,hD28,hT29,hI⟩
 ·rw [hb9] at hx19;injection hx19 with hx19
  subst hx19;refine go 8 hE hI ?_;clear hE a;intro a hE;refine l_step rfl (f_lit (vs:= [(0,_)]) (l:= [_]) hE hI rfl rfl rfl rfl Tryd.underlying34 zs_5 rfl rfl rfl ?_);clear hI hE a w;intro a b30 w hE hI;obtain ⟨D31,hD32,hIa,hb33⟩:=lit_data [1] 0 hI rfl (by simp);replace hI:=hIa;clear hIa;(try simp only [nrm,Value.cells] at hI);refine l_step rfl (o_call hE rfl rfl rfl rfl ent_32 (BGet_spec (key:= [1]) hI (hS.mono ((((hD4.trans hD13).trans hD16).trans hD22).trans hD32)) (hT23.mono hD32) hb33) ?_);clear hI hE a;rintro r w h a hE;rcases h with ⟨res34,hx35,D36,vr37,hD38,rfl,hr39,hT40,hI⟩|⟨c41,o42,hbad,rfl,D43,s44,hD45,hT46,hI⟩
  ·rw [hg9] at hx35;injection hx35 with hx35
   subst hx35;replace hr39:RB D36 vr37 [2]:=hr39;have hl2:([2]:List Nat).length=1:=rfl;obtain ⟨A47,c48,rfl,_⟩:=hr39.slice;refine go 16 hE hI ?_;clear hE a;intro a hE;refine gs hE (p_len rfl rfl Tryd.underlying34) ?_;clear hE a;intro a hE;refine gs hE (p_cmp rfl rfl (eql_y (rfl))) ?_;clear hE a;intro a hE;refine go 3 hE hI ?_;clear hE a;intro a hE;obtain ⟨b_49,o_49,cs_49,T_49,fr_49,rfl,hb_49,hc_49⟩:=hr39.at_ (by simp);refine gs hE (p_indexAddr rfl rfl Tryd.underlying34 sz_5 (by omega) (by show (0:Int)<((1:Nat):Int);omega) rfl) ?_;clear hE a;intro a hE;refine gl hE (r_load rfl scal_5 (hI.data _ _ (hb_49)) (RB.cell hc_49 (by omega) (by omega))) ?_;clear hE a;intro a hE;refine gs hE (p_cmp rfl rfl (eql_y (rfl))) ?_;clear hE a;intro a hE;refine go 4 hE hI ?_;clear hE a;intro a hE;refine ret1 rfl hE rfl ?_;exact ⟨_,(((((hD4.trans hD13).trans hD16).trans hD22).trans hD32).trans hD38),hI.drop,rfl⟩
  exfalso;rw [hg9] at hbad;cases hbad
 exfalso;rw [hb9] at hbad;cases hbad
end Go.Proofs.YtkknmpkcfpdllaaDoor.B
