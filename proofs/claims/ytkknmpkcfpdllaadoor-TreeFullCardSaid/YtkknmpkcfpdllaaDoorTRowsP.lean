/- What functions of the program compute, each function once: steps over the model, and the plain law of it. -/
import Derived.Test.YtkknmpkcfpdllaaDoorTCheckP
import Derived.Test.YtkknmpkcfpdllaaDoorTCheckC
import Derived.Test.YtkknmpkcfpdllaaDoorTCheckA
namespace Go.Proofs.YtkknmpkcfpdllaaDoor.B
open Go Go.Proofs
set_option linter.unusedVariables false
set_option linter.unusedSimpArgs false
theorem FreeC.toW {b:Bt}: ∀(fr:List Int) {f:Int},FreeC b.view f fr→FreeW b f fr
 | [],_,h=>h
 |j::r,_,⟨h1,h2,h3,y,h4,h5,h6,h7⟩=>⟨h1,h2,h3,y,page_of_view h4,h5,h6,FreeC.toW r h7⟩
theorem check_okA {b:Bt} {K:Nat} {kv:Ens} (h:HoldsA b K kv): ∃px n,b.page 0= .ok px∧px.level=(n:Nat)∧n≤5∧ ∀f,n+1≤f→ ∃c,b.walkF f 0 px.level [] none ⟨[1], [],0⟩= .ok c∧chainOk c.leaves=true∧c.keys=(kv.length:Nat)∧
  ∃y v u ff fr,b.page 1= .ok y∧y.ents= [([110],v)]∧b.pages= .ok (u,ff)∧2≤u∧u≤256∧(c.seen.length:Int)+(fr.length:Nat)=u∧(∀i∈c.seen,i<u)∧FreeW b ff fr∧(∀j∈fr,j ∉ c.seen)∧fr.Nodup∧ ∀j∈fr,j<u:=by
 obtain ⟨n,av,fl,ids,h⟩:=h;have hn5:=h.lvl;obtain ⟨x,js,hx,hlv,_,hids⟩:=h.s.page;have hfr: ∀j∈ids,j ∉ ([1]:List Int):=fun j hj hm=>(h.g.rgi hj).2.2 (by simpa using hm);refine ⟨x,n,page_of_view hx,hlv,hn5,fun f hf=> ?_⟩;obtain ⟨S,L,a1,a2,a3⟩:=walk_sub n f ⟨[1], [],0⟩ hf h.g.i h.s h.g.ids hfr;obtain ⟨u,ff,fr,hA,hav⟩:=h.g.m;have hu1:=hA.u1;have hu2:=hA.u2;have hpg:=hA.pages;obtain ⟨y,hy,hye⟩:=hA.m;have hfrr:=(FreeC.rg fr hA.c).1;have havn:=h.g.avs;rw [hav] at havn;have havn2:=List.nodup_append.1 havn;have hup: ∀j:Int,j ∉ upTo u→j<256→j<u:=fun j h1 h2=>by
  rcases Int.lt_or_le j u with q|q
  ·exact q
  exact absurd (mem_upTo.2 ⟨q,h2⟩) h1
 have hseen: ∀j∈S++ [1],j=1∨j∈ids:=fun j hj=>by
  rcases List.mem_append.1 hj with q|q
  ·exact .inr (a2.mem_iff.1 q)
  simp only [List.mem_cons,List.not_mem_nil,or_false] at q;exact .inl q
 refine ⟨_,by rw [hlv];exact a1,LC.chain _ a3,by simp,y,_,u,ff,fr,page_of_view hy,hye,hpg,by omega,by omega, ?_, ?_,hA.c.toW fr, ?_,havn2.1, ?_⟩
 ·have hc:=h.c;have h1:=a2.length_eq;rw [hav,List.length_append,upTo_len] at hc;simp only [List.length_append,List.length_cons,List.length_nil];omega
 ·intro i hi;rcases hseen i hi with q|q
  ·omega
  exact hup i (fun e=>h.g.dis q (by rw [hav];simp [e])) (h.g.rgi q).2.1
 ·intro j hj hm;rcases hseen j hm with q|q
  ·have:=hfrr j hj;omega
  exact h.g.dis q (by rw [hav];simp [hj])
 intro j hj;exact hup j (fun e=>havn2.2.2 j hj j e rfl) (hfrr j hj).2
def mulS:Nat→Nat
 |0=>1
 |1=>3
 |2=>7
 |3=>11
 |_=>13
def invS:Nat→Nat
 |0=>1
 |1=>141
 |2=>181
 |3=>96
 |_=>65
theorem mulS_inv: ∀s,s<5→ ∀j,j<211→(j*mulS s % 211)*invS s % 211=j:=by decide+kernel
theorem invS_mul: ∀s,s<5→ ∀q,q<211→(q*invS s % 211)*mulS s % 211=q:=by decide+kernel
theorem mulS_inj {s i j:Nat} (hs:s<5) (hi:i<211) (hj:j<211) (h:i*mulS s % 211=j*mulS s % 211):i=j:=by rw [←mulS_inv s hs i hi,h,mulS_inv s hs j hj]
theorem mulS_pos {s i:Nat} (hs:s<5) (h1:1≤i) (hi:i<211):1≤i*mulS s % 211:=by
 rcases Nat.eq_zero_or_pos (i*mulS s % 211) with h|h
 ·have:=mulS_inv s hs i hi;rw [h] at this;omega
 exact h
def keyR (s i:Nat):Bs:= [i*mulS s % 211,1]
theorem insKv_new_len {k v:Bs}: ∀l:Ens,(∀e∈l,e.1≠k)→(insKv l k v).length=l.length+1
 | [],_=>rfl
 |a::r,h=>by
  rw [insKv];split
  ·rw [List.length_cons,insKv_new_len r (fun e he=>h e (by simp [he])),List.length_cons]
  rw [if_neg (h a (by simp))];rfl
def PutR (s i:Nat) (kv:Ens):Prop:=kv.length+1=i∧ ∀e∈kv,∃j,1≤j∧j<i∧e.1=keyR s j
theorem PutR.start (s:Nat):PutR s 1 []:=⟨rfl,by simp⟩
theorem PutR.step {s i:Nat} {kv:Ens} {v:Bs} (hs:s<5) (hi:i<211) (h:PutR s i kv):PutR s (i+1) (insKv kv (keyR s i) v):=by
 have hne: ∀e∈kv,e.1≠keyR s i:=by
  intro e he h0;obtain ⟨j,h1,h2,h3⟩:=h.2 e he;rw [h3] at h0;have:j*mulS s % 211=i*mulS s % 211:=by simpa [keyR] using h0
  have:=mulS_inj hs (by omega) hi this;omega
 refine ⟨by rw [insKv_new_len kv hne];have:=h.1;omega,fun e he=> ?_⟩;rcases insKv_mem kv he with q|q
 ·subst q;exact ⟨i,by have:=h.1;omega,by omega,rfl⟩
 obtain ⟨j,h1,h2,h3⟩:=h.2 e q;exact ⟨j,h1,by omega,h3⟩
def DelR (s n i gone:Nat) (kv:Ens):Prop:=gone+kv.length=n∧ ∀e∈kv,∃q,1≤q∧q≤210∧e.1= [q,1]∧ ∀j,1≤j→j<i→q≠j*mulS s % 211
theorem DelR.start {s s' n:Nat} {kv:Ens} (hs:s'<5) (hn:n≤200) (h:PutR s' (n+1) kv):DelR s n 1 0 kv:=by refine ⟨by have:=h.1;omega,fun e he=> ?_⟩;obtain ⟨j,h1,h2,h3⟩:=h.2 e he;exact ⟨j*mulS s' % 211,mulS_pos hs h1 (by omega),by have:=Nat.mod_lt (j*mulS s') (show 0<211 by decide);omega,h3,fun q h4 h5=>by omega⟩
theorem lookKv_some {kv:Ens} {k:Bs} (hs:Sorted kv) (h:(lookKv kv k).isSome=true):(delKv kv k).length+1=kv.length:=by
 rw [←lookKv_find] at h;have hf:(findP kv k).2=true:=by
  cases hq:(findP kv k).2 with
  |true=>rfl
  |false=>rw [hq] at h;simp at h
 have hlt:=findP_lt hf;rw [←delKv_found kv hs hf,List.length_eraseIdx,if_pos hlt];omega
theorem lookKv_not {kv:Ens} {k:Bs} (hs:Sorted kv) (h:(lookKv kv k).isSome=false):delKv kv k=kv:=by
 rw [←lookKv_find] at h;refine delKv_none hs ?_;cases hq:(findP kv k).2 with
 |true=>rw [hq] at h;simp at h
 |false=>rfl
theorem DelR.step {s n i gone:Nat} {kv:Ens} (hso:Sorted kv) (h:DelR s n i gone kv):DelR s n (i+1) (if (lookKv kv (keyR s i)).isSome=true then gone+1 else gone) (delKv kv (keyR s i)):=by
 refine ⟨?_,fun e he=> ?_⟩
 ·have h0:=h.1;split
  ·rename_i hc;have:=lookKv_some hso hc;omega
  rename_i hc;rw [lookKv_not hso (by simpa using hc)];exact h0
 have hm:=List.mem_filter.1 he;obtain ⟨q,h1,h2,h3,h4⟩:=h.2 e hm.1;refine ⟨q,h1,h2,h3,fun j h5 h6=> ?_⟩;by_cases hj:j=i
 ·subst hj;intro h7;have:e.1≠keyR s j:=by simpa using hm.2
  exact this (by rw [h3,h7];rfl)
 exact h4 j h5 (by omega)
theorem DelR.end_ {s n gone:Nat} {kv:Ens} (hs:s<5) (h:DelR s n 211 gone kv):gone=n∧kv= []:=by
 have hk:kv= []:=by
  cases kv with
  |nil=>rfl
  |cons e r=>
   exfalso;obtain ⟨q,h1,h2,h3,h4⟩:=h.2 e (by simp);have h5:=invS_mul s hs q (by omega);have hlt:=Nat.mod_lt (q*invS s) (show 0<211 by decide);refine h4 (q*invS s % 211) ?_ hlt h5.symm;rcases Nat.eq_zero_or_pos (q*invS s % 211) with h6|h6
   ·rw [h6] at h5;omega
   exact h6
 subst hk;exact ⟨by have:=h.1;simpa using this,rfl⟩
end Go.Proofs.YtkknmpkcfpdllaaDoor.B
