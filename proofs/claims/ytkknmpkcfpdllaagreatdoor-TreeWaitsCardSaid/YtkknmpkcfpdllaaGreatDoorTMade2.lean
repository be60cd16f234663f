/- What functions of the program compute, each function once: steps over the model, and the plain law of it. -/
import Derived.Test.YtkknmpkcfpdllaaGreatDoorTColdSim
import Derived.Test.YtkknmpkcfpdllaaGreatDoorTValuesP
import Derived.Test.YtkknmpkcfpdllaaGreatDoorSSlices
import Derived.Test.YtkknmpkcfpdllaaGreatDoorTCheckG
import Derived.Test.YtkknmpkcfpdllaaGreatDoorTColdP
namespace Go.Proofs.YtkknmpkcfpdllaaGreatDoor.B
open Go Go.Proofs
set_option linter.unusedVariables false
set_option linter.unusedSimpArgs false
theorem only_view {P:Pl} {S:List Int} {j:Int} (h0:0≤j) (h1:j<256) (hj:j∈S):(newBt ⟨only P.f S,0, []⟩).view j=(newBt P).view j:=by rw [newBt_view h0 h1,newBt_view h0 h1];simp only [only];rw [if_pos hj]
theorem only_ok {P:Pl} {n:Int} {S:List Int} (h:PlOk P n):PlOk ⟨only P.f S,0, []⟩ n:=fun id x hx=>by
 simp only [only] at hx;split at hx
 ·exact h id x hx
 cases hx
theorem FreeC.has {V:Vw}: ∀(fr:List Int) {f:Int},FreeC V f fr→ ∀j∈fr,1<j∧j<256∧(V j).isSome=true
 | [],_,_,j,hj=>by simp at hj
 |k::r,_,⟨h1,h2,h3,y,h4,h5,h6,h7⟩,j,hj=>by
  rcases List.mem_cons.1 hj with rfl|hj
  ·exact ⟨h2,h3,by rw [h4];rfl⟩
  exact FreeC.has r h7 j hj
theorem upTo_length (u:Nat):(upTo u).length=256 - u:=by simp [upTo]
theorem stands_few {P:Pl} {n:Int} {K:Nat} {kv:Ens} (hP:PlOk P n) (h:HoldsA 39 (newBt P) K kv) (hK:K≤100) :
  ∃S:List Int,S.length≤39∧(∀j∈S,0≤j∧j<256∧(P.f j).isSome=true)∧HoldsA 39 (newBt ⟨only P.f S,0, []⟩) K kv:=by
 obtain ⟨m,av,fl,ids,h⟩:=h;have hpg:=h.pages;have hc:=h.c;obtain ⟨u,f,fr,hu,hav,hB⟩:=h.g.m;have hu1:=hu.u1;have hu2:=hu.u2;have hlen:av.length=fr.length+(256 - u):=by rw [hav,List.length_append,upTo_length]
 have hfr:=FreeC.has fr hu.c;obtain ⟨x1,hx1,hx1e⟩:=hu.m;have hrg:=fun j hj=>h.g.rgi (j:=j) hj;have hu39:u≤39:=by
  rcases hB with hB|hB
  ·exact hB
  rw [hB,List.length_nil] at hlen;omega
 have hrange: ∀j∈ids++1::fr,0≤j∧j<256:=fun j hj=>by
  rcases List.mem_append.1 hj with q|q
  ·have:=hrg j q;omega
  rcases List.mem_cons.1 q with q|q
  ·omega
  have:=hfr j q;omega
 have hview: ∀j∈ids++1::fr,(newBt ⟨only P.f (ids++1::fr),0, []⟩).view j=(newBt P).view j:=fun j hj=>only_view (hrange j hj).1 (hrange j hj).2 hj;have hvi: ∀j∈ids,(newBt ⟨only P.f (ids++1::fr),0, []⟩).view j=(newBt P).view j:=fun j hj=>hview j (by simp [hj]);have h0:(0:Int)∈ids:=by obtain ⟨x,js,_,_,_,e⟩:=SubT.page h.s;rw [e];simp
 refine ⟨ids++1::fr,by simp only [List.length_append,List.length_cons];omega,fun j hj=>⟨(hrange j hj).1,(hrange j hj).2, ?_⟩,m,av,fl,ids,⟨⟨u,f,fr,⟨⟨x1,by rw [hview 1 (by simp)];exact hx1,hx1e⟩,hu.c.frame fr (fun j hj=>hview j (by simp [hj])),hu1,hu2⟩,hav,hB⟩,IdsOk.new (only_ok hP),h.g.nd,h.g.rg,h.g.a1⟩,SubT.frame m hvi h.s,fun j hj hne x hx=> ?_,hc,fun x hx=>h.r x (by rw [←hvi 0 h0];exact hx),fun x hx=> ?_⟩
 ·rw [←newBt_view (P:=P) (hrange j hj).1 (hrange j hj).2];rcases List.mem_append.1 hj with q|q
  ·exact SubT.has m h.s j q
  rcases List.mem_cons.1 q with q|q
  ·rw [q,hx1];rfl
  exact (hfr j q).2.2
 ·rw [hvi j hj] at hx;exact h.o j hj hne x hx
 have:=h.w x (by rw [←hvi 0 h0];exact hx);rw [wt_frame (V:=(newBt P).view) ids.tail (fun j hj=>hvi j (List.mem_of_mem_tail hj))];exact this
theorem sub_only {P C:Pl} {S:List Int} (hC: ∀id x,C.f id=some x→P.f id=some x):SubF C.f (only P.f S):=fun j x hx=>by
 unfold only at hx;split at hx
 ·cases hc:C.f j with
  |none=>exact .inr rfl
  |some z=>have:=hC j z hc;rw [hx] at this;exact .inl (this▸rfl)
 cases hx
theorem lacks_in {P C:Pl} {S:List Int} {j:Int} (h:Lacks C.f (only P.f S) j):C.f j=none∧j∈S:=by
 refine ⟨h.1, ?_⟩;by_cases q:j∈S
 ·exact q
 exact absurd (by unfold only;rw [if_neg q]) h.2.1
theorem lacks_not {P:Pl} {S:List Int} {j:Int} (h:Lacks P.f (only P.f S) j):False:=by
 have h1:=h.2.1;unfold only at h1;split at h1
 ·exact h1 h.1
 exact h1 rfl
theorem put_waits {P:Pl} {n:Int} {K:Nat} {kv:Ens} (hP:PlOk P n) (h:HoldsA 39 (newBt P) K kv) (hK:K≤100): ∃S:List Int,S.length≤39∧(∀j∈S,0≤j∧j<256∧(P.f j).isSome=true)∧
  (∀key val,rightK key=true→val.length≤64→ ∃b',(newBt P).put key val= .ok b'∧(b'.recs.length≤700∧b'.pool=P.f)∧ ∀C:Pl,(∀id x,C.f id=some x→P.f id=some x)→(newBt C).put key val= .ok (cb C.f b')∨ ∃j,(newBt C).put key val= .fail 113 (some j)∧C.f j=none∧j∈S)∧
  (∀key,rightK key=true→ ∃e b',(newBt P).delete key= .ok (e,b')∧(b'.recs.length≤700∧b'.pool=P.f)∧ ∀C:Pl,(∀id x,C.f id=some x→P.f id=some x)→(newBt C).delete key= .ok (e,cb C.f b')∨ ∃j,(newBt C).delete key= .fail 113 (some j)∧C.f j=none∧j∈S):=by
 obtain ⟨S,h1,h2,h3⟩:=stands_few hP h hK;refine ⟨S,h1,h2,fun key val hk hv=> ?_,fun key hk=> ?_⟩
 ·obtain ⟨b',t,_⟩:=h3.put (by omega) hk hv;have hr:=(Runs.len (put_runs (AllOk.new (only_ok hP)) t)).1;have e0:(newBt ⟨only P.f S,0, []⟩).recs.length=0:=rfl;have hall: ∀C:Pl,(∀id x,C.f id=some x→P.f id=some x)→(newBt C).put key val= .ok (cb C.f b')∨ ∃j,(newBt C).put key val= .fail 113 (some j)∧Lacks C.f (only P.f S) j:=fun C hC=>(put_cold (C:=C.f) (b:=newBt ⟨only P.f S,0, []⟩) (sub_only hC) t).2;refine ⟨cb P.f b', ?_,⟨by show b'.recs.length≤700;omega,rfl⟩,fun C hC=> ?_⟩
  ·rcases hall P (fun _ _ q=>q) with q|⟨j,_,q⟩
   ·exact q
   exact (lacks_not q).elim
  rcases hall C hC with q|⟨j,q,q2⟩
  ·exact .inl q
  exact .inr ⟨j,q,lacks_in q2⟩
 obtain ⟨b',t,hr,_⟩:=h3.delete (AllOk.new (only_ok hP)) hk (by omega);have hr:=(Runs.len hr).1;have e0:(newBt ⟨only P.f S,0, []⟩).recs.length=0:=rfl;have hall: ∀C:Pl,(∀id x,C.f id=some x→P.f id=some x)→(newBt C).delete key= .ok ((lookKv kv key).isSome,cb C.f b')∨ ∃j,(newBt C).delete key= .fail 113 (some j)∧Lacks C.f (only P.f S) j:=fun C hC=>(delete_cold (C:=C.f) (b:=newBt ⟨only P.f S,0, []⟩) (sub_only hC) t).2;refine ⟨(lookKv kv key).isSome,cb P.f b', ?_,⟨by show b'.recs.length≤700;omega,rfl⟩,fun C hC=> ?_⟩
 ·rcases hall P (fun _ _ q=>q) with q|⟨j,_,q⟩
  ·exact q
  exact (lacks_not q).elim
 rcases hall C hC with q|⟨j,q,q2⟩
 ·exact .inl q
 exact .inr ⟨j,q,lacks_in q2⟩
theorem fine_of {P:Pl} {n:Int} (h1:LsnOk P) (hn:n≤1000000000) (h2:PlOk P n) {id:Int} {x:Pg} (hx:P.f id=some x):PgFine x∧x.id=id:=by obtain ⟨a,b,c⟩:=h2 id x hx;exact ⟨⟨a.id.1,a.id.2,h1 _ _ hx,by omega,a.level.1,a.level.2,a.next.1,a.next.2,a.len,a.ents⟩,b⟩
theorem BPut_cold {w0 w:World} {D:Sto} {ss:List Seg} {sb sp:Seg} {vb vp:Value} {b b':Bt} {P:Pl} {S:List Int} (hI:Inv w0 D (sb::sp::ss) w) {ad:Nat→Addr} (hS:TSents D ad) (hB:BatchS D vb vp b sb) (hP:PoolS D vp P sp) (hpool:b.pool=P.f) {vk vv:Value} {key val:Bs} (hk:RB D vk key) (hv:RB D vv val) (hlen:b.recs.length≤1000000000 - 8000)
  (hok:b.put key val= .ok b'∨ ∃j,b.put key val= .fail 113 (some j)∧P.f j=none∧j∈S) :
  Calls Tryz.prog 21 #[vb,vk,vv] w (Ret fun r w'=>(r= .nilIface∧ ∃D' sb' sp',Le D D'∧BatchS D' vb vp b' sb'∧PoolS D' vp P sp'∧Inv w0 D' (sb'::sp'::ss) w')∨
   ∃j D' sb' sp',P.f j=none∧j∈S∧r=errV ad 113∧Le D D'∧BatchS D' vb vp b sb'∧PoolS D' vp (P.want j) sp'∧Inv w0 D' (sb'::sp'::ss) w'):=by
 refine (BPut_spec hI.merge hS (TreeS.join hB hP hpool) hk hv hlen).mono fun e w' h=> ?_;obtain ⟨r,he,h⟩:=h;refine ⟨r,he, ?_⟩;rcases h with ⟨b1,h1,rfl,D',s',hD,hT,hI'⟩|⟨c',o,h1,rfl,D',s',hD,hT,hI'⟩
 ·rcases hok with hok|⟨j,hok,_⟩
  ·rw [hok] at h1;injection h1 with h1;subst h1
   obtain ⟨sb',sp',rfl,hB',hP',_⟩:=hT;exact .inl ⟨rfl,D',sb',sp',hD,hB',hP',hI'.parted⟩
  rw [hok] at h1;cases h1
 rcases hok with hok|⟨j,hok,h2,h3⟩
 ·rw [hok] at h1;cases h1
 rw [hok] at h1;injection h1 with h1 h4;subst h1;subst h4
 obtain ⟨sb',sp',rfl,hB',hP',_⟩:=hT;exact .inr ⟨j,D',sb',sp',h2,h3,rfl,hD,hB',hP',hI'.parted⟩
theorem BDel_cold {w0 w:World} {D:Sto} {ss:List Seg} {sb sp:Seg} {vb vp:Value} {b b':Bt} {P:Pl} {S:List Int} {res:Bool} (hI:Inv w0 D (sb::sp::ss) w) {ad:Nat→Addr} (hS:TSents D ad) (hB:BatchS D vb vp b sb) (hP:PoolS D vp P sp) (hpool:b.pool=P.f) {vk:Value} {key:Bs} (hk:RB D vk key) (hlen:b.recs.length≤1000000000 - 8000)
  (hok:b.delete key= .ok (res,b')∨ ∃j,b.delete key= .fail 113 (some j)∧P.f j=none∧j∈S) :
  Calls Tryz.prog 41 #[vb,vk] w (Ret fun r w'=>(r= .tuple #[.bool res, .nilIface]∧ ∃D' sb' sp',Le D D'∧BatchS D' vb vp b' sb'∧PoolS D' vp P sp'∧Inv w0 D' (sb'::sp'::ss) w')∨
   ∃j D' sb' sp',P.f j=none∧j∈S∧r= .tuple #[.bool false,errV ad 113]∧Le D D'∧BatchS D' vb vp b sb'∧PoolS D' vp (P.want j) sp'∧Inv w0 D' (sb'::sp'::ss) w'):=by
 refine (BDelete_spec hI.merge hS (TreeS.join hB hP hpool) hk hlen).mono fun e w' h=> ?_;obtain ⟨r,he,h⟩:=h;refine ⟨r,he, ?_⟩;rcases h with ⟨res',b1,h1,rfl,D',s',hD,hT,hI'⟩|⟨c',o,h1,rfl,D',s',hD,hT,hI'⟩
 ·rcases hok with hok|⟨j,hok,_⟩
  ·rw [hok] at h1;injection h1 with h1;injection h1 with h1 h2;subst h1;subst h2
   obtain ⟨sb',sp',rfl,hB',hP',_⟩:=hT;exact .inl ⟨rfl,D',sb',sp',hD,hB',hP',hI'.parted⟩
  rw [hok] at h1;cases h1
 rcases hok with hok|⟨j,hok,h2,h3⟩
 ·rw [hok] at h1;cases h1
 rw [hok] at h1;injection h1 with h1 h4;subst h1;subst h4
 obtain ⟨sb',sp',rfl,hB',hP',_⟩:=hT;exact .inr ⟨j,D',sb',sp',h2,h3,rfl,hD,hB',hP',hI'.parted⟩
theorem BatchS.over {D:Sto} {vb vp:Value} {b:Bt} {s:Seg} (h:BatchS D vb vp b s) (f:Int→Option Pg):BatchS D vb vp (cb f b) s:=h
set_option maxRecDepth 20000
set_option maxHeartbeats 8000000
theorem RB.at {D:Sto} {v:Value} {bs bs':List Nat} (h:RB D v bs) (e:bs=bs'):RB D v bs':=e▸h
theorem Inv.shut_one {w0 w:World} {D:Sto} {ss:List Seg} {b:Nat} {o:Obj} (h:Inv w0 D ([(b,o)]::ss) w): ∃D',Le D D'∧Inv w0 D' ss w∧D' b=some o:=
 ⟨_,h.le_shut,h.shut,Sto.put_one D b o⟩
theorem lit_one {w0 w:World} {D:Sto} {ss:List Seg} {b T n:Nat} {fr:Nat×Nat} (i:Nat) (hI:Inv w0 D ss w) (hn:n<256) (hi:ss[i]? =some [(b, .cells [Value.int .u8 ((n:Nat):Int)].toArray T fr)]) :
  ∃D',Le D D'∧Inv w0 D' (ss.eraseIdx i) w∧RB D' (.slice (some ⟨b,0,none⟩) 1 1) [n]:=lit_data [n] i hI hi (by intro x hx;simp only [List.mem_cons,List.not_mem_nil,or_false] at hx;omega)
end Go.Proofs.YtkknmpkcfpdllaaGreatDoor.B
